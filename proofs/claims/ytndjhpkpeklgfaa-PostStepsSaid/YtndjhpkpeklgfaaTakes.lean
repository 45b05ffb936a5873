/- post.Take, Lose, Again: what is answered, what the post is behind it. -/
import Derived.Test.YtndjhpkpeklgfaaSees
import Derived.Test.YtndjhpkpeklgfaaDel
namespace Go.Proofs.Ytndjhpkpeklgfaa.PPost
open Go Go.RowKit Go.Proofs.YtndjhpkpeklgfaaW.PrintWords Go.Proofs.YtndjhpkpeklgfaaW.PrintLast Go.Proofs.YtndjhpkpeklgfaaW.PrintMore Go.Proofs.Ytndjhpkpeklgfaa.Sl
set_option linter.unusedVariables false
set_option linter.unusedSimpArgs false

theorem Po.open_ {T E : Nat} {w : World} {B p : Nat} {o : Option Nat} {nodes last : Int} {l : List S52} (H : Po T E w B p o nodes last l) :
    ∃ A cp, B ≤ p ∧ w.heap[p]? = some (.cells #[.int .i64 nodes, .int .i64 last, .slice A l.length cp] T (0, 0)) ∧ (Value.slice A l.length cp).ownBlock = o ∧ some p ≠ o ∧ Kd.R k52 E w B (fun k => some k = o) (.slice A l.length cp) l := by
  obtain ⟨v, h1, h2, h3, h4, h5⟩ := H
  obtain ⟨A, cp, rfl⟩ := Kd.R_slice h5
  exact ⟨A, cp, h1, h2, h3, h4, h5⟩
theorem del_calls (base : Nat) (v : Value) (l : List S35) (i : Nat) (w : World) (hR : Kd.R k35 35 w base (fun _ => True) v l) (hi : i < l.length) :
    Calls Try.prog 22 #[v, .int .i64 (i : Nat), .int .i64 ((i : Int) + 1)] w fun e w' => ∃ v0_ : Value, e = .returned (v0_) ∧ Kd.R k35 35 w' base (fun _ => True) v0_ (l.eraseIdx i) ∧ w.grownBy w' v.ownBlock ∧ (v0_.ownBlock = v.ownBlock ∨ ∃ b, v0_.ownBlock = some b ∧ w.heap.size ≤ b) := by
  have := delete_calls base v l i (i + 1) w hR (by omega) (by omega)
  rw [List.eraseIdx_eq_take_drop_succ]
  rw [show ((i : Int) + 1) = ((i + 1 : Nat) : Int) by omega]
  exact this
theorem grown_cells {T : Nat} {W w1 : World} {p : Nat} {a b c : Value} {row : Option Nat} (h : W.heap[p]? = some (.cells #[a, b, c] T (0, 0))) (hg : W.grownBy w1 row) (hn : some p ≠ row) :
    w1.heap[p]? = some (.cells #[a, b, c] T (0, 0)) ∧ w1.cell? ⟨p, 0, none⟩ = some a ∧ w1.cell? ⟨p, 1, none⟩ = some b ∧ w1.cell? ⟨p, 2, none⟩ = some c ∧ w1.frozen? ⟨p, 0, none⟩ = false ∧ w1.frozen? ⟨p, 1, none⟩ = false ∧ w1.frozen? ⟨p, 2, none⟩ = false := by
  have h := (hg.block p (Array.getElem?_eq_some_iff.1 h).1 hn).trans h
  exact ⟨h, (blk_cell h 0).trans rfl, (blk_cell h 1).trans rfl, (blk_cell h 2).trans rfl, blk_frozen h 0, blk_frozen h 1, blk_frozen h 2⟩
theorem own_below {T E : Nat} {w : World} {B p : Nat} {o : Option Nat} {nodes last : Int} {l : List S52} (H : Po T E w B p o nodes last l) {g : Nat} (hg : w.heap.size ≤ g) : g ≠ p ∧ some g ≠ o := by
  refine ⟨fun e => ?_, fun e => ?_⟩
  · have := (H.its p (.inl rfl)).2; omega
  · have := (H.its g (.inr e)).2; omega
/-- The post behind a store of another row: and four cells of a block of one's own. -/
theorem take_end {T E : Nat} {w W w6 : World} {B p r : Nat} {o : Option Nat} {nodes last : Int} {l l' : List S52} {v1 c : Value} (H : Po T E w B p o nodes last l) (hW : Below w.heap.size w W) (hg : W.grownBy w6 o) (hR : Kd.R k52 E w6 B (fun _ => True) v1 l')
    (ho : v1.ownBlock = o ∨ ∃ b, v1.ownBlock = some b ∧ W.heap.size ≤ b) (h6 : w6.heap[p]? = some (.cells #[.int .i64 nodes, .int .i64 last, c] T (0, 0))) (hr : w.heap.size ≤ r) (hr2 : r < W.heap.size) (x y z u : Value) :
    Then T E w (((((w6.setCell ⟨p, 2, none⟩ v1).setCell ⟨r, 0, none⟩ x).setCell ⟨r, 1, none⟩ y).setCell ⟨r, 2, none⟩ z).setCell ⟨r, 3, none⟩ u) B p o nodes last l' := by
  have hp := H.its p (.inl rfl)
  obtain ⟨A, cp, g1, g2, g3, g4, g5⟩ := H.open_
  have hb := own_below H hr
  have hs := hW.size
  have hne : some p ≠ v1.ownBlock := by
    rcases ho with e | ⟨b, e, hb⟩
    · rw [e]; exact g4
    · rw [e]; intro h; obtain rfl := Option.some.inj h; omega
  have hrne : some r ≠ v1.ownBlock := by
    rcases ho with e | ⟨b, e, hb⟩
    · rw [e]; exact hb.2
    · rw [e]; intro h; obtain rfl := Option.some.inj h; omega
  have far : ∀ k, k ≠ p → k ≠ r → (((((w6.setCell ⟨p, 2, none⟩ v1).setCell ⟨r, 0, none⟩ x).setCell ⟨r, 1, none⟩ y).setCell ⟨r, 2, none⟩ z).setCell ⟨r, 3, none⟩ u).heap[k]? = w6.heap[k]? := fun k h1 h2 =>
    ((((Below.heap_setCell _ ⟨r, 3, none⟩ _ k h2).trans (Below.heap_setCell _ ⟨r, 2, none⟩ _ k h2)).trans (Below.heap_setCell _ ⟨r, 1, none⟩ _ k h2)).trans (Below.heap_setCell _ ⟨r, 0, none⟩ _ k h2)).trans (Below.heap_setCell _ ⟨p, 2, none⟩ _ k h1)
  refine ⟨v1.ownBlock, ⟨v1, hp.1, ?_, rfl, hne, ?_⟩, ?_, ?_⟩
  · have := Go.Joins.block_setCell (i := 2) h6 v1
    refine Eq.trans ?_ this
    have h2 : p ≠ r := fun e => hb.1 e.symm
    exact (((Below.heap_setCell _ ⟨r, 3, none⟩ _ p h2).trans (Below.heap_setCell _ ⟨r, 2, none⟩ _ p h2)).trans (Below.heap_setCell _ ⟨r, 1, none⟩ _ p h2)).trans (Below.heap_setCell _ ⟨r, 0, none⟩ _ p h2)
  · exact Kd.R_step (R_tight hR) (fun k hk _ => far k (fun e => hne (by rw [← hk, e])) (fun e => hrne (by rw [← hk, e])))
  · have k1 : Kp (Its p o) w w6 := (Kp.of_below hW).grown hg (fun k hk => .inl (.inr hk.symm))
    exact ((((k1.set (p := ⟨p, 2, none⟩) (.inl (.inl rfl)) v1).set (p := ⟨r, 0, none⟩) (.inr hr) x).set (p := ⟨r, 1, none⟩) (.inr hr) y).set (p := ⟨r, 2, none⟩) (.inr hr) z).set (p := ⟨r, 3, none⟩) (.inr hr) u
  · exact ho.imp_right (fun ⟨b, e, h⟩ => ⟨b, e, Nat.le_trans hs h⟩)

set_option maxHeartbeats 4000000 in
set_option maxRecDepth 100000 in
theorem take_no (B p : Nat) (o : Option Nat) (nodes last : Int) (l : List S52) (n : Int) (w : World) (H : Po 58 35 w B p o nodes last l) (hl : l.length ≤ 1000000000000) (ht : there l n = false) :
    Calls Try.prog 12 #[.pointer (some ⟨p, 0, none⟩), .int .i64 n] w fun e w' => e = .returned (.tuple #[.agg #[.int .i64 0, .int .i64 0, .int .i64 0, .string ⟨#[]⟩], .int .i64 6]) ∧ Below w.heap.size w w' := by
  have hu35 := Try.underlying35
  have HH := Aside0.mk (And.intro H (And.intro hl ht))
  clear H hl ht
  go_enter Try.func12, Try.ntmps12
  go_wp2_with (first | ((with_reducible refine gate_dst (N := 4) rfl ?_); (try (refine gate_guard (by rfl) ?_; dsimp only)); refine box_event ?hg (N := 4) ?hd (cs := #[.int .i64 0, .int .i64 0, .int .i64 0, .string ⟨#[]⟩]) (t := 35) ?hr ?_; (case hd => rfl); (case hg => rfl); (case hr => first | (go_simp; done) | (go_simp; rfl)); intro gb hg w3 hbox hb; have HB := Aside0.mk hb; have HX := Aside0.mk (And.intro hg hbox); clear hb hg hbox) | (go_at_call 21; refine (at_no B p o nodes last l n _ (HH.out.1.below HB.out) HH.out.2.1 HH.out.2.2).mono ?_; rintro e w4 ⟨rfl, hb⟩; obtain ⟨A, cp, k2, k3, k4, k5, k6⟩ := look HH.out.1 HX.out.2 HB.out hb; obtain ⟨g0, g1, g2, g3, e0, e1, e2, e3⟩ := box_cells k5; have HK := Aside0.mk (And.intro k5 k6); clear k2 k3 k4 k5 k6 hb))
  refine bodyPost_ret (results_ct rfl _ _ gb 35 #[.int .i64 0, .int .i64 0, .int .i64 0, .string ⟨#[]⟩] (0, 0) _ rfl (put4 HK.out.1 _ _ _ _) Try.underlying35 rfl size35) rfl ?_
  exact ⟨rfl, below4 HK.out.2 (by have := HX.out.1; omega) _ _ _ _⟩
/-- What is known ahead of slices.Delete: at the world W, behind four stores into a block. -/
theorem cut_facts {w w4 w5 : World} {B p g8 r : Nat} {o : Option Nat} {nodes last : Int} {l : List S52} {A : Option Addr} {cp : Nat} {a b c d x y z u : Value} (H : Po 58 35 w B p o nodes last l) (hP : w.heap[p]? = some (.cells #[.int .i64 nodes, .int .i64 last, .slice A l.length cp] 58 (0, 0))) (hR : Kd.R k52 35 w B (fun k => some k = o) (.slice A l.length cp) l)
    (h4 : Below w.heap.size w w4) (h5 : Below w4.heap.size w4 w5) (hg8 : g8 = w4.heap.size) (hx8 : w5.heap[g8]? = some (.cells #[x, y, z, u] 35 (0, 0))) (hr : w.heap.size ≤ r) (hxr : w4.heap[r]? = some (.cells #[a, b, c, d] 35 (0, 0))) (x' y' z' u' : Value) :
    Below w.heap.size w ((((w5.setCell ⟨g8, 0, none⟩ x').setCell ⟨g8, 1, none⟩ y').setCell ⟨g8, 2, none⟩ z').setCell ⟨g8, 3, none⟩ u') ∧
    Kd.R k35 35 ((((w5.setCell ⟨g8, 0, none⟩ x').setCell ⟨g8, 1, none⟩ y').setCell ⟨g8, 2, none⟩ z').setCell ⟨g8, 3, none⟩ u') B (fun _ => True) (.slice A l.length cp) l ∧
    ((((w5.setCell ⟨g8, 0, none⟩ x').setCell ⟨g8, 1, none⟩ y').setCell ⟨g8, 2, none⟩ z').setCell ⟨g8, 3, none⟩ u').heap[p]? = some (.cells #[.int .i64 nodes, .int .i64 last, .slice A l.length cp] 58 (0, 0)) ∧
    ((((w5.setCell ⟨g8, 0, none⟩ x').setCell ⟨g8, 1, none⟩ y').setCell ⟨g8, 2, none⟩ z').setCell ⟨g8, 3, none⟩ u').heap[g8]? = some (.cells #[x', y', z', u'] 35 (0, 0)) ∧
    ((((w5.setCell ⟨g8, 0, none⟩ x').setCell ⟨g8, 1, none⟩ y').setCell ⟨g8, 2, none⟩ z').setCell ⟨g8, 3, none⟩ u').heap[r]? = some (.cells #[a, b, c, d] 35 (0, 0)) ∧ r ≠ g8 ∧ g8 ≠ p ∧ r ≠ p := by
  have hs := h4.size
  have h5' : Below w.heap.size w w5 := h4.trans (h5.mono hs)
  have hW := below4 (g := g8) h5' (by omega) x' y' z' u'
  have hrl := (Array.getElem?_eq_some_iff.1 hxr).1
  have hpl := (Array.getElem?_eq_some_iff.1 hP).1
  have hne : r ≠ g8 := by omega
  refine ⟨hW, Kd.R_mono (Kd.R_below hR hW) (fun _ _ => trivial), (Kp.of_below (S := fun _ => False) hW).blk hP (fun h => h), put4 hx8 _ _ _ _, ?_, hne, by omega, by omega⟩
  refine Eq.trans ?_ ((h5.block r hrl).trans hxr)
  exact (((Below.heap_setCell _ ⟨g8, 3, none⟩ _ r hne).trans (Below.heap_setCell _ ⟨g8, 2, none⟩ _ r hne)).trans (Below.heap_setCell _ ⟨g8, 1, none⟩ _ r hne)).trans (Below.heap_setCell _ ⟨g8, 0, none⟩ _ r hne)
theorem grown_box {W w6 : World} {g t : Nat} {o : Option Nat} {a b c d : Value} (h : W.heap[g]? = some (.cells #[a, b, c, d] t (0, 0))) (hg : W.grownBy w6 o) (hn : some g ≠ o) : w6.heap[g]? = some (.cells #[a, b, c, d] t (0, 0)) :=
  (hg.block g (Array.getElem?_eq_some_iff.1 h).1 hn).trans h
set_option maxHeartbeats 8000000 in
set_option maxRecDepth 100000 in
theorem take_yes (B p : Nat) (o : Option Nat) (nodes last : Int) (l : List S52) (n : Int) (w : World) (H : Po 58 35 w B p o nodes last l) (hl : l.length ≤ 1000000000000) (ht : there l n = true) :
    Calls Try.prog 12 #[.pointer (some ⟨p, 0, none⟩), .int .i64 n] w fun e w' => e = .returned (.tuple #[.agg (let4 (rd_T52 l ((place l n : Nat) : Int))), .int .i64 0]) ∧ Then 58 35 w w' B p o nodes last (l.eraseIdx (place l n)) := by
  have hu35 := Try.underlying35
  have hlt := there_lt ht
  obtain ⟨A, cp, f1, f2, f3, f4, f5⟩ := H.open_
  have hcl := (Kd.R_reads' f5).2.1
  have HH := Aside0.mk (And.intro H (And.intro hl (And.intro ht (And.intro hlt (And.intro f1 (And.intro f2 (And.intro f3 (And.intro f4 f5))))))))
  obtain ⟨q, hq⟩ : ∃ q, q = place l n := ⟨_, rfl⟩
  obtain ⟨x, hx⟩ : ∃ x, x = rd_T52 l ((place l n : Nat) : Int) := ⟨_, rfl⟩
  rw [← hx, ← hq]
  rw [← hq] at hlt hx
  have HQ := Aside0.mk (And.intro hq (And.intro hx hlt))
  have hq0 : (0 : Int) ≤ (q : Int) := by omega
  have hq1 : (q : Int) < (l.length : Int) := by omega
  have hm : (l.length : Int) ≤ 1000000000000 := by omega
  clear H hl ht hq hx hlt f1 f2 f3 f4 f5 hcl
  go_enter Try.func12, Try.ntmps12
  go_wp2_with (first | ((with_reducible refine gate_dst (N := 4) rfl ?_); (try (refine gate_guard (by rfl) ?_; dsimp only)); refine box_event ?hg (N := 4) ?hd (cs := #[.int .i64 0, .int .i64 0, .int .i64 0, .string ⟨#[]⟩]) (t := 35) ?hr ?_; (case hd => rfl); (case hg => rfl); (case hr => first | (go_simp; done) | (go_simp; rfl)); intro gb hg w3 hbox hb; have HB := Aside0.mk hb; have HX := Aside0.mk (And.intro hg hbox); clear hb hg hbox) | ((with_reducible refine gate_dst (N := 8) rfl ?_); (try (refine gate_guard (by rfl) ?_; dsimp only)); refine box_event ?hg (N := 8) ?hd (cs := #[.int .i64 0, .int .i64 0, .int .i64 0, .string ⟨#[]⟩]) (t := 35) ?hr ?_; (case hd => rfl); (case hg => rfl); (case hr => first | (go_simp; done) | (go_simp; rfl)); intro g8 hg w5 hbox hb; have HC := Aside0.mk (And.intro hb (And.intro hg hbox)); obtain ⟨t0, t1, t2, t3, s0, s1, s2, s3⟩ := box_cells hbox; have h5 := HK.out.2.1.trans (hb.mono HK.out.2.1.size); obtain ⟨b9, b0, b1, b2, y0, y1, y2⟩ := po_cells HH.out.2.2.2.2.2.1 h5; have n1 := (own_below HH.out.1 (show w.heap.size ≤ g8 by (have := HK.out.2.1.size; omega))).1; have n2 : ¬ p = g8 := fun h => n1 h.symm; clear b9 h5 hb hg hbox) | (go_at_call 21; refine (at_yes B p o nodes last l n _ (HH.out.1.below HB.out) HH.out.2.1 HH.out.2.2.1).mono ?_; rintro e w4 ⟨rfl, hb⟩; rw [← HQ.out.1]; have k6 := HB.out.trans (hb.mono HB.out.size); have k2 : w4.cell? ⟨p, 2, none⟩ = some (.slice A l.length cp) := (blk_cell ((Kp.of_below (S := fun _ => False) k6).blk HH.out.2.2.2.2.2.1 (fun h => h)) 2).trans rfl; have k5 := (Kp.of_below (S := fun _ => False) hb).blk HX.out.2 (fun h => h); obtain ⟨ad, hA, x0, x1, x2, x3⟩ := at_T52 (Kd.R_reads' (Kd.R_below HH.out.2.2.2.2.2.2.2.2 k6)).2.2 (q : Int) hq0 hq1; rw [← HQ.out.2.1] at x0 x1 x2 x3; simp only [Int.toNat_natCast] at x0 x1 x2 x3; have HK := Aside0.mk (And.intro k5 (And.intro k6 hA)); cases hA; clear k5 k6 hb) | (go_at_call 22; refine (del_calls B _ l q _ ?sR HQ.out.2.2).mono ?_; (case sR => exact (cut_facts HH.out.1 HH.out.2.2.2.2.2.1 HH.out.2.2.2.2.2.2.2.2 HK.out.2.1 HC.out.1 HC.out.2.1 HC.out.2.2 (by have := HX.out.1; omega) HK.out.1 _ _ _ _).2.1); rintro e w6 ⟨v0, rfl, hR6, hg6, ho6⟩; rw [HH.out.2.2.2.2.2.2.1] at hg6 ho6; obtain ⟨hW, _, hPW, h8W, hrW, nr8, n8p, nrp⟩ := cut_facts HH.out.1 HH.out.2.2.2.2.2.1 HH.out.2.2.2.2.2.2.2.2 HK.out.2.1 HC.out.1 HC.out.2.1 HC.out.2.2 (show w.heap.size ≤ gb by (have := HX.out.1; omega)) HK.out.1 (.int .i64 x.f0) (.int .i64 x.f1) (.int .i64 x.f2) (.string x.f3); have hn8 := (own_below HH.out.1 (show w.heap.size ≤ g8 by (have := HC.out.2.1; have := HK.out.2.1.size; omega))).2; have hnr := (own_below HH.out.1 (show w.heap.size ≤ gb by (have := HX.out.1; omega))).2; obtain ⟨z9, z0, z1, z2, v3, v1, v2⟩ := grown_cells hPW hg6 HH.out.2.2.2.2.2.2.2.1; have q8 := grown_box h8W hg6 hn8; have qr := grown_box hrW hg6 hnr; obtain ⟨j0, j1, j2, j3, j4, j5, j6, j7⟩ := box_cells q8; obtain ⟨i0, i1, i2, i3, i4, i5, i6, i7⟩ := box_cells qr; obtain ⟨A1, c1, rfl⟩ := Kd.R_slice hR6; have HZ := Aside0.mk (And.intro hW (And.intro hg6 (And.intro hR6 (And.intro ho6 (And.intro z9 (And.intro q8 (And.intro qr hrW))))))); have hnp1 : ¬ p = gb := (fun h => nrp h.symm); clear hW hg6 hR6 ho6 z9 q8 qr hPW h8W hrW hn8 hnr))
  refine bodyPost_ret (results_ct rfl _ _ gb 35 (let4 x) (0, 0) _ rfl (put4 ((Below.heap_setCell _ ⟨p, 2, none⟩ _ gb nrp).trans HZ.out.2.2.2.2.2.2.1) _ _ _ _) Try.underlying35 rfl size35) rfl ?_
  exact ⟨rfl, take_end HH.out.1 HZ.out.1 HZ.out.2.1 HZ.out.2.2.1 HZ.out.2.2.2.1 HZ.out.2.2.2.2.1 (by have := HX.out.1; omega) (Array.getElem?_eq_some_iff.1 HZ.out.2.2.2.2.2.2.2).1 _ _ _ _⟩

/-! ### what the methods answer, in one word each -/
def see (l : List S52) (n : Int) : S52 × Int := if there l n = true then (rd_T52 l ((place l n : Nat) : Int), 0) else (z52, 6)
def tak (l : List S52) (n : Int) : List S52 := if there l n = true then l.eraseIdx (place l n) else l
theorem see_calls (B p : Nat) (o : Option Nat) (nodes last : Int) (l : List S52) (n : Int) (w : World) (H : Po 58 35 w B p o nodes last l) (hl : l.length ≤ 1000000000000) :
    Calls Try.prog 14 #[.pointer (some ⟨p, 0, none⟩), .int .i64 n] w fun e w' => e = .returned (.tuple #[.agg (let4 (see l n).1), .int .i64 (see l n).2]) ∧ Below w.heap.size w w' := by
  unfold see
  cases ht : there l n with
  | true => simp only [if_true]; exact see_yes B p o nodes last l n w H hl ht
  | false => exact see_no B p o nodes last l n w H hl ht
theorem take_calls (B p : Nat) (o : Option Nat) (nodes last : Int) (l : List S52) (n : Int) (w : World) (H : Po 58 35 w B p o nodes last l) (hl : l.length ≤ 1000000000000) :
    Calls Try.prog 12 #[.pointer (some ⟨p, 0, none⟩), .int .i64 n] w fun e w' => e = .returned (.tuple #[.agg (let4 (see l n).1), .int .i64 (see l n).2]) ∧ Then 58 35 w w' B p o nodes last (tak l n) := by
  unfold see tak
  cases ht : there l n with
  | true => simp only [if_true]; exact take_yes B p o nodes last l n w H hl ht
  | false => exact (take_no B p o nodes last l n w H hl ht).mono fun e w' ⟨h, hb⟩ => ⟨h, .same H hb⟩
theorem see_nil (n : Int) (w : World) : Calls Try.prog 14 #[.pointer none, .int .i64 n] w fun e w' => e = .returned (.tuple #[.agg (let4 z52), .int .i64 6]) ∧ Below w.heap.size w w' := by
  have hu35 := Try.underlying35
  go_enter Try.func14, Try.ntmps14
  go_wp2_with (first | ((with_reducible refine gate_dst (N := 4) rfl ?_); (try (refine gate_guard (by rfl) ?_; dsimp only)); refine box_event ?hg (N := 4) ?hd (cs := #[.int .i64 0, .int .i64 0, .int .i64 0, .string ⟨#[]⟩]) (t := 35) ?hr ?_; (case hd => rfl); (case hg => rfl); (case hr => first | (go_simp; done) | (go_simp; rfl)); intro gb hg w3 hbox hb; have HB := Aside0.mk hb; have HX := Aside0.mk (And.intro hg hbox); clear hb hg hbox) | (go_at_call 21; refine (at_nil n _).mono ?_; rintro e w4 ⟨rfl, hb⟩; have k5 := (Kp.of_below (S := fun _ => False) hb).blk HX.out.2 (fun h => h); obtain ⟨g0, g1, g2, g3, e0, e1, e2, e3⟩ := box_cells k5; have HK := Aside0.mk (And.intro k5 (HB.out.trans (hb.mono HB.out.size))); clear k5 hb))
  refine bodyPost_ret (results_ct rfl _ _ gb 35 #[.int .i64 0, .int .i64 0, .int .i64 0, .string ⟨#[]⟩] (0, 0) _ rfl (put4 HK.out.1 _ _ _ _) Try.underlying35 rfl size35) rfl ?_
  exact ⟨rfl, below4 HK.out.2 (by have := HX.out.1; omega) _ _ _ _⟩
theorem take_nil (n : Int) (w : World) : Calls Try.prog 12 #[.pointer none, .int .i64 n] w fun e w' => e = .returned (.tuple #[.agg (let4 z52), .int .i64 6]) ∧ Below w.heap.size w w' := by
  have hu35 := Try.underlying35
  go_enter Try.func12, Try.ntmps12
  go_wp2_with (first | ((with_reducible refine gate_dst (N := 4) rfl ?_); (try (refine gate_guard (by rfl) ?_; dsimp only)); refine box_event ?hg (N := 4) ?hd (cs := #[.int .i64 0, .int .i64 0, .int .i64 0, .string ⟨#[]⟩]) (t := 35) ?hr ?_; (case hd => rfl); (case hg => rfl); (case hr => first | (go_simp; done) | (go_simp; rfl)); intro gb hg w3 hbox hb; have HB := Aside0.mk hb; have HX := Aside0.mk (And.intro hg hbox); clear hb hg hbox) | (go_at_call 21; refine (at_nil n _).mono ?_; rintro e w4 ⟨rfl, hb⟩; have k5 := (Kp.of_below (S := fun _ => False) hb).blk HX.out.2 (fun h => h); obtain ⟨g0, g1, g2, g3, e0, e1, e2, e3⟩ := box_cells k5; have HK := Aside0.mk (And.intro k5 (HB.out.trans (hb.mono HB.out.size))); clear k5 hb))
  refine bodyPost_ret (results_ct rfl _ _ gb 35 #[.int .i64 0, .int .i64 0, .int .i64 0, .string ⟨#[]⟩] (0, 0) _ rfl (put4 HK.out.1 _ _ _ _) Try.underlying35 rfl size35) rfl ?_
  exact ⟨rfl, below4 HK.out.2 (by have := HX.out.1; omega) _ _ _ _⟩
set_option maxHeartbeats 4000000 in
theorem lose_calls (B p : Nat) (o : Option Nat) (nodes last : Int) (l : List S52) (n : Int) (w : World) (H : Po 58 35 w B p o nodes last l) (hl : l.length ≤ 1000000000000) :
    Calls Try.prog 19 #[.pointer (some ⟨p, 0, none⟩), .int .i64 n] w fun e w' => e = .returned (.int .i64 (see l n).2) ∧ Then 58 35 w w' B p o nodes last (tak l n) := by
  have hu35 := Try.underlying35
  have HH := Aside0.mk (And.intro H hl)
  clear H hl
  go_enter Try.func19, Try.ntmps19
  go_wp2_with (first | ((with_reducible refine gate_dst (N := 5) rfl ?_); (try (refine gate_guard (by rfl) ?_; dsimp only)); refine box_event ?hg (N := 5) ?hd (cs := #[.int .i64 0, .int .i64 0, .int .i64 0, .string ⟨#[]⟩]) (t := 35) ?hr ?_; (case hd => rfl); (case hg => rfl); (case hr => first | (go_simp; done) | (go_simp; rfl)); intro gb hg w3 hbox hb; obtain ⟨g0, g1, g2, g3, e0, e1, e2, e3⟩ := box_cells hbox; have HX := Aside0.mk (And.intro hg (And.intro hb hbox)); clear hb hg hbox) | (go_at_call 12; refine (take_calls B p o nodes last l n _ HH.out.1 HH.out.2).mono ?_; rintro e w' ⟨rfl, hb⟩; have HB := Aside0.mk hb; clear hb; unfold let4))
  go_ret
  exact ⟨rfl, HB.out.before (below4 HX.out.2.1 (by have := HX.out.1; omega) _ _ _ _)⟩
theorem lose_nil (n : Int) (w : World) : Calls Try.prog 19 #[.pointer none, .int .i64 n] w fun e w' => e = .returned (.int .i64 6) ∧ Below w.heap.size w w' := by
  have hu35 := Try.underlying35
  go_enter Try.func19, Try.ntmps19
  go_wp2_with (first | ((with_reducible refine gate_dst (N := 5) rfl ?_); (try (refine gate_guard (by rfl) ?_; dsimp only)); refine box_event ?hg (N := 5) ?hd (cs := #[.int .i64 0, .int .i64 0, .int .i64 0, .string ⟨#[]⟩]) (t := 35) ?hr ?_; (case hd => rfl); (case hg => rfl); (case hr => first | (go_simp; done) | (go_simp; rfl)); intro gb hg w3 hbox hb; obtain ⟨g0, g1, g2, g3, e0, e1, e2, e3⟩ := box_cells hbox; have HX := Aside0.mk (And.intro hg (And.intro hb hbox)); clear hb hg hbox) | (go_at_call 12; refine (take_nil n _).mono ?_; rintro e w' ⟨rfl, hb⟩; have HB := Aside0.mk hb; clear hb; unfold let4))
  go_ret
  exact ⟨rfl, HB.out.trans (below4 (HX.out.2.1.mono HB.out.size) (by have := HX.out.1; have := HB.out.size; omega) _ _ _ _)⟩

/-! ### Again -/
def agn (last : Int) (l : List S52) (n : Int) : Int × Int × Int × List S52 :=
  if there l n = true then (if l.length = 2048 then (0, 5, last, l) else (last + 1, 0, last + 1, l ++ [⟨last + 1, (see l n).1.f1, (see l n).1.f2, (see l n).1.f3⟩])) else (0, 6, last, l)
set_option maxHeartbeats 4000000 in
theorem again_no (B p : Nat) (o : Option Nat) (nodes last : Int) (l : List S52) (n : Int) (w : World) (H : Po 58 35 w B p o nodes last l) (hl : l.length ≤ 2048) (ht : there l n = false) :
    Calls Try.prog 11 #[.pointer (some ⟨p, 0, none⟩), .int .i64 n] w fun e w' => e = .returned (.tuple #[.int .i64 0, .int .i64 6]) ∧ Below w.heap.size w w' := by
  have hu35 := Try.underlying35
  have HH := Aside0.mk (And.intro H (And.intro (show l.length ≤ 1000000000000 by omega) ht))
  clear H hl ht
  go_enter Try.func11, Try.ntmps11
  go_wp2_with (first | ((with_reducible refine gate_dst (N := 6) rfl ?_); (try (refine gate_guard (by rfl) ?_; dsimp only)); refine box_event ?hg (N := 6) ?hd (cs := #[.int .i64 0, .int .i64 0, .int .i64 0, .string ⟨#[]⟩]) (t := 35) ?hr ?_; (case hd => rfl); (case hg => rfl); (case hr => first | (go_simp; done) | (go_simp; rfl)); intro gb hg w3 hbox hb; obtain ⟨g0, g1, g2, g3, e0, e1, e2, e3⟩ := box_cells hbox; have HX := Aside0.mk (And.intro hg (And.intro hb hbox)); clear hb hg hbox) | (go_at_call 14; refine (see_no B p o nodes last l n _ HH.out.1 HH.out.2.1 HH.out.2.2).mono ?_; rintro e w' ⟨rfl, hb⟩; have HB := Aside0.mk hb; clear hb))
  go_ret2
  exact ⟨rfl, HB.out.trans (below4 (HX.out.2.1.mono HB.out.size) (by have := HX.out.1; have := HB.out.size; omega) _ _ _ _)⟩
set_option maxHeartbeats 4000000 in
theorem again_full (B p : Nat) (o : Option Nat) (nodes last : Int) (l : List S52) (n : Int) (w : World) (H : Po 58 35 w B p o nodes last l) (hl : l.length = 2048) (ht : there l n = true) :
    Calls Try.prog 11 #[.pointer (some ⟨p, 0, none⟩), .int .i64 n] w fun e w' => e = .returned (.tuple #[.int .i64 0, .int .i64 5]) ∧ Below w.heap.size w w' := by
  have hu35 := Try.underlying35
  obtain ⟨x, hx⟩ : ∃ x, x = rd_T52 l ((place l n : Nat) : Int) := ⟨_, rfl⟩
  have HH := Aside0.mk (And.intro H (And.intro (show l.length ≤ 1000000000000 by omega) (And.intro ht (And.intro hl hx))))
  clear H hl ht hx
  go_enter Try.func11, Try.ntmps11
  go_wp2_with (first | ((with_reducible refine gate_dst (N := 6) rfl ?_); (try (refine gate_guard (by rfl) ?_; dsimp only)); refine box_event ?hg (N := 6) ?hd (cs := #[.int .i64 0, .int .i64 0, .int .i64 0, .string ⟨#[]⟩]) (t := 35) ?hr ?_; (case hd => rfl); (case hg => rfl); (case hr => first | (go_simp; done) | (go_simp; rfl)); intro gb hg w3 hbox hb; obtain ⟨g0, g1, g2, g3, e0, e1, e2, e3⟩ := box_cells hbox; have HX := Aside0.mk (And.intro hg (And.intro hb hbox)); clear hb hg hbox) | (go_at_call 14; refine (see_yes B p o nodes last l n _ HH.out.1 HH.out.2.1 HH.out.2.2.1).mono ?_; rintro e w' ⟨rfl, hb⟩; have HB := Aside0.mk hb; clear hb; unfold let4; rw [← HH.out.2.2.2.2]) | (go_at_call 20; refine (add_full B p o nodes last l x _ ?sP HH.out.2.2.2.1).mono ?_; (case sP => exact HH.out.1.below (HB.out.trans (below4 (HX.out.2.1.mono HB.out.size) (by have := HX.out.1; have := HB.out.size; omega) _ _ _ _))); rintro e w7 ⟨rfl, h7⟩; have H7 := Aside0.mk h7; clear h7))
  go_ret2
  have q := HB.out.trans (below4 (g := gb) (HX.out.2.1.mono HB.out.size) (by have := HX.out.1; have := HB.out.size; omega) (.int .i64 x.f0) (.int .i64 x.f1) (.int .i64 x.f2) (.string x.f3))
  exact ⟨rfl, q.trans (H7.out.mono q.size)⟩
set_option maxHeartbeats 4000000 in
theorem again_room (B p : Nat) (o : Option Nat) (nodes last : Int) (l : List S52) (n : Int) (w : World) (H : Po 58 35 w B p o nodes last l) (hB : B ≤ w.heap.size) (hl : l.length < 2048) (ht : there l n = true) (h0 : 0 ≤ last) (hm : last < 1000000000000000000) :
    Calls Try.prog 11 #[.pointer (some ⟨p, 0, none⟩), .int .i64 n] w fun e w' => e = .returned (.tuple #[.int .i64 (last + 1), .int .i64 0]) ∧ Then 58 35 w w' B p o nodes (last + 1) (l ++ [⟨last + 1, (rd_T52 l ((place l n : Nat) : Int)).f1, (rd_T52 l ((place l n : Nat) : Int)).f2, (rd_T52 l ((place l n : Nat) : Int)).f3⟩]) := by
  have hu35 := Try.underlying35
  obtain ⟨x, hx⟩ : ∃ x, x = rd_T52 l ((place l n : Nat) : Int) := ⟨_, rfl⟩
  rw [← hx]
  have HH := Aside0.mk (And.intro H (And.intro (show l.length ≤ 1000000000000 by omega) (And.intro ht (And.intro hl (And.intro hx (And.intro hB (And.intro h0 hm)))))))
  clear H hl ht hx hB h0 hm
  go_enter Try.func11, Try.ntmps11
  go_wp2_with (first | ((with_reducible refine gate_dst (N := 6) rfl ?_); (try (refine gate_guard (by rfl) ?_; dsimp only)); refine box_event ?hg (N := 6) ?hd (cs := #[.int .i64 0, .int .i64 0, .int .i64 0, .string ⟨#[]⟩]) (t := 35) ?hr ?_; (case hd => rfl); (case hg => rfl); (case hr => first | (go_simp; done) | (go_simp; rfl)); intro gb hg w3 hbox hb; obtain ⟨g0, g1, g2, g3, e0, e1, e2, e3⟩ := box_cells hbox; have HX := Aside0.mk (And.intro hg (And.intro hb hbox)); clear hb hg hbox) | (go_at_call 14; refine (see_yes B p o nodes last l n _ HH.out.1 HH.out.2.1 HH.out.2.2.1).mono ?_; rintro e w' ⟨rfl, hb⟩; have HB := Aside0.mk hb; clear hb; unfold let4; rw [← HH.out.2.2.2.2.1]) | (go_at_call 20; refine (add_room B p o nodes last l x _ ?sP ?sB HH.out.2.2.2.1 HH.out.2.2.2.2.2.2.1 HH.out.2.2.2.2.2.2.2).mono ?_; (case sP => exact HH.out.1.below (HB.out.trans (below4 (HX.out.2.1.mono HB.out.size) (by have := HX.out.1; have := HB.out.size; omega) _ _ _ _))); (case sB => exact Nat.le_trans HH.out.2.2.2.2.2.1 (HB.out.trans (below4 (HX.out.2.1.mono HB.out.size) (by have := HX.out.1; have := HB.out.size; omega) _ _ _ _)).size); rintro e w7 ⟨rfl, h7⟩; have H7 := Aside0.mk h7; clear h7))
  go_ret2
  have q := HB.out.trans (below4 (g := gb) (HX.out.2.1.mono HB.out.size) (by have := HX.out.1; have := HB.out.size; omega) (.int .i64 x.f0) (.int .i64 x.f1) (.int .i64 x.f2) (.string x.f3))
  exact ⟨rfl, Then.after q H7.out⟩
theorem again_calls (B p : Nat) (o : Option Nat) (nodes last : Int) (l : List S52) (n : Int) (w : World) (H : Po 58 35 w B p o nodes last l) (hB : B ≤ w.heap.size) (hl : l.length ≤ 2048) (h0 : 0 ≤ last) (hm : last < 1000000000000000000) :
    Calls Try.prog 11 #[.pointer (some ⟨p, 0, none⟩), .int .i64 n] w fun e w' => e = .returned (.tuple #[.int .i64 (agn last l n).1, .int .i64 (agn last l n).2.1]) ∧ Then 58 35 w w' B p o nodes (agn last l n).2.2.1 (agn last l n).2.2.2 := by
  unfold agn
  cases ht : there l n with
  | false => exact (again_no B p o nodes last l n w H hl ht).mono fun e w' ⟨h, hb⟩ => ⟨h, .same H hb⟩
  | true =>
    simp only [if_true, see, ht]
    by_cases c : l.length = 2048
    · simp only [if_pos c]
      exact (again_full B p o nodes last l n w H c ht).mono fun e w' ⟨h, hb⟩ => ⟨h, .same H hb⟩
    · simp only [if_neg c]
      exact again_room B p o nodes last l n w H hB (by omega) ht h0 hm
theorem again_nil (n : Int) (w : World) : Calls Try.prog 11 #[.pointer none, .int .i64 n] w fun e w' => e = .returned (.tuple #[.int .i64 0, .int .i64 6]) ∧ Below w.heap.size w w' := by
  have hu35 := Try.underlying35
  go_enter Try.func11, Try.ntmps11
  go_wp2_with (first | ((with_reducible refine gate_dst (N := 6) rfl ?_); (try (refine gate_guard (by rfl) ?_; dsimp only)); refine box_event ?hg (N := 6) ?hd (cs := #[.int .i64 0, .int .i64 0, .int .i64 0, .string ⟨#[]⟩]) (t := 35) ?hr ?_; (case hd => rfl); (case hg => rfl); (case hr => first | (go_simp; done) | (go_simp; rfl)); intro gb hg w3 hbox hb; obtain ⟨g0, g1, g2, g3, e0, e1, e2, e3⟩ := box_cells hbox; have HX := Aside0.mk (And.intro hg (And.intro hb hbox)); clear hb hg hbox) | (go_at_call 14; refine (see_nil n _).mono ?_; rintro e w' ⟨rfl, hb⟩; have HB := Aside0.mk hb; clear hb; unfold let4))
  go_ret2
  exact ⟨rfl, HB.out.trans (below4 (HX.out.2.1.mono HB.out.size) (by have := HX.out.1; have := HB.out.size; omega) _ _ _ _)⟩
end Go.Proofs.Ytndjhpkpeklgfaa.PPost
