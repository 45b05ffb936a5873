/- The reference's Take: the post's. -/
import Derived.Test.YtndjhpkpeklgfaaRSends
namespace Go.Proofs.Ytndjhpkpeklgfaa.PPost
open Go Go.RowKit Go.Proofs.YtndjhpkpeklgfaaW.PrintWords Go.Proofs.YtndjhpkpeklgfaaW.PrintLast Go.Proofs.YtndjhpkpeklgfaaW.PrintMore Go.Proofs.Ytndjhpkpeklgfaa.Sl
set_option linter.unusedVariables false
set_option linter.unusedSimpArgs false
/-- Behind a method that may give up its row. -/
def Thn (T E : Nat) (w w' : World) (B p : Nat) (o : Option Nat) (nodes last : Int) (l : List S52) : Prop :=
  ∃ o', Po T E w' B p o' nodes last l ∧ Kp (Its p o) w w' ∧ ∀ b, o' = some b → o = some b ∨ w.heap.size ≤ b
theorem Then.thn {T E : Nat} {w w' : World} {B p : Nat} {o : Option Nat} {nodes last : Int} {l : List S52} (h : Then T E w w' B p o nodes last l) : Thn T E w w' B p o nodes last l := by
  obtain ⟨o', h1, h2, h3⟩ := h
  refine ⟨o', h1, h2, fun b e => ?_⟩
  rcases h3 with h3 | ⟨c, h3, hc⟩
  · exact .inl (by rw [← h3]; exact e)
  · rw [e] at h3; obtain rfl := Option.some.inj h3; exact .inr hc
theorem take_snoc' (l : List S52) (k : Nat) (h : k < l.length) : l.take (k + 1) = l.take k ++ [rd_T52 l (k : Int)] := by
  rw [rd_get h, List.take_append_getElem]
def outs (l : List S52) (n : Int) (k : Nat) : List S52 := if there l n = true ∧ place l n < k then (l.take k).eraseIdx (place l n) else l.take k
theorem outs_eq {l : List S52} (U : Up l) {k : Nat} {n : Int} (hk : k < l.length) (he : (rd_T52 l (k : Int)).f0 = n) : outs l n (k + 1) = outs l n k := by
  subst he
  unfold outs
  rw [place_at U hk, if_pos ⟨there_at U hk, by omega⟩, if_neg (by omega), take_snoc' l k hk]
  have e : (l.take k).length = k := by simp; omega
  rw [List.eraseIdx_append_of_length_le (by omega), e, Nat.sub_self]
  simp
theorem outs_ne {l : List S52} {k : Nat} {n : Int} (hk : k < l.length) (hne : (rd_T52 l (k : Int)).f0 ≠ n) : outs l n (k + 1) = outs l n k ++ [rd_T52 l (k : Int)] := by
  unfold outs
  by_cases ht : there l n = true
  · obtain ⟨a, b⟩ := there_ex ht
    have : place l n ≠ k := fun e => hne (by rw [← e]; exact b)
    by_cases hlt : place l n < k
    · rw [if_pos ⟨ht, by omega⟩, if_pos ⟨ht, hlt⟩, take_snoc' l k hk, List.eraseIdx_append_of_lt_length (by simp; omega)]
    · rw [if_neg (by omega), if_neg (by omega), take_snoc' l k hk]
  · rw [if_neg (fun h => ht h.1), if_neg (fun h => ht h.1), take_snoc' l k hk]
theorem outs_all (l : List S52) (n : Int) : outs l n l.length = tak l n := by
  unfold outs tak
  by_cases ht : there l n = true
  · rw [if_pos ⟨ht, (there_ex ht).1⟩, if_pos ht, List.take_length]
  · rw [if_neg (fun h => ht h.1), if_neg ht, List.take_length]
theorem outs_len (l : List S52) (n : Int) (k : Nat) : (outs l n k).length ≤ k := by
  unfold outs
  split
  · have := List.length_eraseIdx_le (l.take k) (place l n); simp at this; omega
  · simp; omega
theorem rtake_end {T E hi : Nat} {w W : World} {B p : Nat} {o : Option Nat} {nodes last : Int} {l l' : List S52} {v : Value} (H : Po T E w B p o nodes last l) (hb : Below w.heap.size w W) (hB : B ≤ w.heap.size) (hR : Kd.R k52 E W hi (fun _ => True) v l') (hhi : w.heap.size ≤ hi) :
    Thn T E w (W.setCell ⟨p, 2, none⟩ v) B p o nodes last l' := by
  obtain ⟨A, cp, f1, f2, f3, f4, f5⟩ := H.open_
  have hp := (Array.getElem?_eq_some_iff.1 f2).1
  have k1 : Kp (fun k => k = p) W (W.setCell ⟨p, 2, none⟩ v) := (Kp.refl (fun k => k = p) W).set (p := ⟨p, 2, none⟩) (.inl rfl) v
  have hown := R_lt hR
  have hblk : (W.setCell ⟨p, 2, none⟩ v).heap[p]? = some (.cells #[.int .i64 nodes, .int .i64 last, v] T (0, 0)) := Go.Joins.block_setCell (i := 2) ((hb.block p hp).trans f2) v
  refine ⟨v.ownBlock, ⟨v, f1, hblk, rfl, fun e => ?_, ?_⟩, ?_, fun b e => .inr ?_⟩
  · have := (hown p e.symm).1; omega
  · refine Kd.R_lower (R_kp (R_tight hR) k1 (fun b hb' e => ?_)) (Nat.le_trans hB hhi)
    have := (hown b hb'.symm).1
    omega
  · exact ((Kp.of_below (S := Its p o) hb).set (p := ⟨p, 2, none⟩) (.inl (.inl rfl)) v)
  · have := (hown b e).1; omega
theorem rtake_end2 {T E hi gb : Nat} {w W : World} {B p : Nat} {o : Option Nat} {nodes last : Int} {l l' : List S52} {v : Value} (H : Po T E w B p o nodes last l) (hb : Below w.heap.size w W) (hB : B ≤ w.heap.size) (hR : Kd.R k52 E W hi (fun _ => True) v l') (hhi : w.heap.size ≤ hi) (h1 : w.heap.size ≤ gb) (h2 : gb < hi) (x y z u : Value) :
    Thn T E w (((((W.setCell ⟨p, 2, none⟩ v).setCell ⟨gb, 0, none⟩ x).setCell ⟨gb, 1, none⟩ y).setCell ⟨gb, 2, none⟩ z).setCell ⟨gb, 3, none⟩ u) B p o nodes last l' := by
  have hp := (H.its p (.inl rfl)).2
  obtain ⟨o', t1, t2, t3⟩ := rtake_end H hb hB hR hhi
  have k4 : Kp (fun k => k = gb) (W.setCell ⟨p, 2, none⟩ v) _ := kp4 (S := fun k => k = gb) rfl x y z u
  have ho : ∀ b, o' = some b → hi ≤ b := by
    obtain ⟨v', _, g2, g3, _⟩ := t1
    obtain ⟨A, cp, f1, f2, f3, f4, f5⟩ := H.open_
    have hblk : (W.setCell ⟨p, 2, none⟩ v).heap[p]? = some (.cells #[.int .i64 nodes, .int .i64 last, v] T (0, 0)) := Go.Joins.block_setCell (i := 2) ((hb.block p hp).trans f2) v
    rw [hblk] at g2
    have hv : v = v' := by simpa using g2
    intro b e
    rw [← g3, ← hv] at e
    exact (R_lt hR b e).1
  refine ⟨o', t1.move k4 (fun b hi' e => ?_), t2.step k4 (fun b e => .inr (by rw [e]; exact h1)), t3⟩
  subst e
  rcases hi' with e | e
  · omega
  · have := ho b e.symm; omega
set_option maxHeartbeats 2000000 in
set_option maxRecDepth 100000 in
theorem rtake_no (B p : Nat) (o : Option Nat) (nodes last : Int) (l : List S52) (n : Int) (w : World) (H : Po 51 52 w B p o nodes last l) (U : Up l) (hl : l.length ≤ 2048) (ht : there l n = false) :
    Calls Try.prog 24 #[.pointer (some ⟨p, 0, none⟩), .int .i64 n] w fun e w' => e = .returned (.tuple #[.agg #[.int .i64 0, .int .i64 0, .int .i64 0, .string ⟨#[]⟩], .int .i64 6]) ∧ Below w.heap.size w w' := by
  have hu52 := Try.underlying52
  have HH := Aside0.mk (And.intro H (And.intro U (And.intro hl ht)))
  have HQ := Aside0.mk (see_not ht)
  clear H U hl ht
  go_enter Try.func24, Try.ntmps24
  go_wp2_with (first | ((with_reducible refine gate_dst (N := 4) rfl ?_); (try (refine gate_guard (by rfl) ?_; dsimp only)); refine box_event ?hg (N := 4) ?hd (cs := #[.int .i64 0, .int .i64 0, .int .i64 0, .string ⟨#[]⟩]) (t := 52) ?hr ?_; (case hd => rfl); (case hg => rfl); (case hr => first | (go_simp; done) | (go_simp; rfl)); intro gb hg w3 hbox hb; have HX := Aside0.mk (And.intro hg (And.intro hbox hb)); clear hg hbox hb) | (go_at_call 28; refine (rsee_calls B p o nodes last l n _ (HH.out.1.below HX.out.2.2) HH.out.2.1 HH.out.2.2.1).mono ?_; rw [HQ.out]; rintro e w4 ⟨rfl, hb⟩; have HB := Aside0.mk hb; clear hb) | ((with_reducible refine gate_dst (N := 6) rfl ?_); (try (refine gate_guard (by rfl) ?_; dsimp only)); refine box_event ?hg (N := 6) ?hd (cs := #[.int .i64 0, .int .i64 0, .int .i64 0, .string ⟨#[]⟩]) (t := 52) ?hr ?_; (case hd => rfl); (case hg => rfl); (case hr => first | (go_simp; done) | (go_simp; rfl)); intro gc hg w5 hbox hb; have hgb := (hb.block gb (by have := HB.out.size; have := (blk_lt HX.out.2.1); omega)).trans ((HB.out.block gb (blk_lt HX.out.2.1)).trans HX.out.2.1); obtain ⟨h0, h1, h2, h3, m0, m1, m2, m3⟩ := box_cells hbox; obtain ⟨g0, g1, g2, g3, e0, e1, e2, e3⟩ := box_cells hgb; have hn1 : ¬ gb = gc := (by have := HB.out.size; have := (blk_lt HX.out.2.1); omega); have hn2 : ¬ gc = gb := (fun h => hn1 h.symm); have HY := Aside0.mk (And.intro hgb (And.intro (HX.out.2.2.trans ((HB.out.trans (hb.mono HB.out.size)).mono HX.out.2.2.size)) (And.intro (show w.heap.size ≤ gc by have := HB.out.size; have := HX.out.2.2.size; omega) hbox))); clear hg hbox hb hgb))
  refine bodyPost_ret (results_ct rfl _ _ gb 52 #[.int .i64 0, .int .i64 0, .int .i64 0, .string ⟨#[]⟩] (0, 0) _ rfl (put4 ((far4 w5 hn1 (.int .i64 0) (.int .i64 0) (.int .i64 0) (.string ⟨#[]⟩)).trans HY.out.1) _ _ _ _) Try.underlying52 rfl size52) rfl ?_
  exact ⟨rfl, below4 (below4 HY.out.2.1 (g := gc) HY.out.2.2.1 _ _ _ _) (g := gb) (by have := HX.out.1; omega) _ _ _ _⟩
set_option maxHeartbeats 2000000 in
set_option maxRecDepth 100000 in
theorem rtake_yes (B p : Nat) (o : Option Nat) (nodes last : Int) (l : List S52) (n : Int) (w : World) (H : Po 51 52 w B p o nodes last l) (hB0 : B ≤ w.heap.size) (U : Up l) (hl : l.length ≤ 2048) (ht : there l n = true) :
    Calls Try.prog 24 #[.pointer (some ⟨p, 0, none⟩), .int .i64 n] w fun e w' => e = .returned (.tuple #[.agg (let4 (rd_T52 l ((place l n : Nat) : Int))), .int .i64 0]) ∧ Thn 51 52 w w' B p o nodes last (tak l n) := by
  have hu52 := Try.underlying52
  obtain ⟨y, hy⟩ : ∃ y, y = rd_T52 l ((place l n : Nat) : Int) := ⟨_, rfl⟩
  have hse : see l n = (y, 0) := by rw [hy, see, if_pos ht]
  rw [← hy]
  obtain ⟨A, cp, f1, f2, f3, f4, f5⟩ := H.open_
  obtain ⟨_, hlc, hC⟩ := Kd.R_reads' f5
  have HH := Aside0.mk (And.intro H (And.intro U (And.intro hl (And.intro ht (And.intro hB0 (And.intro f2 (And.intro hC (Array.getElem?_eq_some_iff.1 f2).1)))))))
  have HQ := Aside0.mk hse
  have hm : (l.length : Int) ≤ 2048 := by omega
  clear H U hl ht hB0 hse hy f1 f2 f3 f4 f5 hlc hC
  go_enter Try.func24, Try.ntmps24
  go_wp2_with (first | ((with_reducible refine gate_dst (N := 4) rfl ?_); (try (refine gate_guard (by rfl) ?_; dsimp only)); refine box_event ?hg (N := 4) ?hd (cs := #[.int .i64 0, .int .i64 0, .int .i64 0, .string ⟨#[]⟩]) (t := 52) ?hr ?_; (case hd => rfl); (case hg => rfl); (case hr => first | (go_simp; done) | (go_simp; rfl)); intro gb hg w3 hbox hb; have HX := Aside0.mk (And.intro hg (And.intro hbox hb)); clear hg hbox hb) | (go_at_call 28; refine (rsee_calls B p o nodes last l n _ (HH.out.1.below HX.out.2.2) HH.out.2.1 HH.out.2.2.1).mono ?_; rw [HQ.out]; rintro e w4 ⟨rfl, hb⟩; have HB := Aside0.mk hb; clear hb) | (((with_reducible refine gate_dst (N := 6) rfl ?_); (try (refine gate_guard (by rfl) ?_; dsimp only)); refine box_event ?hg (N := 6) ?hd (cs := #[.int .i64 0, .int .i64 0, .int .i64 0, .string ⟨#[]⟩]) (t := 52) ?hr ?_; (case hd => rfl); (case hg => rfl); (case hr => first | (go_simp; done) | (go_simp; rfl)); intro gc hg w5 hbox hb; have hgb := (hb.block gb (by have := HB.out.size; have := (blk_lt HX.out.2.1); omega)).trans ((HB.out.block gb (blk_lt HX.out.2.1)).trans HX.out.2.1); obtain ⟨h0, h1, h2, h3, m0, m1, m2, m3⟩ := box_cells hbox; obtain ⟨g0, g1, g2, g3, e0, e1, e2, e3⟩ := box_cells hgb; have hn1 : ¬ gb = gc := (by have := HB.out.size; have := (blk_lt HX.out.2.1); omega); have hn2 : ¬ gc = gb := (fun h => hn1 h.symm); have HY := Aside0.mk (And.intro hgb (And.intro (HX.out.2.2.trans ((HB.out.trans (hb.mono HB.out.size)).mono HX.out.2.2.size)) (And.intro (show w.heap.size ≤ gc by have := HB.out.size; have := HX.out.2.2.size; omega) hbox))); clear hg hbox hb hgb); obtain ⟨_, c0, c1, c2, _, _, _⟩ := po_cells HH.out.2.2.2.2.2.1 HY.out.2.1; have hn3 : ¬ p = gc := (by have := HY.out.2.2.1; have := HH.out.2.2.2.2.2.2.2; omega); have hn4 : ¬ gc = p := (fun h => hn3 h.symm)))
  have hbx := put4 HY.out.2.2.2 (.int .i64 y.f0) (.int .i64 y.f1) (.int .i64 y.f2) (.string y.f3)
  have hbw := below4 HY.out.2.1 (g := gc) HY.out.2.2.1 (.int .i64 y.f0) (.int .i64 y.f1) (.int .i64 y.f2) (.string y.f3)
  have hgb := (far4 w5 hn1 (.int .i64 y.f0) (.int .i64 y.f1) (.int .i64 y.f2) (.string y.f3)).trans HY.out.1
  obtain ⟨W, hW⟩ : ∃ W, W = ((((w5.setCell ⟨gc, 0, none⟩ (.int .i64 y.f0)).setCell ⟨gc, 1, none⟩ (.int .i64 y.f1)).setCell ⟨gc, 2, none⟩ (.int .i64 y.f2)).setCell ⟨gc, 3, none⟩ (.string y.f3)) := ⟨_, rfl⟩
  rw [← hW] at hbx hbw hgb
  rw [← hW]
  clear hW g0 g1 g2 g3 e0 e1 e2 e3 h0 h1 h2 h3 m0 m1 m2 m3 c0 c1 c2
  have HZ := Aside0.mk (And.intro hbx (And.intro hbw hgb))
  clear hbx hbw hgb
  go_loopw [8, 26] (fun ov i wr => ∃ k : Nat, k ≤ l.length ∧ i = .int .i64 k ∧ Aside0 (Kd.R k52 52 wr W.heap.size (fun _ => True) ov (outs l n k)) ∧ Aside0 (Below W.heap.size W wr)) (fun _ i _ => l.length - (intOf i).toNat)
  case atStart => exact ⟨0, Nat.zero_le _, rfl, ⟨by rw [show outs l n 0 = [] by simp [outs]]; exact Kd.R_nil _ _ _ _ _⟩, ⟨Below.refl _ _⟩⟩
  case round =>
    obtain ⟨k, hk, rfl, HR, HB2⟩ := hrel
    by_cases hlt : k < l.length
    · have hltI : (k : Int) < (l.length : Int) := by omega
      obtain ⟨ad, hA, x0, x1, x2, x3⟩ := at_T52 (Kd.C_below HH.out.2.2.2.2.2.2.1 (HZ.out.2.1.trans (HB2.out.mono HZ.out.2.1.size))) (k : Int) (by omega) hltI
      simp only [Int.toNat_natCast] at x0 x1 x2 x3
      have ho1 := outs_eq (n := n) HH.out.2.1 hlt
      have ho2 := outs_ne (n := n) hlt
      have hol := outs_len l n k
      obtain ⟨x, hx⟩ : ∃ x, x = rd_T52 l (k : Int) := ⟨_, rfl⟩
      rw [← hx] at x0 x1 x2 x3 ho1 ho2
      by_cases hxn : x.f0 = n
      · have d0 : (x.f0 != n) = false := by simp [hxn]
        have HN := Aside0.mk (And.intro hlt (ho1 hxn))
        clear ho1 ho2 hxn hx hlt hol
        subst hA
        go_wp2_with (first | ((with_reducible refine gate_dst (N := 10) rfl ?_); (try (refine gate_guard (by rfl) ?_; dsimp only)); refine box_event ?hg (N := 10) ?hd (cs := #[.int .i64 0, .int .i64 0, .int .i64 0, .string ⟨#[]⟩]) (t := 52) ?hr ?_; (case hd => rfl); (case hg => rfl); (case hr => first | (go_simp; done) | (go_simp; rfl)); intro gd hg w7 hbox hb; obtain ⟨h0, h1, h2, h3, m0, m1, m2, m3⟩ := box_cells hbox; have HD := Aside0.mk (And.intro hb (show W.heap.size ≤ gd by have := HB2.out.size; omega)); have HD2 := Aside0.mk (show gd = _ from hg); clear hg hbox hb))
        exact ⟨⟨k + 1, HN.out.1, by congr 1, ⟨by rw [HN.out.2]; exact Kd.R_below HR.out (below4 (g := gd) HD.out.1 (by have := HD2.out; omega) _ _ _ _)⟩, ⟨below4 (HB2.out.trans (HD.out.1.mono HB2.out.size)) (g := gd) HD.out.2 _ _ _ _⟩⟩, by have := HN.out.1; simp only [intOf]; omega⟩
      · have d0 : (x.f0 != n) = true := by simpa using hxn
        have HN := Aside0.mk (And.intro hlt (And.intro (ho2 hxn) (show (outs l n k).length ≤ 2048 by omega)))
        clear ho1 ho2 hxn hx hlt hol
        subst hA
        go_wp2_with (first | ((with_reducible refine gate_dst (N := 10) rfl ?_); (try (refine gate_guard (by rfl) ?_; dsimp only)); refine box_event ?hg (N := 10) ?hd (cs := #[.int .i64 0, .int .i64 0, .int .i64 0, .string ⟨#[]⟩]) (t := 52) ?hr ?_; (case hd => rfl); (case hg => rfl); (case hr => first | (go_simp; done) | (go_simp; rfl)); intro gd hg w7 hbox hb; obtain ⟨h0, h1, h2, h3, m0, m1, m2, m3⟩ := box_cells hbox; have HD := Aside0.mk (And.intro hb (show W.heap.size ≤ gd by have := HB2.out.size; omega)); have HD2 := Aside0.mk (show gd = _ from hg); clear hg hbox hb) | (at_builtin; refine Kd.R_append (W := ((((w7.setCell ⟨gd, 0, none⟩ (.int .i64 x.f0)).setCell ⟨gd, 1, none⟩ (.int .i64 x.f1)).setCell ⟨gd, 2, none⟩ (.int .i64 x.f2)).setCell ⟨gd, 3, none⟩ (.string x.f3))) k52 (w0 := W) W.heap.size rfl (.tmp 34) (.tmp 36) 49 52 (.agg #[(.int .i64 0), (.int .i64 0), (.int .i64 0), (.string ⟨#[]⟩)]) 40 rfl Try.underlying49 info52 rfl (by decide) (by decide) u8 (outs l n k) x [.int .i64 x.f0, .int .i64 x.f1, .int .i64 x.f2, .string x.f3] (fun _ => True) (fun _ => False) ?e1 ?e2 (k52_mkM _ _ _ _) (fun _ h => h.elim) (fun _ _ => trivial) ?sO ?sB ?sS ?sL ?_; (case e1 => simp [Act.eval, Act.put]); (case e2 => simp [Act.eval, Act.put, World.setCell]); (case sO => exact Kd.R_below HR.out (below4 (g := gd) HD.out.1 (by have := HD2.out; omega) (.int .i64 x.f0) (.int .i64 x.f1) (.int .i64 x.f2) (.string x.f3))); (case sB => exact HB2.out.trans ((below4 (g := gd) HD.out.1 (by have := HD2.out; omega) (.int .i64 x.f0) (.int .i64 x.f1) (.int .i64 x.f2) (.string x.f3)).mono HB2.out.size)); (case sS => exact (HB2.out.trans ((below4 (g := gd) HD.out.1 (by have := HD2.out; omega) (.int .i64 x.f0) (.int .i64 x.f1) (.int .i64 x.f2) (.string x.f3)).mono HB2.out.size)).size); (case sL => have := HN.out.2.2; omega); intro v1 w9 hR1 hB1 _ _; have HR1 := Aside0.mk hR1; have HB1 := Aside0.mk hB1; clear hR1 hB1))
        exact ⟨⟨k + 1, HN.out.1, by congr 1, ⟨by rw [HN.out.2.1]; exact HR1.out⟩, HB1⟩, by have := HN.out.1; simp only [intOf]; omega⟩
    · obtain rfl : k = l.length := by omega
      rw [outs_all] at HR
      obtain ⟨A8, c8, rfl⟩ := Kd.R_slice HR.out
      have hall := HZ.out.2.1.trans (HB2.out.mono HZ.out.2.1.size)
      obtain ⟨_, c0, c1, c2, e0, e1, e2⟩ := po_cells HH.out.2.2.2.2.2.1 hall
      obtain ⟨g0, g1, g2, g3, m0, m1, m2, m3⟩ := box_cells ((HB2.out.block gb (blk_lt HZ.out.2.2)).trans HZ.out.2.2)
      obtain ⟨h0, h1, h2, h3, r0, r1, r2, r3⟩ := box_cells ((HB2.out.block gc (blk_lt HZ.out.1)).trans HZ.out.1)
      have hn5 : ¬ p = gb := (by have := HX.out.1; have := HH.out.2.2.2.2.2.2.2; omega)
      have hn6 : ¬ gb = p := fun h => hn5 h.symm
      have HL := Aside0.mk (And.intro hall ((HB2.out.block gb (blk_lt HZ.out.2.2)).trans HZ.out.2.2))
      clear hall hlt hk
      go_wp2
      refine bodyPost_ret (results_ct rfl _ _ gb 52 (let4 y) (0, 0) _ rfl (put4 ((Below.heap_setCell _ ⟨p, 2, none⟩ _ gb hn6).trans HL.out.2) _ _ _ _) Try.underlying52 rfl size52) rfl ?_
      exact ⟨rfl, rtake_end2 HH.out.1 HL.out.1 HH.out.2.2.2.2.1 HR.out HZ.out.2.1.size (by have := HX.out.1; omega) (blk_lt HZ.out.2.2) _ _ _ _⟩
theorem rtake_calls (B p : Nat) (o : Option Nat) (nodes last : Int) (l : List S52) (n : Int) (w : World) (H : Po 51 52 w B p o nodes last l) (hB0 : B ≤ w.heap.size) (U : Up l) (hl : l.length ≤ 2048) :
    Calls Try.prog 24 #[.pointer (some ⟨p, 0, none⟩), .int .i64 n] w fun e w' => e = .returned (.tuple #[.agg #[.int .i64 (see l n).1.f0, .int .i64 (see l n).1.f1, .int .i64 (see l n).1.f2, .string (see l n).1.f3], .int .i64 (see l n).2]) ∧ Thn 51 52 w w' B p o nodes last (tak l n) := by
  cases ht : there l n with
  | false =>
    rw [see_not ht, show tak l n = l by simp [tak, ht]]
    exact (rtake_no B p o nodes last l n w H U hl ht).mono fun e w' ⟨h, hb⟩ => ⟨h, (Then.same H hb).thn⟩
  | true =>
    rw [show see l n = (rd_T52 l ((place l n : Nat) : Int), 0) by rw [see, if_pos ht]]
    exact rtake_yes B p o nodes last l n w H hB0 U hl ht
end Go.Proofs.Ytndjhpkpeklgfaa.PPost
