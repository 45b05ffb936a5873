/- post.See: a letter that waits. -/
import Derived.Test.YtndjhpkpeklgfaaSends
namespace Go.Proofs.Ytndjhpkpeklgfaa.PPost
open Go Go.RowKit Go.Proofs.YtndjhpkpeklgfaaW.PrintWords Go.Proofs.YtndjhpkpeklgfaaW.PrintLast Go.Proofs.YtndjhpkpeklgfaaW.PrintMore Go.Proofs.Ytndjhpkpeklgfaa.Sl
set_option linter.unusedVariables false
set_option linter.unusedSimpArgs false

def let4 (x : S52) : Array Value := #[.int .i64 x.f0, .int .i64 x.f1, .int .i64 x.f2, .string x.f3]
/-- Four cells of a block, put anew. -/
theorem put4 {w : World} {g t : Nat} {a b c d : Value} (h : w.heap[g]? = some (.cells #[a, b, c, d] t (0, 0))) (x y z u : Value) :
    ((((w.setCell ⟨g, 0, none⟩ x).setCell ⟨g, 1, none⟩ y).setCell ⟨g, 2, none⟩ z).setCell ⟨g, 3, none⟩ u).heap[g]? = some (.cells #[x, y, z, u] t (0, 0)) :=
  Go.Joins.block_setCell (i := 3) (Go.Joins.block_setCell (i := 2) (Go.Joins.block_setCell (i := 1) (Go.Joins.block_setCell (i := 0) h x) y) z) u
theorem below4 {w w' : World} {B g : Nat} (h : Below B w w') (hg : B ≤ g) (x y z u : Value) : Below B w ((((w'.setCell ⟨g, 0, none⟩ x).setCell ⟨g, 1, none⟩ y).setCell ⟨g, 2, none⟩ z).setCell ⟨g, 3, none⟩ u) :=
  (((h.setCell (p := ⟨g, 0, none⟩) hg x).setCell (p := ⟨g, 1, none⟩) hg y).setCell (p := ⟨g, 2, none⟩) hg z).setCell (p := ⟨g, 3, none⟩) hg u
theorem size35 : (Try.prog.info? 35).map (·.size) = some 4 := by
  obtain ⟨i0, hi0, hz00⟩ := Option.map_eq_some_iff.1 info35
  simp only [Prod.mk.injEq] at hz00
  rw [hi0]; simp [hz00.2.1]
theorem size52 : (Try.prog.info? 52).map (·.size) = some 4 := by
  obtain ⟨i0, hi0, hz00⟩ := Option.map_eq_some_iff.1 info52
  simp only [Prod.mk.injEq] at hz00
  rw [hi0]; simp [hz00.2.1]
/-- What is known behind a call that looks at the post: the post's row, and a block of one's own. -/
theorem look {T E t : Nat} {w w3 w4 : World} {B p g : Nat} {o : Option Nat} {nodes last : Int} {l : List S52} {a b c d : Value} (H : Po T E w B p o nodes last l) (hx : w3.heap[g]? = some (.cells #[a, b, c, d] t (0, 0))) (h3 : Below w.heap.size w w3) (h4 : Below w3.heap.size w3 w4) :
    ∃ A cp, w4.cell? ⟨p, 2, none⟩ = some (.slice A l.length cp) ∧ l.length ≤ cp ∧ Kd.C k52 w4 A l.length l ∧ w4.heap[g]? = some (.cells #[a, b, c, d] t (0, 0)) ∧ Below w.heap.size w w4 := by
  have hb : Below w.heap.size w w4 := h3.trans (h4.mono h3.size)
  obtain ⟨v, h1, h2, _, _, h5⟩ := H.below hb
  obtain ⟨A, cp, rfl⟩ := Kd.R_slice h5
  obtain ⟨_, hlc, hC⟩ := Kd.R_reads' h5
  exact ⟨A, cp, (blk_cell h2 2).trans rfl, hlc, hC, (Kp.of_below (S := fun _ => False) h4).blk hx (fun h => h), hb⟩

set_option maxHeartbeats 4000000 in
set_option maxRecDepth 100000 in
theorem see_no (B p : Nat) (o : Option Nat) (nodes last : Int) (l : List S52) (n : Int) (w : World) (H : Po 58 35 w B p o nodes last l) (hl : l.length ≤ 1000000000000) (ht : there l n = false) :
    Calls Try.prog 14 #[.pointer (some ⟨p, 0, none⟩), .int .i64 n] w fun e w' => e = .returned (.tuple #[.agg #[.int .i64 0, .int .i64 0, .int .i64 0, .string ⟨#[]⟩], .int .i64 6]) ∧ Below w.heap.size w w' := by
  have hu35 := Try.underlying35
  have HH := Aside0.mk (And.intro H (And.intro hl ht))
  clear H hl ht
  go_enter Try.func14, Try.ntmps14
  go_wp2_with (first | ((with_reducible refine gate_dst (N := 4) rfl ?_); (try (refine gate_guard (by rfl) ?_; dsimp only)); refine box_event ?hg (N := 4) ?hd (cs := #[.int .i64 0, .int .i64 0, .int .i64 0, .string ⟨#[]⟩]) (t := 35) ?hr ?_; (case hd => rfl); (case hg => rfl); (case hr => first | (go_simp; done) | (go_simp; rfl)); intro gb hg w3 hbox hb; have HB := Aside0.mk hb; have HX := Aside0.mk (And.intro hg hbox); clear hb hg hbox) | (go_at_call 21; refine (at_no B p o nodes last l n _ (HH.out.1.below HB.out) HH.out.2.1 HH.out.2.2).mono ?_; rintro e w4 ⟨rfl, hb⟩; obtain ⟨A, cp, k2, k3, k4, k5, k6⟩ := look HH.out.1 HX.out.2 HB.out hb; obtain ⟨g0, g1, g2, g3, e0, e1, e2, e3⟩ := box_cells k5; have HK := Aside0.mk (And.intro k5 k6); clear k2 k3 k4 k5 k6 hb))
  refine bodyPost_ret (results_ct rfl _ _ gb 35 #[.int .i64 0, .int .i64 0, .int .i64 0, .string ⟨#[]⟩] (0, 0) _ rfl (put4 HK.out.1 _ _ _ _) Try.underlying35 rfl size35) rfl ?_
  exact ⟨rfl, below4 HK.out.2 (by have := HX.out.1; omega) _ _ _ _⟩
set_option maxHeartbeats 4000000 in
set_option maxRecDepth 100000 in
theorem see_yes (B p : Nat) (o : Option Nat) (nodes last : Int) (l : List S52) (n : Int) (w : World) (H : Po 58 35 w B p o nodes last l) (hl : l.length ≤ 1000000000000) (ht : there l n = true) :
    Calls Try.prog 14 #[.pointer (some ⟨p, 0, none⟩), .int .i64 n] w fun e w' => e = .returned (.tuple #[.agg (let4 (rd_T52 l ((place l n : Nat) : Int))), .int .i64 0]) ∧ Below w.heap.size w w' := by
  have hu35 := Try.underlying35
  have hlt := there_lt ht
  have HH := Aside0.mk (And.intro H (And.intro hl (And.intro ht hlt)))
  obtain ⟨q, hq⟩ : ∃ q, q = place l n := ⟨_, rfl⟩
  obtain ⟨x, hx⟩ : ∃ x, x = rd_T52 l ((place l n : Nat) : Int) := ⟨_, rfl⟩
  rw [← hx]
  rw [← hq] at hlt hx
  have HQ := Aside0.mk (And.intro hq hx)
  have hq0 : (0 : Int) ≤ (q : Int) := by omega
  have hq1 : (q : Int) < (l.length : Int) := by omega
  clear H hl ht hq hx hlt
  go_enter Try.func14, Try.ntmps14
  go_wp2_with (first | ((with_reducible refine gate_dst (N := 4) rfl ?_); (try (refine gate_guard (by rfl) ?_; dsimp only)); refine box_event ?hg (N := 4) ?hd (cs := #[.int .i64 0, .int .i64 0, .int .i64 0, .string ⟨#[]⟩]) (t := 35) ?hr ?_; (case hd => rfl); (case hg => rfl); (case hr => first | (go_simp; done) | (go_simp; rfl)); intro gb hg w3 hbox hb; have HB := Aside0.mk hb; have HX := Aside0.mk (And.intro hg hbox); clear hb hg hbox) | (go_at_call 21; refine (at_yes B p o nodes last l n _ (HH.out.1.below HB.out) HH.out.2.1 HH.out.2.2.1).mono ?_; rintro e w4 ⟨rfl, hb⟩; rw [← HQ.out.1]; obtain ⟨A, cp, k2, k3, k4, k5, k6⟩ := look HH.out.1 HX.out.2 HB.out hb; obtain ⟨g0, g1, g2, g3, e0, e1, e2, e3⟩ := box_cells k5; obtain ⟨ad, rfl, x0, x1, x2, x3⟩ := at_T52 k4 (q : Int) hq0 hq1; rw [← HQ.out.2] at x0 x1 x2 x3; simp only [Int.toNat_natCast] at x0 x1 x2 x3; have HK := Aside0.mk (And.intro k5 k6); clear k3 k4 k5 k6 hb))
  refine bodyPost_ret (results_ct rfl _ _ gb 35 (let4 x) (0, 0) _ rfl (put4 HK.out.1 _ _ _ _) Try.underlying35 rfl size35) rfl ?_
  exact ⟨rfl, below4 HK.out.2 (by have := HX.out.1; omega) _ _ _ _⟩
end Go.Proofs.Ytndjhpkpeklgfaa.PPost
