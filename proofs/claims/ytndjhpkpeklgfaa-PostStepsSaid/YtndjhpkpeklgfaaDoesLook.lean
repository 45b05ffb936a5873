/- sextonlaw04.does: look. -/
import Derived.Test.YtndjhpkpeklgfaaDoesLose
namespace Go.Proofs.Ytndjhpkpeklgfaa.PPost
open Go Go.RowKit Go.Proofs.YtndjhpkpeklgfaaW.PrintWords Go.Proofs.YtndjhpkpeklgfaaW.PrintLast Go.Proofs.YtndjhpkpeklgfaaW.PrintMore Go.Proofs.Ytndjhpkpeklgfaa.Sl
set_option linter.unusedVariables false
set_option linter.unusedSimpArgs false
variable {w0 : World} {B p r : Nat} {o q : Option Nat} {nodes last : Int} {L : List S52}
theorem two_keep {W w' : World} {gc gd t1 t2 : Nat} {a0 a1 a2 a3 b0 b1 b2 b3 : Value} (h1 : W.heap[gc]? = some (.cells #[a0, a1, a2, a3] t1 (0, 0))) (h2 : W.heap[gd]? = some (.cells #[b0, b1, b2, b3] t2 (0, 0))) (hb : Below W.heap.size W w') :
    w'.cell? ⟨gc, 0, none⟩ = some a0 ∧ w'.cell? ⟨gc, 1, none⟩ = some a1 ∧ w'.cell? ⟨gc, 2, none⟩ = some a2 ∧ w'.cell? ⟨gc, 3, none⟩ = some a3 ∧ w'.cell? ⟨gd, 0, none⟩ = some b0 ∧ w'.cell? ⟨gd, 1, none⟩ = some b1 ∧ w'.cell? ⟨gd, 2, none⟩ = some b2 ∧ w'.cell? ⟨gd, 3, none⟩ = some b3 ∧ Below W.heap.size W w' := by
  obtain ⟨x0, x1, x2, x3, _⟩ := box_cells ((hb.block gc (blk_lt h1)).trans h1)
  obtain ⟨y0, y1, y2, y3, _⟩ := box_cells ((hb.block gd (blk_lt h2)).trans h2)
  exact ⟨x0, x1, x2, x3, y0, y1, y2, y3, hb⟩
theorem ref_calls (y : S52) (w : World) : Calls Try.prog 25 #[.agg #[.int .i64 y.f0, .int .i64 y.f1, .int .i64 y.f2, .string y.f3]] w fun e w' => e = .returned (.agg #[.int .i64 y.f0, .int .i64 y.f1, .int .i64 y.f2, .string y.f3]) ∧ Below w.heap.size w w' :=
  sextonlaw04_ref.calls y.f0 y.f1 y.f2 y.f3 y.f0 y.f1 y.f2 y.f3 w rfl
set_option maxHeartbeats 1000000 in
set_option maxRecDepth 100000 in
theorem does_look (w : World) (k : Nat) (h : Duo (fun _ => False) w0 w B p r o q nodes last last L L) (F : Fit L last k) (hk : k < 2047) (x : S29) (h0 : x.f0 ≠ 0) (h1 : x.f0 ≠ 1) (h2 : x.f0 ≠ 2) (h3 : x.f0 ≠ 3) (h4 : x.f0 ≠ 4) (h5 : x.f0 ≠ 5) :
    Calls Try.prog 17 #[.pointer (some ⟨p, 0, none⟩), .pointer (some ⟨r, 0, none⟩), .agg #[.int .i64 x.f0, .int .i64 x.f1, .int .i64 x.f2, .int .i64 x.f3, .string x.f4]] w fun e w' => e = .returned (.bool true) ∧ Did w0 w' B p r nodes (k + 1) := by
  have hu35 := Try.underlying35
  have hu52 := Try.underlying52
  have F1 := F.mono (show k ≤ k + 1 by omega)
  obtain ⟨y, hy⟩ : ∃ y, y = see L x.f3 := ⟨_, rfl⟩
  have HM := Aside0.mk (And.intro (show L.length ≤ 2048 by have := F.len; omega) F.up)
  have HI := Aside0.mk (And.intro h (And.intro F1 hy))
  have d0 : (x.f0 == 0) = false := by simp [h0]
  have d1 : (x.f0 == 1) = false := by simp [h1]
  have d2 : (x.f0 == 2) = false := by simp [h2]
  have d3 : (x.f0 == 3) = false := by simp [h3]
  have d4 : (x.f0 == 4) = false := by simp [h4]
  have d5 : (x.f0 == 5) = false := by simp [h5]
  clear h F F1 hy hk h0 h1 h2 h3 h4 h5
  go_enter Try.func17, Try.ntmps17
  go_wp2_with (first | ((with_reducible refine gate_dst (N := 5) rfl ?_); (try (refine gate_guard (by rfl) ?_; dsimp only)); refine box_event ?hg (N := 5) ?hd (cs := #[.int .i64 x.f0, .int .i64 x.f1, .int .i64 x.f2, .int .i64 x.f3, .string x.f4]) (t := 29) ?hr ?_; (case hd => rfl); (case hg => rfl); (case hr => first | (go_simp; done) | (go_simp; rfl)); intro gb hg w5 hbox hb; obtain ⟨g0, g1, g2, g3, g4, e0, e1, e2, e3, e4⟩ := box5_cells hbox; have hd5 := Aside0.mk (HI.out.1.box hb hg (blk_lt hbox)); have hx5 := Aside0.mk hbox; have HD5 := hd5; have HX5 := hx5; clear hd5 hx5 hg hb hbox) | (go_at_call 14; refine (duo_see HD5.out HM.out.1 x.f3).mono ?_; rw [← HI.out.2.2]; rintro e w6 ⟨rfl, o6, h6, hg6⟩; have hgb := (hg6 gb (.inr rfl)).trans HX5.out; obtain ⟨a0, a1, a2, a3, a4, b0, b1, b2, b3, b4⟩ := box5_cells hgb; have HD6 := Aside0.mk h6; have HX6 := Aside0.mk hgb; clear h6 hg6 hgb) | ((with_reducible refine gate_dst (N := 21) rfl ?_); (try (refine gate_guard (by rfl) ?_; dsimp only)); refine box_event ?hg (N := 21) ?hd (cs := #[.int .i64 0, .int .i64 0, .int .i64 0, .string ⟨#[]⟩]) (t := 35) ?hr ?_; (case hd => rfl); (case hg => rfl); (case hr => first | (go_simp; done) | (go_simp; rfl)); intro gc hg w7 hbox hb; have hgb := (hb.block gb (HD6.out.gs gb (.inr rfl)).1).trans HX6.out; obtain ⟨a0, a1, a2, a3, a4, b0, b1, b2, b3, b4⟩ := box5_cells hgb; obtain ⟨c0gc, c1gc, c2gc, c3gc, f0gc, f1gc, f2gc, f3gc⟩ := box_cells hbox; have ngc : ¬ gb = gc := (by have := (HD6.out.gs gb (.inr rfl)).1; omega); have mgc : ¬ gc = gb := (fun h => ngc h.symm); have hdn := Aside0.mk (HD6.out.box hb hg (blk_lt hbox)); have HD7 := hdn; have HX7 := Aside0.mk (And.intro hgb hbox); clear hdn hg hb hbox hgb) | (go_at_call 28; refine (duo_rsee (HD7.out.move (kp4 (.inr rfl) (.int .i64 y.1.f0) (.int .i64 y.1.f1) (.int .i64 y.1.f2) (.string y.1.f3))) HM.out.2 HM.out.1 x.f3).mono ?_; rw [← HI.out.2.2]; rintro e w8 ⟨rfl, o8, h8, hg8⟩; have hx8 := Aside0.mk (And.intro ((hg8 gb (.inl (.inr rfl))).trans ((far4 w7 ngc (.int .i64 y.1.f0) (.int .i64 y.1.f1) (.int .i64 y.1.f2) (.string y.1.f3)).trans HX7.out.1)) ((hg8 gc (.inr rfl)).trans (put4 HX7.out.2 (.int .i64 y.1.f0) (.int .i64 y.1.f1) (.int .i64 y.1.f2) (.string y.1.f3)))); have HD8 := Aside0.mk h8; have HX8 := hx8; clear h8 hg8 hx8) | ((with_reducible refine gate_dst (N := 23) rfl ?_); (try (refine gate_guard (by rfl) ?_; dsimp only)); refine box_event ?hg (N := 23) ?hd (cs := #[.int .i64 0, .int .i64 0, .int .i64 0, .string ⟨#[]⟩]) (t := 52) ?hr ?_; (case hd => rfl); (case hg => rfl); (case hr => first | (go_simp; done) | (go_simp; rfl)); intro gd hg w9 hbox hb; have hgc := (hb.block gc (HD8.out.gs gc (.inr rfl)).1).trans HX8.out.2; obtain ⟨c0gd, c1gd, c2gd, c3gd, f0gd, f1gd, f2gd, f3gd⟩ := box_cells hbox; have ngd : gc ≠ gd := (by have := (HD8.out.gs gc (.inr rfl)).1; omega); have hdn := Aside0.mk (HD8.out.box hb hg (blk_lt hbox)); have HD9 := hdn; have HX9 := Aside0.mk (And.intro hgc (And.intro hbox ngd)); clear hdn hg hb hbox hgc ngd))
  have hw1 := (far4 w9 HX9.out.2.2 (.int .i64 y.1.f0) (.int .i64 y.1.f1) (.int .i64 y.1.f2) (.string y.1.f3)).trans HX9.out.1
  have hw2 := put4 HX9.out.2.1 (.int .i64 y.1.f0) (.int .i64 y.1.f1) (.int .i64 y.1.f2) (.string y.1.f3)
  have hw3 := HD9.out.move (kp4 (.inr rfl) (.int .i64 y.1.f0) (.int .i64 y.1.f1) (.int .i64 y.1.f2) (.string y.1.f3))
  obtain ⟨W, hW⟩ : ∃ W, W = ((((w9.setCell ⟨gd, 0, none⟩ (.int .i64 y.1.f0)).setCell ⟨gd, 1, none⟩ (.int .i64 y.1.f1)).setCell ⟨gd, 2, none⟩ (.int .i64 y.1.f2)).setCell ⟨gd, 3, none⟩ (.string y.1.f3)) := ⟨_, rfl⟩
  rw [← hW] at hw1 hw2 hw3
  rw [← hW]
  obtain ⟨q0, q1, q2, q3, q4, q5, q6, q7, q8⟩ := two_keep hw1 hw2 (Below.refl _ W)
  have HW := Aside0.mk (And.intro hw1 (And.intro hw2 hw3))
  clear hW hw1 hw2 hw3 g0 g1 g2 g3 g4 e0 e1 e2 e3 e4 a0 a1 a2 a3 a4 b0 b1 b2 b3 b4 c0gc c1gc c2gc c3gc f0gc f1gc f2gc f3gc ngc mgc c0gd c1gd c2gd c3gd f0gd f1gd f2gd f3gd
  go_region_held3 (fun w' => w'.cell? ⟨gc, 0, none⟩ = some (.int .i64 y.1.f0) ∧ w'.cell? ⟨gc, 1, none⟩ = some (.int .i64 y.1.f1) ∧ w'.cell? ⟨gc, 2, none⟩ = some (.int .i64 y.1.f2) ∧ w'.cell? ⟨gc, 3, none⟩ = some (.string y.1.f3) ∧ w'.cell? ⟨gd, 0, none⟩ = some (.int .i64 y.1.f0) ∧ w'.cell? ⟨gd, 1, none⟩ = some (.int .i64 y.1.f1) ∧ w'.cell? ⟨gd, 2, none⟩ = some (.int .i64 y.1.f2) ∧ w'.cell? ⟨gd, 3, none⟩ = some (.string y.1.f3) ∧ Below W.heap.size W w') (exact two_keep HW.out.1 HW.out.2.1 (by first | assumption | exact Below.drew (by assumption) | exact Below.drewN (by assumption) _)) (first | (go_at_call 25; refine (ref_calls y.1 _).mono ?_; rintro e w11 ⟨rfl, hb⟩; have hbb : Below W.heap.size W w11 := (by first | exact below_step (by assumption) hb | exact below_step (Below.drew (by assumption)) hb | exact below_step (Below.refl _ _).drew hb | exact hb); obtain ⟨t0, t1, t2, t3, t4, t5, t6, t7, _⟩ := two_keep HW.out.1 HW.out.2.1 hbb; clear hb))
  all_goals (go_wp2; go_ret; exact ⟨rfl, _, _, _, _, (HW.out.2.2.step (by assumption)).drop, HI.out.2.1⟩)
end Go.Proofs.Ytndjhpkpeklgfaa.PPost
