/- The pure law of sexton/sextonlaw09.ItabPuts: for every table, handle and inode the function that the code computes answers true. No program stands here. -/
import Derived.Test.YtgepphlkibnhdaaPItabxPuts
import Derived.Test.YtgepphlkibnhdaaPuts
namespace Go.Proofs.Ytgepphlkibnhdaa.PItab
open Go Go.RowKit Go.Proofs.YtgepphlkibnhdaaW.PrintWords Go.Proofs.YtgepphlkibnhdaaW.PrintLast Go.Proofs.YtgepphlkibnhdaaW.PrintMore
set_option linter.unusedVariables false

theorem ItabPuts_pure : ∀ (l0 : List (S30)) (x1 : S24) (x2 : S30), ((l0.length * 96 ≤ reachBytes ∧ ∀ x ∈ l0, b30 x)) → (b24 x1) → (b30 x2) → ∃ k, sextonlaw09_ItabPuts.f k l0 x1.f0 x1.f1 x2.f0 x2.f1.f0 x2.f1.f1 x2.f1.f2 x2.f1.f3 x2.f2 x2.f3 x2.f4 = some true := by
  intro l h x ⟨_, hb⟩ _ hx
  have hs := Sm_b hb
  have hx := Sm_x hx
  obtain ⟨p1, p2⟩ := pt_fine hs h.f0 h.f1 hx
  obtain ⟨d1, d2⟩ := dr_fine hs h.f0 h.f1
  refine Ev.rounds ?_
  unfold sextonlaw09_ItabPuts.f
  refine Ev.bind (put_ev hs h.f0 h.f1 hx) (Ev.bind (rput_ev hs h.f0 h.f1 hx) (Ev.bind (drop_ev hs h.f0 h.f1) (Ev.bind (rdrop_ev hs h.f0 h.f1) ?_)))
  have n1 : (pt l h.f0 h.f1 x).1.length ≤ 1000000000000 := by omega
  have n2 : (dr l h.f0 h.f1).1.length ≤ 1000000000000 := by omega
  have m1 : (pt l h.f0 h.f1 x).1.all small = true := small_of p1
  have m2 : (dr l h.f0 h.f1).1.all small = true := small_of d1
  simp only [eqL_refl eq30_refl, m1, m2, n1, n2, decide_true, beq_self_eq_true, Bool.and_self, if_true]
  exact again_ev

end Go.Proofs.Ytgepphlkibnhdaa.PItab
