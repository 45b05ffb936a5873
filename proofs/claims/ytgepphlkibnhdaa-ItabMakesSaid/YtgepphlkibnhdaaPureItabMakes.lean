/- The pure law of sexton/sextonlaw09.ItabMakes: for every table, kind and stamp the function that the code computes answers true. No program stands here. -/
import Derived.Test.YtgepphlkibnhdaaPItabx29
import Derived.Test.YtgepphlkibnhdaaRMakes
namespace Go.Proofs.Ytgepphlkibnhdaa.PItab
open Go Go.RowKit Go.Proofs.YtgepphlkibnhdaaW.PrintWords Go.Proofs.YtgepphlkibnhdaaW.PrintLast Go.Proofs.YtgepphlkibnhdaaW.PrintMore
set_option linter.unusedVariables false

theorem ItabMakes_pure : ∀ (l0 : List (S30)) (a1 : Int) (a2 : Int), ((l0.length * 96 ≤ reachBytes ∧ ∀ x ∈ l0, b30 x)) → ((Lit.int .i64 a1).wf = true) → ((Lit.int .i64 a2).wf = true) → ∃ k, sextonlaw09_ItabMakes.f k l0 a1 a2 = some true := by
  intro l kind stamp ⟨_, hb⟩ _ _
  have hs := Sm_b hb
  obtain ⟨f1, f2⟩ := mk_fine hs kind stamp
  refine Ev.rounds ?_
  refine Ev.bind (make_ev hs kind stamp) (Ev.bind (rmake_ev hs kind stamp) (Ev.bind (inodes_ev f1 (by omega)) ?_))
  simp only [if_true, beq_self_eq_true, Bool.and_self]
  exact Ev.bind again_ev (Ev.now _)

end Go.Proofs.Ytgepphlkibnhdaa.PItab
