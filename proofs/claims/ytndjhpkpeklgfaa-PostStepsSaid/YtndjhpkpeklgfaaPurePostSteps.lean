/- The pure law of sexton/sextonlaw04.PostSteps: for every input the function that the code computes answers true. No program stands here. -/
import Derived.Test.YtndjhpkpeklgfaaPPostxSteps
import Derived.Test.YtndjhpkpeklgfaaOpenPost
namespace Go.Proofs.Ytndjhpkpeklgfaa.PPost
open Go Go.RowKit Go.Proofs.YtndjhpkpeklgfaaW.PrintWords Go.Proofs.YtndjhpkpeklgfaaW.PrintLast Go.Proofs.YtndjhpkpeklgfaaW.PrintMore
set_option linter.unusedVariables false

theorem PostSteps_pure : ∀ (a0 : Int) (l1 : List (S29)), ((Lit.int .i64 a0).wf = true) → ((l1.length * 48 ≤ reachBytes ∧ ∀ x ∈ l1, b29 x)) → sextonlaw04_PostSteps.f a0 l1 = some true := by
  intro a0 l1 _ h
  unfold sextonlaw04_PostSteps.f
  rw [if_pos]
  intro x hx
  have hb := h.2 x hx
  have h1 : (Lit.int .i64 x.f1).wf = true := by unfold b29 at hb; exact hb.2.1
  simp [Lit.wf, IntKind.min, IntKind.max, IntKind.signed, IntKind.bits] at h1
  omega

end Go.Proofs.Ytndjhpkpeklgfaa.PPost
