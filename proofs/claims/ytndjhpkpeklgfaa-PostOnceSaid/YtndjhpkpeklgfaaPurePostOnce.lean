/- The pure law of sexton/sextonlaw04.PostOnce: for every input the function that the code computes answers true. No program stands here. -/
import Derived.Test.YtndjhpkpeklgfaaPPostxOnce
import Derived.Test.YtndjhpkpeklgfaaOpenPost
namespace Go.Proofs.Ytndjhpkpeklgfaa.PPost
open Go Go.RowKit Go.Proofs.YtndjhpkpeklgfaaW.PrintWords Go.Proofs.YtndjhpkpeklgfaaW.PrintLast Go.Proofs.YtndjhpkpeklgfaaW.PrintMore
set_option linter.unusedVariables false

theorem PostOnce_pure : ∀ (l0 : List (S29)), ((l0.length * 48 ≤ reachBytes ∧ ∀ x ∈ l0, b29 x)) → sextonlaw04_PostOnce.f l0 = some true := by
  exact fun _ _ => rfl

end Go.Proofs.Ytndjhpkpeklgfaa.PPost
