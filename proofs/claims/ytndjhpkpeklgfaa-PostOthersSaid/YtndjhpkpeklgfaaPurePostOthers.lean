/- The pure law of sexton/sextonlaw04.PostOthers: for every input the function that the code computes answers true. No program stands here. -/
import Derived.Test.YtndjhpkpeklgfaaPPostxOthers
import Derived.Test.YtndjhpkpeklgfaaOpenPost
namespace Go.Proofs.Ytndjhpkpeklgfaa.PPost
open Go Go.RowKit Go.Proofs.YtndjhpkpeklgfaaW.PrintWords Go.Proofs.YtndjhpkpeklgfaaW.PrintLast Go.Proofs.YtndjhpkpeklgfaaW.PrintMore
set_option linter.unusedVariables false

theorem PostOthers_pure : ∀ (l0 : List (S29)) (a1 : Int) (a2 : Int), ((l0.length * 48 ≤ reachBytes ∧ ∀ x ∈ l0, b29 x)) → ((Lit.int .i64 a1).wf = true) → ((Lit.int .i64 a2).wf = true) → sextonlaw04_PostOthers.f l0 a1 a2 = some true := by
  exact fun _ _ _ _ _ _ => rfl

end Go.Proofs.Ytndjhpkpeklgfaa.PPost
