/- The pure law of sexton/sextonlaw04.PostNil: for every input the function that the code computes answers true. No program stands here. -/
import Derived.Test.YtndjhpkpeklgfaaPPostxNil
import Derived.Test.YtndjhpkpeklgfaaOpenPost
namespace Go.Proofs.Ytndjhpkpeklgfaa.PPost
open Go Go.RowKit Go.Proofs.YtndjhpkpeklgfaaW.PrintWords Go.Proofs.YtndjhpkpeklgfaaW.PrintLast Go.Proofs.YtndjhpkpeklgfaaW.PrintMore
set_option linter.unusedVariables false

theorem PostNil_pure : ∀ (a0 : Int) (a1 : ByteArray), ((Lit.int .i64 a0).wf = true) → (a1.size ≤ reachBytes) → sextonlaw04_PostNil.f a0 a1 = some true := by
  exact fun _ _ _ _ => rfl

end Go.Proofs.Ytndjhpkpeklgfaa.PPost
