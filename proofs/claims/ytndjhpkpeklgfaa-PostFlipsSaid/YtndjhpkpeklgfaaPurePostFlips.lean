/- The pure law of sexton/sextonlaw04.PostFlips: for every input the function that the code computes answers true. No program stands here. -/
import Derived.Test.YtndjhpkpeklgfaaPPostxFlips
import Derived.Test.YtndjhpkpeklgfaaOpenPost
namespace Go.Proofs.Ytndjhpkpeklgfaa.PPost
open Go Go.RowKit Go.Proofs.YtndjhpkpeklgfaaW.PrintWords Go.Proofs.YtndjhpkpeklgfaaW.PrintLast Go.Proofs.YtndjhpkpeklgfaaW.PrintMore
set_option linter.unusedVariables false

theorem PostFlips_pure : ∀ (a0 : ByteArray) (a1 : Int), (a0.size ≤ reachBytes) → ((Lit.int .i64 a1).wf = true) → sextonlaw04_PostFlips.f a0 a1 = some true := by
  intro a0 a1 _ h
  have h2 : a1 ≤ 9223372036854775807 := by simp [Lit.wf, IntKind.min, IntKind.max, IntKind.signed, IntKind.bits] at h; omega
  unfold sextonlaw04_PostFlips.f
  rw [if_pos h2]

end Go.Proofs.Ytndjhpkpeklgfaa.PPost
