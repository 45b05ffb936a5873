/- The pure law of sexton/sextonlaw03.AlarmLast: for every input the function that the code computes answers true. No program stands here. -/
import Derived.Test.YtnenheaijacphaaPAlarmxLast
import Derived.Test.YtnenheaijacphaaOpenAlarm
namespace Go.Proofs.Ytnenheaijacphaa.PAlarm
open Go Go.RowKit Go.Proofs.YtnenheaijacphaaW.PrintWords Go.Proofs.YtnenheaijacphaaW.PrintLast Go.Proofs.YtnenheaijacphaaW.PrintMore
set_option linter.unusedVariables false

theorem AlarmLast_pure : ∀ (a0 : Int) (a1 : Int) (a2 : Int), ((Lit.int .i64 a0).wf = true) → ((Lit.int .i64 a1).wf = true) → ((Lit.int .i64 a2).wf = true) → sextonlaw03_AlarmLast.f a0 a1 a2 = some true := by
  exact fun _ _ _ _ _ _ => rfl

end Go.Proofs.Ytnenheaijacphaa.PAlarm
