/- The pure law of sexton/sextonlaw03.AlarmNil: for every input the function that the code computes answers true. No program stands here. -/
import Derived.Test.YtnenheaijacphaaPAlarmxNil
import Derived.Test.YtnenheaijacphaaOpenAlarm
namespace Go.Proofs.Ytnenheaijacphaa.PAlarm
open Go Go.RowKit Go.Proofs.YtnenheaijacphaaW.PrintWords Go.Proofs.YtnenheaijacphaaW.PrintLast Go.Proofs.YtnenheaijacphaaW.PrintMore
set_option linter.unusedVariables false

theorem AlarmNil_pure : ∀ (a0 : Int) (a1 : Int), ((Lit.int .i64 a0).wf = true) → ((Lit.int .i64 a1).wf = true) → sextonlaw03_AlarmNil.f a0 a1 = some true := by
  exact fun _ _ _ _ => rfl

end Go.Proofs.Ytnenheaijacphaa.PAlarm
