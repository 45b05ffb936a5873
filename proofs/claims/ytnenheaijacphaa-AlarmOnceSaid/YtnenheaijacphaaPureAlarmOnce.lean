/- The pure law of sexton/sextonlaw03.AlarmOnce: for every input the function that the code computes answers true. No program stands here. -/
import Derived.Test.YtnenheaijacphaaPAlarmxOnceC
import Derived.Test.YtnenheaijacphaaOpenAlarm
namespace Go.Proofs.Ytnenheaijacphaa.PAlarm
open Go Go.RowKit Go.Proofs.YtnenheaijacphaaW.PrintWords Go.Proofs.YtnenheaijacphaaW.PrintLast Go.Proofs.YtnenheaijacphaaW.PrintMore
set_option linter.unusedVariables false

theorem AlarmOnce_pure : ∀ (l0 : List (S28)), ((l0.length * 24 ≤ reachBytes ∧ ∀ x ∈ l0, b28 x)) → sextonlaw03_AlarmOnce.f l0 = some true := by
  exact fun _ _ => rfl

end Go.Proofs.Ytnenheaijacphaa.PAlarm
