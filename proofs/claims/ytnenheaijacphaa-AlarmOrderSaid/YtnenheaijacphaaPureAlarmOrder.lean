/- The pure law of sexton/sextonlaw03.AlarmOrder: for every input the function that the code computes answers true. No program stands here. -/
import Derived.Test.YtnenheaijacphaaPAlarmxOrder
import Derived.Test.YtnenheaijacphaaOpenAlarm
namespace Go.Proofs.Ytnenheaijacphaa.PAlarm
open Go Go.RowKit Go.Proofs.YtnenheaijacphaaW.PrintWords Go.Proofs.YtnenheaijacphaaW.PrintLast Go.Proofs.YtnenheaijacphaaW.PrintMore
set_option linter.unusedVariables false

theorem AlarmOrder_pure : ∀ (l0 : List (S28)) (a1 : Int), ((l0.length * 24 ≤ reachBytes ∧ ∀ x ∈ l0, b28 x)) → ((Lit.int .i64 a1).wf = true) → sextonlaw03_AlarmOrder.f l0 a1 = some true := by
  exact fun _ _ _ _ => rfl

end Go.Proofs.Ytnenheaijacphaa.PAlarm
