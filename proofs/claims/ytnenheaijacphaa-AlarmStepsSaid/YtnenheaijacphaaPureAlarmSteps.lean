/- The pure law of sexton/sextonlaw03.AlarmSteps: for every input the function that the code computes answers true. No program stands here. -/
import Derived.Test.YtnenheaijacphaaPAlarmxStepsC
import Derived.Test.YtnenheaijacphaaOpenAlarm
namespace Go.Proofs.Ytnenheaijacphaa.PAlarm
open Go Go.RowKit Go.Proofs.YtnenheaijacphaaW.PrintWords Go.Proofs.YtnenheaijacphaaW.PrintLast Go.Proofs.YtnenheaijacphaaW.PrintMore
set_option linter.unusedVariables false

theorem AlarmSteps_pure : ∀ (l0 : List (S28)), ((l0.length * 24 ≤ reachBytes ∧ ∀ x ∈ l0, b28 x)) → sextonlaw03_AlarmSteps.f l0 = some true := by
  intro l0 h
  unfold sextonlaw03_AlarmSteps.f
  rw [if_pos]
  intro x hx
  have hb := h.2 x hx
  unfold b28 at hb
  exact hb.2.1

end Go.Proofs.Ytnenheaijacphaa.PAlarm
