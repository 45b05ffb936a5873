/- AlarmSteps, for every list of steps: it answers true. -/
import Derived.Test.YtnenheaijacphaaPAlarmxSteps
namespace Go.Proofs.Ytnenheaijacphaa.PAlarm
open Go Go.RowKit Go.Proofs.YtnenheaijacphaaW.PrintWords Go.Proofs.YtnenheaijacphaaW.PrintLast Go.Proofs.YtnenheaijacphaaW.PrintMore
set_option linter.unusedVariables false

def sextonlaw03_AlarmSteps.f (l0 : List S28) : Option Bool := if ∀ x ∈ l0, (Lit.int .i64 x.f1).wf = true then some true else none
theorem sextonlaw03_AlarmSteps.calls (A0 : Option Addr) (c0 : Nat) (l0 : List S28) (r : Bool) (w : World) (hr0 : Kd.C k28 w A0 l0.length l0) (hc0 : l0.length ≤ c0) (h : sextonlaw03_AlarmSteps.f l0 = some r) :
    Calls Try.prog 5 #[.slice A0 l0.length c0] w fun e w' => e = .returned (.bool r) ∧ Below w.heap.size w w' := by
  unfold sextonlaw03_AlarmSteps.f at h
  split at h
  · rename_i hm
    obtain rfl := Option.some.inj h
    by_cases hl : l0.length ≤ 600
    · exact steps_ok A0 c0 l0 w hr0 hl hm
    · exact steps_long A0 c0 l0 w (by omega)
  · cases h
end Go.Proofs.Ytnenheaijacphaa.PAlarm
