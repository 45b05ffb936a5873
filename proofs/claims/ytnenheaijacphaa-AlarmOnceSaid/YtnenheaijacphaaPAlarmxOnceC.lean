/- AlarmOnce, for every list of steps: it answers true. -/
import Derived.Test.YtnenheaijacphaaPAlarmxOnce
namespace Go.Proofs.Ytnenheaijacphaa.PAlarm
open Go Go.RowKit Go.Proofs.YtnenheaijacphaaW.PrintWords Go.Proofs.YtnenheaijacphaaW.PrintLast Go.Proofs.YtnenheaijacphaaW.PrintMore
set_option linter.unusedVariables false

def sextonlaw03_AlarmOnce.f (l0 : List S28) : Option Bool := some true
theorem sextonlaw03_AlarmOnce.calls (A0 : Option Addr) (c0 : Nat) (l0 : List S28) (r : Bool) (w : World) (hr0 : Kd.C k28 w A0 l0.length l0) (hc0 : l0.length ≤ c0) (h : sextonlaw03_AlarmOnce.f l0 = some r) :
    Calls Try.prog 6 #[.slice A0 l0.length c0] w fun e w' => e = .returned (.bool r) ∧ Below w.heap.size w w' := by
  obtain rfl := Option.some.inj h
  by_cases hl : l0.length ≤ 600
  · exact once_ok A0 c0 l0 w hr0 hl
  · exact once_long A0 c0 l0 w (by omega)
end Go.Proofs.Ytnenheaijacphaa.PAlarm
