/- The arguments' kinds of the laws of this group, opened: a program of this session wrote it. -/
import Derived.Test.YtnenheaijacphaaOpen
import Derived.Test.YtnenheaijacphaaPAlarmx0
import Derived.KernelRfl
namespace Go.Proofs.Ytnenheaijacphaa.PAlarm
open Go Go.RowKit Go.Proofs.YtnenheaijacphaaW.PrintWords Go.Proofs.YtnenheaijacphaaW.Open
set_option maxRecDepth 100000
def b28 (x : S28) : Prop := (Lit.int .i64 x.f0).wf = true ∧ (Lit.int .i64 x.f1).wf = true ∧ (Lit.int .i64 x.f2).wf = true
theorem op28 : Opn Try.prog 28 k28 b28 := Opn.struct (g := (fun a => ⟨a.1, a.2.1, a.2.2⟩)) Try.underlying28 (by kernel_rfl) (fun _ => rfl) (OpnL.cons rfl (by kernel_rfl) (Opn.int Try.underlying3) (OpnL.cons rfl (by kernel_rfl) (Opn.int Try.underlying3) (OpnL.one rfl (by kernel_rfl) (Opn.int Try.underlying3))))
end Go.Proofs.Ytnenheaijacphaa.PAlarm
