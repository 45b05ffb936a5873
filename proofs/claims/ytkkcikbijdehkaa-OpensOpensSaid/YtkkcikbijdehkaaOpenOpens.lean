/- The arguments' kinds of the laws of this group, opened: a program of this session wrote it. -/
import Derived.Test.YtkkcikbijdehkaaOpen
import Derived.Test.YtkkcikbijdehkaaPOpensx0
import Derived.KernelRfl
namespace Go.Proofs.Ytkkcikbijdehkaa.POpens
open Go Go.RowKit Go.Proofs.YtkkcikbijdehkaaW.PrintWords Go.Proofs.YtkkcikbijdehkaaW.Open
set_option maxRecDepth 100000
def b24 (x : S24) : Prop := (Lit.int .i64 x.f0).wf = true ∧ (Lit.int .i64 x.f1).wf = true
theorem op24 : Opn Try.prog 24 k24 b24 := Opn.struct (g := (fun a => ⟨a.1, a.2⟩)) Try.underlying24 (by kernel_rfl) (fun _ => rfl) (OpnL.cons rfl (by kernel_rfl) (Opn.int Try.underlying3) (OpnL.one rfl (by kernel_rfl) (Opn.int Try.underlying3)))
def b36 (x : S36) : Prop := (Lit.int .i64 x.f0).wf = true ∧ (Lit.int .i64 x.f1).wf = true ∧ b24 x.f2
theorem op36 : Opn Try.prog 36 k36 b36 := Opn.struct (g := (fun a => ⟨a.1, a.2.1, a.2.2⟩)) Try.underlying36 (by kernel_rfl) (fun _ => rfl) (OpnL.cons rfl (by kernel_rfl) (Opn.int Try.underlying3) (OpnL.cons rfl (by kernel_rfl) (Opn.int Try.underlying3) (OpnL.one rfl (by kernel_rfl) op24)))
end Go.Proofs.Ytkkcikbijdehkaa.POpens
