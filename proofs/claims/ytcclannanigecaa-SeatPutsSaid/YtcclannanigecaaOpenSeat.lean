/- The arguments' kinds of the laws of this group, opened: a program of this session wrote it. -/
import Derived.Test.YtcclannanigecaaOpen
import Derived.Test.YtcclannanigecaaPSeatx0
import Derived.KernelRfl
namespace Go.Proofs.Ytcclannanigecaa.PSeat
open Go Go.RowKit Go.Proofs.YtcclannanigecaaW.PrintWords Go.Proofs.YtcclannanigecaaW.Open
set_option maxRecDepth 100000
def b46 (x : S46) : Prop := (Lit.int .i64 x.f0).wf = true ∧ (Lit.int .i64 x.f1).wf = true ∧ x.f2.size ≤ reachBytes
theorem op46 : Opn Try.prog 46 k46 b46 := Opn.struct (g := (fun a => ⟨a.1, a.2.1, a.2.2⟩)) Try.underlying46 (by kernel_rfl) (fun _ => rfl) (OpnL.cons rfl (by kernel_rfl) (Opn.int Try.underlying3) (OpnL.cons rfl (by kernel_rfl) (Opn.int Try.underlying3) (OpnL.one rfl (by kernel_rfl) (Opn.string Try.underlying9))))
def b24 (x : S24) : Prop := (Lit.int .i64 x.f0).wf = true ∧ (Lit.int .i64 x.f1).wf = true ∧ x.f2.size ≤ reachBytes
theorem op24 : Opn Try.prog 24 k24 b24 := Opn.struct (g := (fun a => ⟨a.1, a.2.1, a.2.2⟩)) Try.underlying24 (by kernel_rfl) (fun _ => rfl) (OpnL.cons rfl (by kernel_rfl) (Opn.int Try.underlying3) (OpnL.cons rfl (by kernel_rfl) (Opn.int Try.underlying3) (OpnL.one rfl (by kernel_rfl) (Opn.string Try.underlying9))))
end Go.Proofs.Ytcclannanigecaa.PSeat
