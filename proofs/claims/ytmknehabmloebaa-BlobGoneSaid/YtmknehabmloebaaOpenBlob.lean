/- The arguments' kinds of the laws of this group, opened: a program of this session wrote it. -/
import Derived.Test.YtmknehabmloebaaOpen
import Derived.Test.YtmknehabmloebaaPBlobx0
import Derived.KernelRfl
namespace Go.Proofs.Ytmknehabmloebaa.PBlob
open Go Go.RowKit Go.Proofs.YtmknehabmloebaaW.PrintWords Go.Proofs.YtmknehabmloebaaW.Open
set_option maxRecDepth 100000
def b41 (x : S41) : Prop := (Lit.int .i64 x.f0).wf = true ∧ x.f1.size ≤ reachBytes
theorem op41 : Opn Try.prog 41 k41 b41 := Opn.struct (g := (fun a => ⟨a.1, a.2⟩)) Try.underlying41 (by kernel_rfl) (fun _ => rfl) (OpnL.cons rfl (by kernel_rfl) (Opn.int Try.underlying3) (OpnL.one rfl (by kernel_rfl) (Opn.string Try.underlying9)))
def b33 (x : S33) : Prop := (Lit.int .i64 x.f0).wf = true ∧ (Lit.int .i64 x.f1).wf = true ∧ (Lit.int .i64 x.f2).wf = true
theorem op33 : Opn Try.prog 33 k33 b33 := Opn.struct (g := (fun a => ⟨a.1, a.2.1, a.2.2⟩)) Try.underlying33 (by kernel_rfl) (fun _ => rfl) (OpnL.cons rfl (by kernel_rfl) (Opn.int Try.underlying3) (OpnL.cons rfl (by kernel_rfl) (Opn.int Try.underlying3) (OpnL.one rfl (by kernel_rfl) (Opn.int Try.underlying3))))
end Go.Proofs.Ytmknehabmloebaa.PBlob
