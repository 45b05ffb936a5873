/- The arguments' kinds of the laws of this group, opened: a program of this session wrote it. -/
import Derived.Test.YtgepphlkibnhdaaOpen
import Derived.Test.YtgepphlkibnhdaaPItabx0
import Derived.KernelRfl
namespace Go.Proofs.Ytgepphlkibnhdaa.PItab
open Go Go.RowKit Go.Proofs.YtgepphlkibnhdaaW.PrintWords Go.Proofs.YtgepphlkibnhdaaW.Open
set_option maxRecDepth 100000
def b26 (x : S26) : Prop := (Lit.int .i64 x.f0).wf = true ∧ (Lit.int .i64 x.f1).wf = true ∧ (Lit.int .i64 x.f2).wf = true ∧ (Lit.int .i64 x.f3).wf = true
theorem op26 : Opn Try.prog 26 k26 b26 := Opn.struct (g := (fun a => ⟨a.1, a.2.1, a.2.2.1, a.2.2.2⟩)) Try.underlying26 (by kernel_rfl) (fun _ => rfl) (OpnL.cons rfl (by kernel_rfl) (Opn.int Try.underlying3) (OpnL.cons rfl (by kernel_rfl) (Opn.int Try.underlying3) (OpnL.cons rfl (by kernel_rfl) (Opn.int Try.underlying3) (OpnL.one rfl (by kernel_rfl) (Opn.int Try.underlying3)))))
def b73 (x : S73) : Prop := (Lit.int .i64 x.f0).wf = true ∧ x.f1.size ≤ reachBytes
theorem op73 : Opn Try.prog 73 k73 b73 := Opn.struct (g := (fun a => ⟨a.1, a.2⟩)) Try.underlying73 (by kernel_rfl) (fun _ => rfl) (OpnL.cons rfl (by kernel_rfl) (Opn.int Try.underlying3) (OpnL.one rfl (by kernel_rfl) (Opn.string Try.underlying9)))
def b24 (x : S24) : Prop := (Lit.int .i64 x.f0).wf = true ∧ (Lit.int .i64 x.f1).wf = true
theorem op24 : Opn Try.prog 24 k24 b24 := Opn.struct (g := (fun a => ⟨a.1, a.2⟩)) Try.underlying24 (by kernel_rfl) (fun _ => rfl) (OpnL.cons rfl (by kernel_rfl) (Opn.int Try.underlying3) (OpnL.one rfl (by kernel_rfl) (Opn.int Try.underlying3)))
def b75 (x : S75) : Prop := x.f0.size ≤ reachBytes ∧ (Lit.int .i64 x.f1).wf = true ∧ b24 x.f2
theorem op75 : Opn Try.prog 75 k75 b75 := Opn.struct (g := (fun a => ⟨a.1, a.2.1, a.2.2⟩)) Try.underlying75 (by kernel_rfl) (fun _ => rfl) (OpnL.cons rfl (by kernel_rfl) (Opn.string Try.underlying9) (OpnL.cons rfl (by kernel_rfl) (Opn.int Try.underlying3) (OpnL.one rfl (by kernel_rfl) op24)))
def b30 (x : S30) : Prop := (Lit.int .i64 x.f0).wf = true ∧ b26 x.f1 ∧ (x.f2.length * 24 ≤ reachBytes ∧ ∀ y ∈ x.f2, b73 y) ∧ (x.f3.length * 40 ≤ reachBytes ∧ ∀ y ∈ x.f3, b75 y) ∧ (Lit.int .i64 x.f4).wf = true
theorem op30 : Opn Try.prog 30 k30 b30 := Opn.struct (g := (fun a => ⟨a.1, a.2.1, a.2.2.1, a.2.2.2.1, a.2.2.2.2⟩)) Try.underlying30 (by kernel_rfl) (fun _ => rfl) (OpnL.cons rfl (by kernel_rfl) (Opn.int Try.underlying3) (OpnL.cons rfl (by kernel_rfl) op26 (OpnL.cons rfl (by kernel_rfl) (Opn.slice Try.underlying27 (by kernel_rfl) op73) (OpnL.cons rfl (by kernel_rfl) (Opn.slice Try.underlying28 (by kernel_rfl) op75) (OpnL.one rfl (by kernel_rfl) (Opn.int Try.underlying3))))))
end Go.Proofs.Ytgepphlkibnhdaa.PItab
