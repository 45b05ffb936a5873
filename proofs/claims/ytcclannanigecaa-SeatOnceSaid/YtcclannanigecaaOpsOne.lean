/- The closed case. -/
import Derived.Test.YtcclannanigecaaOpsPut
import Derived.Test.YtcclannanigecaaPSeatx11
namespace Go.Proofs.Ytcclannanigecaa.PSeat
open Go Go.RowKit Go.Proofs.YtcclannanigecaaW.PrintWords Go.Proofs.YtcclannanigecaaW.PrintLast Go.Proofs.YtcclannanigecaaW.PrintMore
set_option linter.unusedVariables false

theorem one_f : Ev (fun k => sextonlaw16_one.f k) true := by
  have p1 : put [] 5 2 ⟨#[120]⟩ = ([⟨5, 2, ⟨#[120]⟩⟩], 0) := by kernel_rfl
  have a1 : ask [⟨5, 2, ⟨#[120]⟩⟩] 5 2 = (2, ⟨#[120]⟩, 0) := by kernel_rfl
  have a2 : ask [⟨5, 2, ⟨#[120]⟩⟩] 5 1 = (3, ⟨#[]⟩, 0) := by kernel_rfl
  have a3 : ask [⟨5, 2, ⟨#[120]⟩⟩] 5 3 = (1, ⟨#[]⟩, 0) := by kernel_rfl
  have p2 : put [⟨5, 2, ⟨#[120]⟩⟩] 5 2 ⟨#[121]⟩ = ([], 7) := by kernel_rfl
  have q1 := put_f [] 5 2 ⟨#[120]⟩
  have q2 := ask_f [⟨5, 2, ⟨#[120]⟩⟩] 5 2
  have q3 := ask_f [⟨5, 2, ⟨#[120]⟩⟩] 5 1
  have q4 := ask_f [⟨5, 2, ⟨#[120]⟩⟩] 5 3
  have q5 := put_f [⟨5, 2, ⟨#[120]⟩⟩] 5 2 ⟨#[121]⟩
  rw [p1] at q1
  rw [a1] at q2
  rw [a2] at q3
  rw [a3] at q4
  rw [p2] at q5
  refine Ev.bind q1 (Ev.bind q2 (Ev.bind q3 (Ev.bind q4 (Ev.bind q5 ?_))))
  have e : (⟨#[120]⟩ : ByteArray).toList = ([120] : List UInt8) := by rw [ByteArray.toList_eq]
  simp only [e, if_true]
  exact Ev.now _

end Go.Proofs.Ytcclannanigecaa.PSeat
