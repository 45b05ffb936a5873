/- Five cells of a block. -/
import Derived.Test.YtndjhpkpeklgfaaTwice
namespace Go.Proofs.Ytndjhpkpeklgfaa.PPost
open Go Go.RowKit Go.Proofs.YtndjhpkpeklgfaaW.PrintWords Go.Proofs.YtndjhpkpeklgfaaW.PrintLast Go.Proofs.YtndjhpkpeklgfaaW.PrintMore Go.Proofs.Ytndjhpkpeklgfaa.Sl
set_option linter.unusedVariables false
theorem box5_cells {E : Nat} {w3 : World} {gb : Nat} {a b c d f : Value} (h : w3.heap[gb]? = some (.cells #[a, b, c, d, f] E (0, 0))) :
    w3.cell? ⟨gb, 0, none⟩ = some a ∧ w3.cell? ⟨gb, 1, none⟩ = some b ∧ w3.cell? ⟨gb, 2, none⟩ = some c ∧ w3.cell? ⟨gb, 3, none⟩ = some d ∧ w3.cell? ⟨gb, 4, none⟩ = some f ∧ w3.frozen? ⟨gb, 0, none⟩ = false ∧ w3.frozen? ⟨gb, 1, none⟩ = false ∧ w3.frozen? ⟨gb, 2, none⟩ = false ∧ w3.frozen? ⟨gb, 3, none⟩ = false ∧ w3.frozen? ⟨gb, 4, none⟩ = false :=
  ⟨(blk_cell h 0).trans rfl, (blk_cell h 1).trans rfl, (blk_cell h 2).trans rfl, (blk_cell h 3).trans rfl, (blk_cell h 4).trans rfl, blk_frozen h 0, blk_frozen h 1, blk_frozen h 2, blk_frozen h 3, blk_frozen h 4⟩
theorem below5 {w w' : World} {B g : Nat} (h : Below B w w') (hg : B ≤ g) (x y z u v : Value) : Below B w (((((w'.setCell ⟨g, 0, none⟩ x).setCell ⟨g, 1, none⟩ y).setCell ⟨g, 2, none⟩ z).setCell ⟨g, 3, none⟩ u).setCell ⟨g, 4, none⟩ v) :=
  (below4 h hg x y z u).setCell (p := ⟨g, 4, none⟩) hg v
end Go.Proofs.Ytndjhpkpeklgfaa.PPost
