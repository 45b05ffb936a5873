/- sextonlaw04.does: every step. -/
import Derived.Test.YtndjhpkpeklgfaaDoesFlip
namespace Go.Proofs.Ytndjhpkpeklgfaa.PPost
open Go Go.RowKit Go.Proofs.YtndjhpkpeklgfaaW.PrintWords Go.Proofs.YtndjhpkpeklgfaaW.PrintLast Go.Proofs.YtndjhpkpeklgfaaW.PrintMore Go.Proofs.Ytndjhpkpeklgfaa.Sl
set_option linter.unusedVariables false
variable {w0 : World} {B p r : Nat} {nodes : Int}
theorem does_calls (w : World) (k : Nat) (h : Did w0 w B p r nodes k) (hk : k < 2047) (x : S29) (hm : x.f1 ≤ 9223372036854775807) :
    Calls Try.prog 17 #[.pointer (some ⟨p, 0, none⟩), .pointer (some ⟨r, 0, none⟩), .agg #[.int .i64 x.f0, .int .i64 x.f1, .int .i64 x.f2, .int .i64 x.f3, .string x.f4]] w fun e w' => e = .returned (.bool true) ∧ Did w0 w' B p r nodes (k + 1) := by
  obtain ⟨o, q, last, L, hD, F⟩ := h
  by_cases h0 : x.f0 = 0 ∨ x.f0 = 1
  · exact does_send w k hD F hk x h0
  by_cases h2 : x.f0 = 2
  · exact does_take w k hD F hk x h2
  by_cases h3 : x.f0 = 3
  · exact does_lose w k hD F hk x h3
  by_cases h4 : x.f0 = 4
  · exact does_again w k hD F hk x h4
  by_cases h5 : x.f0 = 5
  · exact does_flip w k hD F hk x h5 hm
  · exact does_look w k hD F hk x (by omega) (by omega) h2 h3 h4 h5
theorem Did.step {w w' : World} {k : Nat} (h : Did w0 w B p r nodes k) (hb : Below w.heap.size w w') : Did w0 w' B p r nodes k := by
  obtain ⟨o, q, last, L, hD, F⟩ := h
  exact ⟨o, q, last, L, hD.step hb, F⟩
theorem Did.below {w : World} {k : Nat} (h : Did w0 w B p r nodes k) : Below B w0 w := by
  obtain ⟨o, q, last, L, hD, F⟩ := h
  exact hD.below
theorem Did.start {w w1 w2 : World} {n : Int} (H : Po 58 35 w1 w.heap.size p none n 0 []) (h1 : Below w.heap.size w w1) (H2 : Po 51 52 w2 w1.heap.size r none n 0 []) (h2 : Below w1.heap.size w1 w2) : Did w w2 w.heap.size p r n 0 := by
  have hp := (H.its p (.inl rfl)).2
  have hr := (H2.its r (.inl rfl)).1
  refine ⟨none, none, 0, [], ⟨Nat.le_trans h1.size h2.size, h1.trans (h2.mono h1.size), H.below h2, ?_, fun b hb hb2 => ?_, fun _ h => h.elim⟩, Fit.nil⟩
  · obtain ⟨v, g1, g2, g3, g4, g5⟩ := H2
    exact ⟨v, Nat.le_trans h1.size g1, g2, g3, g4, Kd.R_lower g5 h1.size⟩
  · rcases hb with e | e
    · rcases hb2 with e2 | e2
      · omega
      · cases e2
    · cases e
end Go.Proofs.Ytndjhpkpeklgfaa.PPost
