/- What Find answers, by what can be read behind it. -/
import Derived.Test.YtgepphlkibnhdaaOne30
import Derived.Test.YtgepphlkibnhdaaPItabx15
import Derived.Test.YtgepphlkibnhdaaPItabx21
namespace Go.Proofs.Ytgepphlkibnhdaa.PItab
open Go Go.RowKit Go.Proofs.YtgepphlkibnhdaaW.PrintWords Go.Proofs.YtgepphlkibnhdaaW.PrintLast Go.Proofs.YtgepphlkibnhdaaW.PrintMore
set_option linter.unusedVariables false

theorem find1 (k : Nat) (A0 : Option Addr) (c0 : Nat) (l0 : List S30) (a b : Int) (x : S30) (r : Int) (w : World) (hr0 : Kd.C k30 w A0 l0.length l0) (hc0 : l0.length ≤ c0) (h : itab_Find.f k l0 a b = some (x.f0, x.f1.f0, x.f1.f1, x.f1.f2, x.f1.f3, x.f2, x.f3, x.f4, r)) :
    Calls Try.prog 10 #[.slice A0 l0.length c0, .agg #[.int .i64 a, .int .i64 b]] w fun e w' => ∃ A5 c5 A6 c6, e = .returned (.tuple #[.agg (cs30 x A5 c5 A6 c6), .int .i64 r]) ∧ x.f2.length ≤ c5 ∧ k73.C w' A5 x.f2.length x.f2 ∧ x.f3.length ≤ c6 ∧ k75.C w' A6 x.f3.length x.f3 ∧ Below w.heap.size w w' := by
  refine (itab_Find.calls k A0 c0 l0 a b _ _ _ _ _ _ _ _ _ w hr0 hc0 h).mono ?_
  rintro e w' ⟨v5, v6, rfl, h5, h6, hb⟩
  obtain ⟨A5, c5, rfl, l5, g5⟩ := Kd.R_reads h5
  obtain ⟨A6, c6, rfl, l6, g6⟩ := Kd.R_reads h6
  exact ⟨A5, c5, A6, c6, rfl, l5, g5, l6, g6, hb⟩
theorem V_read {α : Type} {d : Kd α} {e base : Nat} {W : World} {ok : Nat → Prop} {v : Value} {xs : List α} (h : Kd.V d e W base ok v xs) : ∃ A c, v = .slice A xs.length c ∧ xs.length ≤ c ∧ d.C W A xs.length xs := by
  obtain ⟨A, c, rfl, hl, hf⟩ := h
  exact ⟨A, c, rfl, hl, Kd.F_now hf⟩
theorem rfind1 (k : Nat) (A0 : Option Addr) (c0 : Nat) (l0 : List S30) (a b : Int) (x : S30) (r : Int) (w : World) (hr0 : Kd.C k30 w A0 l0.length l0) (hc0 : l0.length ≤ c0) (h : sextonref09_Find.f k l0 a b = some (x.f0, x.f1.f0, x.f1.f1, x.f1.f2, x.f1.f3, x.f2, x.f3, x.f4, r)) :
    Calls Try.prog 11 #[.slice A0 l0.length c0, .agg #[.int .i64 a, .int .i64 b]] w fun e w' => ∃ A5 c5 A6 c6, e = .returned (.tuple #[.agg (cs30 x A5 c5 A6 c6), .int .i64 r]) ∧ x.f2.length ≤ c5 ∧ k73.C w' A5 x.f2.length x.f2 ∧ x.f3.length ≤ c6 ∧ k75.C w' A6 x.f3.length x.f3 ∧ Below w.heap.size w w' := by
  refine (sextonref09_Find.calls k (fun k_ => k_ < w.heap.size) A0 c0 l0 a b _ _ _ _ _ _ _ _ _ w (Kd.V_mk hc0 (Kd.C_F k30_heap hr0)) h).mono ?_
  rintro e w' ⟨v5, v6, rfl, h5, h6, hb⟩
  obtain ⟨A5, c5, rfl, l5, g5⟩ := V_read h5
  obtain ⟨A6, c6, rfl, l6, g6⟩ := V_read h6
  exact ⟨A5, c5, A6, c6, rfl, l5, g5, l6, g6, hb⟩
end Go.Proofs.Ytgepphlkibnhdaa.PItab
