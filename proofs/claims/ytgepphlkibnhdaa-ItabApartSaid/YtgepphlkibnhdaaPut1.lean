/- itab.Put, by what can be read behind it. -/
import Derived.Test.YtgepphlkibnhdaaOne30
import Derived.Test.YtgepphlkibnhdaaPItabx33
namespace Go.Proofs.Ytgepphlkibnhdaa.PItab
open Go Go.RowKit Go.Proofs.YtgepphlkibnhdaaW.PrintWords Go.Proofs.YtgepphlkibnhdaaW.PrintLast Go.Proofs.YtgepphlkibnhdaaW.PrintMore
set_option linter.unusedVariables false

theorem put1 (k : Nat) (A0 : Option Addr) (c0 : Nat) (l0 : List S30) (a b : Int) (x : S30) {A5 A6 : Option Addr} {c5 c6 : Nat} (t : List S30) (r : Int) (w : World) (hr0 : Kd.C k30 w A0 l0.length l0) (hc0 : l0.length ≤ c0) (l5 : x.f2.length ≤ c5) (g5 : k73.C w A5 x.f2.length x.f2) (l6 : x.f3.length ≤ c6) (g6 : k75.C w A6 x.f3.length x.f3)
    (h : itab_Put.f k l0 a b x.f0 x.f1.f0 x.f1.f1 x.f1.f2 x.f1.f3 x.f2 x.f3 x.f4 = some (t, r)) :
    Calls Try.prog 19 #[.slice A0 l0.length c0, .agg #[.int .i64 a, .int .i64 b], .agg #[.int .i64 x.f0, .int .i64 x.f1.f0, .int .i64 x.f1.f1, .int .i64 x.f1.f2, .int .i64 x.f1.f3, .slice A5 x.f2.length c5, .slice A6 x.f3.length c6, .int .i64 x.f4]] w fun e w' =>
      ∃ A c, e = .returned (.tuple #[.slice A t.length c, .int .i64 r]) ∧ t.length ≤ c ∧ Kd.C k30 w' A t.length t ∧ Below w.heap.size w w' := by
  refine (itab_Put.calls k A0 c0 l0 a b _ _ _ _ _ A5 c5 x.f2 A6 c6 x.f3 _ t r w hr0 hc0 g5 l5 g6 l6 h).mono ?_
  rintro e w' ⟨v0, rfl, hN, hb⟩
  obtain ⟨A, c, rfl, hl, hC⟩ := Kd.N_reads hN
  exact ⟨A, c, rfl, hl, hC, hb⟩
end Go.Proofs.Ytgepphlkibnhdaa.PItab
