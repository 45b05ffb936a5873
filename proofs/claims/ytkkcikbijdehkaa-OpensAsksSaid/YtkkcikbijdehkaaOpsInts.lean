/- Equal numbers. -/
import Derived.Test.YtkkcikbijdehkaaOps
import Derived.Test.YtkkcikbijdehkaaPOpensx19
namespace Go.Proofs.Ytkkcikbijdehkaa.POpens
open Go Go.RowKit Go.Proofs.YtkkcikbijdehkaaW.PrintWords Go.Proofs.YtkkcikbijdehkaaW.PrintLast Go.Proofs.YtkkcikbijdehkaaW.PrintMore
set_option linter.unusedVariables false

theorem ints_same (l : List Int) (hl : l.length ≤ 9223372036854775806) (n : Nat) : ∀ i : Nat, i ≤ l.length → l.length - i = n → Ev (fun k => sextonplain_Ints.l0 k l l l.length i) true := by
  induction n with
  | zero =>
    intro i h1 h2
    exact Ev.step (fun k => by simp only [sextonplain_Ints.l0]; rw [if_neg (by omega)]; simp) (Ev.now _)
  | succ n ih =>
    intro i h1 h2
    exact Ev.step (fun k => by simp only [sextonplain_Ints.l0]; rw [if_pos (by omega), if_neg (by omega), if_pos (by omega), if_pos (by omega), if_pos (by omega), if_pos trivial, wr1 i (by omega)]) (ih (i + 1) (by omega) (by omega))
theorem ints_f (l : List Int) (hl : l.length ≤ 9223372036854775806) : Ev (fun k => sextonplain_Ints.f k l l) true := ints_same l hl l.length 0 (by omega) (by omega)


end Go.Proofs.Ytkkcikbijdehkaa.POpens
