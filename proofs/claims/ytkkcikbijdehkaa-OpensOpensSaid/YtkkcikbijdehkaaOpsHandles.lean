/- Equal handles. -/
import Derived.Test.YtkkcikbijdehkaaOps
import Derived.Test.YtkkcikbijdehkaaPOpensx25
namespace Go.Proofs.Ytkkcikbijdehkaa.POpens
open Go Go.RowKit Go.Proofs.YtkkcikbijdehkaaW.PrintWords Go.Proofs.YtkkcikbijdehkaaW.PrintLast Go.Proofs.YtkkcikbijdehkaaW.PrintMore
set_option linter.unusedVariables false

theorem handles_same (l : List S24) (hl : l.length ≤ 9223372036854775806) (n : Nat) : ∀ i : Nat, i ≤ l.length → l.length - i = n → Ev (fun k => sextonlaw12_handles.l0 k l l l.length i) true := by
  induction n with
  | zero =>
    intro i h1 h2
    exact Ev.step (fun k => by simp only [sextonlaw12_handles.l0]; rw [if_neg (by omega)]; simp) (Ev.now _)
  | succ n ih =>
    intro i h1 h2
    exact Ev.step (fun k => by simp only [sextonlaw12_handles.l0]; rw [if_pos (by omega), if_neg (by omega), if_pos (by omega), if_pos (by omega), if_pos (by omega), if_neg (by simp), wr1 i (by omega)]) (ih (i + 1) (by omega) (by omega))
theorem handles_f (l : List S24) (hl : l.length ≤ 9223372036854775806) : Ev (fun k => sextonlaw12_handles.f k l l) true := handles_same l hl l.length 0 (by omega) (by omega)

end Go.Proofs.Ytkkcikbijdehkaa.POpens
