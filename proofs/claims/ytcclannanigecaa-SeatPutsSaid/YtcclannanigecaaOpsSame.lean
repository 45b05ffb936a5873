/- Equal seats. -/
import Derived.Test.YtcclannanigecaaOps
import Derived.Test.YtcclannanigecaaPSeatx10
namespace Go.Proofs.Ytcclannanigecaa.PSeat
open Go Go.RowKit Go.Proofs.YtcclannanigecaaW.PrintWords Go.Proofs.YtcclannanigecaaW.PrintLast Go.Proofs.YtcclannanigecaaW.PrintMore
set_option linter.unusedVariables false

theorem seats_same (l : List S46) (hl : l.length ≤ 9223372036854775806) (n : Nat) : ∀ i : Nat, i ≤ l.length → l.length - i = n → Ev (fun k => sextonplain_Seats.l0 k l l l.length i) true := by
  induction n with
  | zero =>
    intro i h1 h2
    exact Ev.step (fun k => by simp only [sextonplain_Seats.l0]; rw [if_neg (by omega)]; simp) (Ev.now _)
  | succ n ih =>
    intro i h1 h2
    exact Ev.step (fun k => by simp only [sextonplain_Seats.l0]; rw [if_pos (by omega), if_neg (by omega), if_pos (by omega), if_pos (by omega), if_pos (by omega), if_neg (by simp), wr1 i (by omega)]) (ih (i + 1) (by omega) (by omega))
theorem seats_f (l : List S46) (hl : l.length ≤ 9223372036854775806) : Ev (fun k => sextonplain_Seats.f k l l) true := seats_same l hl l.length 0 (by omega) (by omega)

end Go.Proofs.Ytcclannanigecaa.PSeat
