/- How many are of what. -/
import Derived.Test.YtkkcikbijdehkaaOps
import Derived.Test.YtkkcikbijdehkaaPOpensx15
namespace Go.Proofs.Ytkkcikbijdehkaa.POpens
open Go Go.RowKit Go.Proofs.YtkkcikbijdehkaaW.PrintWords Go.Proofs.YtkkcikbijdehkaaW.PrintLast Go.Proofs.YtkkcikbijdehkaaW.PrintMore
set_option linter.unusedVariables false

/-! ### counting -/
def heldl (l : List S36) (h1 h2 : Int) : List S36 := l.filter fun x => x.f2.f0 == h1 && x.f2.f1 == h2
theorem held_l0 (l : List S36) (hl : l.length ≤ 1000000000000000) (h1 h2 : Int) (n : Nat) : ∀ (i c : Nat), i ≤ l.length → l.length - i = n → c ≤ i → Ev (fun k => opens_Held.l0 k (c : Int) l l.length i h1 h2) ((c + (heldl (l.drop i) h1 h2).length : Nat) : Int) := by
  induction n with
  | zero =>
    intro i c g1 g2 g3
    rw [List.drop_eq_nil_of_le (by omega)]
    exact Ev.step (fun k => by simp only [opens_Held.l0]; rw [if_neg (by omega)]; rfl) (Ev.now _)
  | succ n ih =>
    intro i c g1 g2 g3
    have hlt : i < l.length := by omega
    rw [List.drop_eq_getElem_cons hlt]
    unfold heldl
    rw [List.filter_cons]
    by_cases d : ((l[i]).f2.f0 == h1 && ((l[i]).f2.f1 == h2)) = true
    · rw [if_pos d, List.length_cons]
      have := ih (i + 1) (c + 1) (by omega) (by omega) (by omega)
      rw [show c + 1 + (heldl (l.drop (i + 1)) h1 h2).length = c + ((heldl (l.drop (i + 1)) h1 h2).length + 1) by omega] at this
      refine Ev.step (fun k => ?_) this
      simp only [opens_Held.l0, rd36 l i hlt]
      rw [if_pos (by omega), if_pos (by omega), if_pos (by omega), if_pos d, wr1 c (by omega), wr1 i (by omega)]
    · rw [if_neg d]
      refine Ev.step (fun k => ?_) (ih (i + 1) c (by omega) (by omega) (by omega))
      simp only [opens_Held.l0, rd36 l i hlt]
      rw [if_pos (by omega), if_pos (by omega), if_pos (by omega), if_neg d, wr1 i (by omega)]
theorem held_f (l : List S36) (hl : l.length ≤ 1000000000000000) (h1 h2 : Int) : Ev (fun k => opens_Held.f k l h1 h2) ((heldl l h1 h2).length : Int) := by
  have := held_l0 l hl h1 h2 l.length 0 0 (by omega) (by omega) (by omega)
  simpa [opens_Held.f] using this

end Go.Proofs.Ytkkcikbijdehkaa.POpens
