/- Whose they are. -/
import Derived.Test.YtkkcikbijdehkaaOps
import Derived.Test.YtkkcikbijdehkaaPOpensx20
namespace Go.Proofs.Ytkkcikbijdehkaa.POpens
open Go Go.RowKit Go.Proofs.YtkkcikbijdehkaaW.PrintWords Go.Proofs.YtkkcikbijdehkaaW.PrintLast Go.Proofs.YtkkcikbijdehkaaW.PrintMore
set_option linter.unusedVariables false

def ofl (l : List S36) (who : Int) : List Int := (l.filter fun x => x.f1 == who).map fun x => x.f0
theorem of_l0 (l : List S36) (hl : l.length ≤ 10000000000000) (who : Int) (n : Nat) : ∀ (i : Nat) (out : List Int), i ≤ l.length → l.length - i = n → out.length ≤ i → Ev (fun k => opens_Of.l0 k who out l l.length i) (out ++ ofl (l.drop i) who) := by
  induction n with
  | zero =>
    intro i out g1 g2 g3
    rw [List.drop_eq_nil_of_le (by omega)]
    exact Ev.step (fun k => by simp only [opens_Of.l0]; rw [if_neg (by omega)]; simp [ofl]) (Ev.now _)
  | succ n ih =>
    intro i out g1 g2 g3
    have hlt : i < l.length := by omega
    rw [List.drop_eq_getElem_cons hlt]
    unfold ofl
    rw [List.filter_cons]
    by_cases d : (l[i]).f1 = who
    · rw [if_pos (by simpa using d), List.map_cons]
      have := ih (i + 1) (out ++ [(l[i]).f0]) (by omega) (by omega) (by simp; omega)
      rw [List.append_assoc] at this
      refine Ev.step (fun k => ?_) this
      simp only [opens_Of.l0, rd36 l i hlt]
      rw [if_pos (by omega), if_pos (by omega), if_pos (by omega), if_pos d, if_pos (by omega), wr1 i (by omega)]
    · rw [if_neg (by simpa using d)]
      refine Ev.step (fun k => ?_) (ih (i + 1) out (by omega) (by omega) (by omega))
      simp only [opens_Of.l0, rd36 l i hlt]
      rw [if_pos (by omega), if_pos (by omega), if_pos (by omega), if_neg d, wr1 i (by omega)]
theorem of_f (l : List S36) (hl : l.length ≤ 10000000000000) (who : Int) : Ev (fun k => opens_Of.f k l who) (ofl l who) := by
  have := of_l0 l hl who l.length 0 [] (by omega) (by omega) (by simp)
  simpa [opens_Of.f] using this


end Go.Proofs.Ytkkcikbijdehkaa.POpens
