/- What leaving comes to. -/
import Derived.Test.YtkkcikbijdehkaaOps
import Derived.Test.YtkkcikbijdehkaaPOpensx23
namespace Go.Proofs.Ytkkcikbijdehkaa.POpens
open Go Go.RowKit Go.Proofs.YtkkcikbijdehkaaW.PrintWords Go.Proofs.YtkkcikbijdehkaaW.PrintLast Go.Proofs.YtkkcikbijdehkaaW.PrintMore
set_option linter.unusedVariables false

/-! ### leaving -/
def stay (l : List S36) (who : Int) : List S36 := l.filter fun x => !(x.f1 == who)
def gone (l : List S36) (who : Int) : List S24 := (l.filter fun x => x.f1 == who).map fun x => x.f2
def lev (l : List S36) (who : Int) : List S36 × List S24 × Int := if ask l who = 0 then (stay l who, gone l who, 0) else ([], [], ask l who)
theorem leave_l0 (l : List S36) (hl : l.length ≤ 1000000) (who : Int) (n : Nat) : ∀ (i : Nat) (out : List S36) (g : List S24), i ≤ l.length → l.length - i = n → out.length ≤ i → g.length ≤ i → Ev (fun k => opens_Leave.l0 k who out g l l.length i) (out ++ stay (l.drop i) who, g ++ gone (l.drop i) who, 0) := by
  induction n with
  | zero =>
    intro i out g g1 g2 g3 g4
    rw [List.drop_eq_nil_of_le (by omega)]
    exact Ev.step (fun k => by simp only [opens_Leave.l0]; rw [if_neg (by omega)]; simp [stay, gone]) (Ev.now _)
  | succ n ih =>
    intro i out g g1 g2 g3 g4
    have hlt : i < l.length := by omega
    rw [List.drop_eq_getElem_cons hlt]
    by_cases d : (l[i]).f1 = who
    · have e1 : stay (l[i] :: l.drop (i + 1)) who = stay (l.drop (i + 1)) who := by unfold stay; rw [List.filter_cons, if_neg (by simp [d])]
      have e2 : gone (l[i] :: l.drop (i + 1)) who = (l[i]).f2 :: gone (l.drop (i + 1)) who := by unfold gone; rw [List.filter_cons, if_pos (by simpa using d), List.map_cons]
      rw [e1, e2]
      have := ih (i + 1) out (g ++ [(l[i]).f2]) (by omega) (by omega) (by omega) (by simp; omega)
      rw [List.append_assoc] at this
      refine Ev.step (fun k => ?_) this
      simp only [opens_Leave.l0, rd36 l i hlt]
      rw [if_pos (by omega), if_pos (by omega), if_pos (by omega), if_pos d, if_pos (by omega), wr1 i (by omega)]
    · have e1 : stay (l[i] :: l.drop (i + 1)) who = l[i] :: stay (l.drop (i + 1)) who := by unfold stay; rw [List.filter_cons, if_pos (by simp [d])]
      have e2 : gone (l[i] :: l.drop (i + 1)) who = gone (l.drop (i + 1)) who := by unfold gone; rw [List.filter_cons, if_neg (by simpa using d)]
      rw [e1, e2]
      have := ih (i + 1) (out ++ [l[i]]) g (by omega) (by omega) (by simp; omega) (by omega)
      rw [List.append_assoc] at this
      refine Ev.step (fun k => ?_) this
      simp only [opens_Leave.l0, rd36 l i hlt]
      rw [if_pos (by omega), if_pos (by omega), if_pos (by omega), if_neg d, if_pos (by omega), wr1 i (by omega)]
theorem leave_f (l : List S36) (hl : l.length ≤ 9223372036854775806) (who : Int) : Ev (fun k => opens_Leave.f k l who) (lev l who) := by
  refine Ev.bind (asked_f l who hl) ?_
  unfold lev
  by_cases c : ask l who = 0
  · simp only [if_pos c]
    have hlen := chk_len (ask_zero c).1
    have := leave_l0 l (by omega) who l.length 0 [] [] (by omega) (by omega) (by simp) (by simp)
    simpa using this
  · simp only [if_neg c]; exact Ev.now _

end Go.Proofs.Ytkkcikbijdehkaa.POpens
