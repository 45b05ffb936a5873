/- The pure law of sexton/sextonlaw12.OpensAsks: for every input the function that the code computes answers true. No program stands here. -/
import Derived.Test.YtkkcikbijdehkaaPOpensx21
import Derived.Test.YtkkcikbijdehkaaOpenOpens
import Derived.Test.YtkkcikbijdehkaaOpsHeld
import Derived.Test.YtkkcikbijdehkaaOpsOf
import Derived.Test.YtkkcikbijdehkaaOpsInts
namespace Go.Proofs.Ytkkcikbijdehkaa.POpens
open Go Go.RowKit Go.Proofs.YtkkcikbijdehkaaW.PrintWords Go.Proofs.YtkkcikbijdehkaaW.PrintLast Go.Proofs.YtkkcikbijdehkaaW.PrintMore
set_option linter.unusedVariables false

theorem asks_l0 (l : List S36) (hl : l.length ≤ 10000000000000) (who h1 h2 : Int) (n : Nat) : ∀ (i c : Nat) (out : List Int), i ≤ l.length → l.length - i = n → c ≤ i → out.length ≤ i → c + (heldl (l.drop i) h1 h2).length = (heldl l h1 h2).length → out ++ ofl (l.drop i) who = ofl l who →
    Ev (fun k => sextonlaw12_OpensAsks.l0 k l who (c : Int) out l l.length i h1 h2) true := by
  induction n with
  | zero =>
    intro i c out g1 g2 g3 g4 g5 g6
    rw [List.drop_eq_nil_of_le (by omega)] at g5 g6
    have g5 : c = (heldl l h1 h2).length := g5
    have g6 : out = ofl l who := by simpa [ofl] using g6
    subst g5 g6
    refine Ev.step (fun k => by simp only [sextonlaw12_OpensAsks.l0]; rw [if_neg (by omega)]) (Ev.bind (check_f l (by omega)) (Ev.bind (right_f l (by omega)) ?_))
    have e : (((if chk (-1) l = true then (0 : Int) else 4) == 0) == chk (-1) l) = true := by cases chk (-1) l <;> rfl
    simp only [e, if_true]
    refine Ev.bind (held_f l (by omega) h1 h2) ?_
    simp only [if_true]
    refine Ev.bind (of_f l hl who) (Ev.bind (ints_f _ ?_) ?_)
    · have := List.length_filter_le (fun x : S36 => x.f1 == who) l
      simp only [ofl, List.length_map]; omega
    simp only [if_true]
    exact Ev.bind two_f (Ev.now _)
  | succ n ih =>
    intro i c out g1 g2 g3 g4 g5 g6
    have hlt : i < l.length := by omega
    rw [List.drop_eq_getElem_cons hlt] at g5 g6
    unfold heldl at g5
    unfold ofl at g6
    rw [List.filter_cons] at g5 g6
    by_cases d : ((l[i]).f2.f0 == h1 && ((l[i]).f2.f1 == h2)) = true
    · rw [if_pos d, List.length_cons] at g5
      by_cases e : (l[i]).f1 = who
      · rw [if_pos (by simpa using e), List.map_cons] at g6
        refine Ev.step (fun k => ?_) (ih (i + 1) (c + 1) (out ++ [(l[i]).f0]) (by omega) (by omega) (by omega) (by simp; omega) (by unfold heldl; omega) (by unfold ofl; rw [List.append_assoc]; exact g6))
        simp only [sextonlaw12_OpensAsks.l0, rd36 l i hlt]
        rw [if_pos (by omega), if_pos (by omega), if_pos (by omega), if_pos d, if_pos e, if_pos (by omega), wr1 c (by omega), wr1 i (by omega)]
      · rw [if_neg (by simpa using e)] at g6
        refine Ev.step (fun k => ?_) (ih (i + 1) (c + 1) out (by omega) (by omega) (by omega) (by omega) (by unfold heldl; omega) (by unfold ofl; exact g6))
        simp only [sextonlaw12_OpensAsks.l0, rd36 l i hlt]
        rw [if_pos (by omega), if_pos (by omega), if_pos (by omega), if_pos d, if_neg e, wr1 c (by omega), wr1 i (by omega)]
    · rw [if_neg d] at g5
      by_cases e : (l[i]).f1 = who
      · rw [if_pos (by simpa using e), List.map_cons] at g6
        refine Ev.step (fun k => ?_) (ih (i + 1) c (out ++ [(l[i]).f0]) (by omega) (by omega) (by omega) (by simp; omega) (by unfold heldl; omega) (by unfold ofl; rw [List.append_assoc]; exact g6))
        simp only [sextonlaw12_OpensAsks.l0, rd36 l i hlt]
        rw [if_pos (by omega), if_pos (by omega), if_pos (by omega), if_neg d, if_pos e, if_pos (by omega), wr1 i (by omega)]
      · rw [if_neg (by simpa using e)] at g6
        refine Ev.step (fun k => ?_) (ih (i + 1) c out (by omega) (by omega) (by omega) (by omega) (by unfold heldl; omega) (by unfold ofl; exact g6))
        simp only [sextonlaw12_OpensAsks.l0, rd36 l i hlt]
        rw [if_pos (by omega), if_pos (by omega), if_pos (by omega), if_neg d, if_neg e, wr1 i (by omega)]
theorem OpensAsks_pure : ∀ (l0 : List (S36)) (a1 : Int) (x2 : S24), ((l0.length * 32 ≤ reachBytes ∧ ∀ x ∈ l0, b36 x)) → ((Lit.int .i64 a1).wf = true) → (b24 x2) → ∃ k, sextonlaw12_OpensAsks.f k l0 a1 x2.f0 x2.f1 = some true := by
  intro l0 a1 x2 ⟨hl, _⟩ _ _
  have hb : reachBytes = 0x7ffffffff000 := rfl
  refine Ev.rounds ?_
  exact asks_l0 l0 (by omega) a1 _ _ l0.length 0 0 [] (by omega) (by omega) (by omega) (by simp) (by simp) (by simp)

end Go.Proofs.Ytkkcikbijdehkaa.POpens
