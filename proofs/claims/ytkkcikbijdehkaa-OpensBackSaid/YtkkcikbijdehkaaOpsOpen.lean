/- What opening comes to. -/
import Derived.Test.YtkkcikbijdehkaaOps
import Derived.Test.YtkkcikbijdehkaaPOpensx14
namespace Go.Proofs.Ytkkcikbijdehkaa.POpens
open Go Go.RowKit Go.Proofs.YtkkcikbijdehkaaW.PrintWords Go.Proofs.YtkkcikbijdehkaaW.PrintLast Go.Proofs.YtkkcikbijdehkaaW.PrintMore
set_option linter.unusedVariables false

/-! ### opening -/
def opn (l : List S36) (who h1 h2 : Int) : List S36 × Int × Int :=
  if ask l who = 0 then (if FitH h1 h2 then (if l.length = 16 then ([], 0, 407) else (l.take (lead 0 l) ++ ⟨(lead 0 l : Nat), who, ⟨h1, h2⟩⟩ :: l.drop (lead 0 l), (lead 0 l : Nat), 0)) else ([], 0, 1)) else ([], 0, ask l who)
theorem open_end (l : List S36) (hl : l.length ≤ 1000000) (who h1 h2 : Int) (i : Nat) (hi : i ≤ l.length) :
    ((api_Open_24.f l).bind fun t => ((api_Open_27.f t (i : Int) (([(⟨(i : Int), who, (⟨h1, h2⟩ : S24)⟩ : S36)] : List (S36)))).bind fun t1 => (some (t1, (i : Int), (0 : Int))))) = some (l.take i ++ ⟨(i : Int), who, ⟨h1, h2⟩⟩ :: l.drop i, (i : Int), 0) := by
  unfold api_Open_24.f api_Open_27.f
  rw [if_pos (by omega), Option.bind_some]
  simp only []
  rw [if_pos (by omega), Option.bind_some, Int.toNat_natCast]
theorem open_l0 (l : List S36) (hl : l.length ≤ 1000000) (who h1 h2 : Int) (n : Nat) : ∀ (i : Nat), i ≤ l.length → l.length - i = n → lead i (l.drop i) = lead 0 l →
    Ev (fun k => opens_Open.l0 k l who i h1 h2) (l.take (lead 0 l) ++ ⟨(lead 0 l : Nat), who, ⟨h1, h2⟩⟩ :: l.drop (lead 0 l), ((lead 0 l : Nat) : Int), 0) := by
  induction n with
  | zero =>
    intro i h1' h2' he
    rw [List.drop_eq_nil_of_le (by omega)] at he
    have he : i = lead 0 l := he
    rw [← he]
    exact Ev.step (fun k => by simp only [opens_Open.l0]; rw [if_neg (by omega), open_end l hl who h1 h2 i h1']) (Ev.now _)
  | succ n ih =>
    intro i h1' h2' he
    have hlt : i < l.length := by omega
    rw [List.drop_eq_getElem_cons hlt] at he
    by_cases c : (l[i]).f0 = (i : Int)
    · rw [lead, if_pos c] at he
      exact Ev.step (fun k => by simp only [opens_Open.l0, rd36 l i hlt]; rw [if_pos (by omega), if_pos (by omega), if_pos c, wr1 i (by omega)]) (ih (i + 1) (by omega) (by omega) he)
    · rw [lead, if_neg c] at he
      rw [← he]
      exact Ev.step (fun k => by simp only [opens_Open.l0, rd36 l i hlt]; rw [if_pos (by omega), if_pos (by omega), if_neg c, open_end l hl who h1 h2 i h1']) (Ev.now _)
theorem open_f (l : List S36) (hl : l.length ≤ 9223372036854775806) (who h1 h2 : Int) : Ev (fun k => opens_Open.f k l who h1 h2) (opn l who h1 h2) := by
  refine Ev.bind (asked_f l who hl) ?_
  unfold opn
  by_cases c : ask l who = 0
  · simp only [if_pos c, handle_eq, Option.bind_some]
    by_cases d : FitH h1 h2
    · rw [if_pos d, decide_eq_true d]
      simp only [if_true]
      have hlen := chk_len (ask_zero c).1
      by_cases e : l.length = 16
      · have e' : (l.length : Int) = 16 := by omega
        simp only [if_pos e, if_pos e']; exact Ev.now _
      · have e' : ¬ (l.length : Int) = 16 := by omega
        simp only [if_neg e, if_neg e']
        exact open_l0 l (by omega) who h1 h2 l.length 0 (by omega) (by omega) rfl
    · rw [if_neg d, decide_eq_false d]; exact Ev.now _
  · simp only [if_neg c]; exact Ev.now _


end Go.Proofs.Ytkkcikbijdehkaa.POpens
