/- What the reference's closing comes to. -/
import Derived.Test.YtkkcikbijdehkaaOpsClose
import Derived.Test.YtkkcikbijdehkaaPOpensx12
namespace Go.Proofs.Ytkkcikbijdehkaa.POpens
open Go Go.RowKit Go.Proofs.YtkkcikbijdehkaaW.PrintWords Go.Proofs.YtkkcikbijdehkaaW.PrintLast Go.Proofs.YtkkcikbijdehkaaW.PrintMore
set_option linter.unusedVariables false

def foundOf (l : List S36) (who fd : Int) (s : Bool × Int × Int) : Bool × Int × Int := l.foldl (fun s x => if is who fd x = true then (true, x.f2.f0, x.f2.f1) else s) s
theorem found_none : ∀ (l : List S36) (who fd : Int) (s : Bool × Int × Int), (∀ x ∈ l, is who fd x = false) → foundOf l who fd s = s
  | [], _, _, _, _ => rfl
  | x :: l, who, fd, s, h => by
    unfold foundOf
    rw [List.foldl_cons, h x (by simp), if_neg (by simp)]
    exact found_none l who fd s (fun y hy => h y (by simp [hy]))
theorem found_eq : ∀ (l : List S36) (p who fd : Int) (s : Bool × Int × Int), chk p l = true → foundOf l who fd s = match l.find? (is who fd) with | some x => (true, x.f2.f0, x.f2.f1) | none => s
  | [], _, _, _, _, _ => rfl
  | x :: l, p, who, fd, s, h => by
    obtain ⟨h1, h2, h3⟩ := chk_spec h
    rw [List.find?_cons]
    cases d : is who fd x with
    | true =>
      unfold foundOf
      rw [List.foldl_cons, d, if_pos rfl]
      refine found_none l who fd _ (fun y hy => ?_)
      have := chk_fit h3 y hy
      cases e : is who fd y with
      | false => rfl
      | true => have := (is_true.1 e).1; have := (is_true.1 d).1; omega
    | false =>
      have := found_eq l x.f0 who fd s h3
      unfold foundOf at this ⊢
      rw [List.foldl_cons, d, if_neg (by simp)]
      exact this
theorem rclose_l0 (l : List S36) (hl : l.length ≤ 1000000) (who fd : Int) (n : Nat) : ∀ (i : Nat) (out : List S36) (s : Bool × Int × Int), i ≤ l.length → l.length - i = n → out.length ≤ i →
    Ev (fun k => sextonref12_Close.l0 k who fd out s.1 l l.length i s.2.1 s.2.2) (if (foundOf (l.drop i) who fd s).1 = true then (out ++ (l.drop i).filter (fun x => !is who fd x), (foundOf (l.drop i) who fd s).2.1, (foundOf (l.drop i) who fd s).2.2, 0) else ([], 0, 0, 411)) := by
  induction n with
  | zero =>
    intro i out s g1 g2 g3
    rw [List.drop_eq_nil_of_le (by omega)]
    obtain ⟨f, a, b⟩ := s
    refine Ev.step (fun k => ?_) (Ev.now _)
    simp only [sextonref12_Close.l0]
    rw [if_neg (by omega)]
    simp only [foundOf, List.foldl_nil, List.filter_nil, List.append_nil]
    cases f <;> rfl
  | succ n ih =>
    intro i out s g1 g2 g3
    have hlt : i < l.length := by omega
    rw [List.drop_eq_getElem_cons hlt, List.filter_cons]
    have hf : foundOf (l[i] :: l.drop (i + 1)) who fd s = foundOf (l.drop (i + 1)) who fd (if is who fd l[i] = true then (true, (l[i]).f2.f0, (l[i]).f2.f1) else s) := rfl
    rw [hf]
    cases d : is who fd l[i] with
    | true =>
      obtain ⟨d1, d2⟩ := is_true.1 d
      have e1 : ¬ ((!true) = true) := by decide
      rw [if_pos rfl, if_neg e1]
      refine Ev.step (fun k => ?_) (ih (i + 1) out (true, (l[i]).f2.f0, (l[i]).f2.f1) (by omega) (by omega) (by omega))
      simp only [sextonref12_Close.l0, rd36 l i hlt]
      rw [if_pos (by omega), if_pos (by omega), if_pos (by omega), if_pos d1, if_pos d2, wr1 i (by omega)]
    | false =>
      have e1 : ¬ (false = true) := by decide
      have e2 : (!false) = true := by decide
      rw [if_neg e1, if_pos e2]
      have := ih (i + 1) (out ++ [l[i]]) s (by omega) (by omega) (by simp; omega)
      rw [List.append_assoc] at this
      refine Ev.step (fun k => ?_) this
      simp only [sextonref12_Close.l0, rd36 l i hlt]
      rw [if_pos (by omega), if_pos (by omega), if_pos (by omega)]
      by_cases d1 : (l[i]).f0 = fd
      · have d2 : ¬ (l[i]).f1 = who := fun h => by rw [is_true.2 ⟨d1, h⟩] at d; cases d
        rw [if_pos d1, if_neg d2, if_pos (by omega), wr1 i (by omega)]
      · rw [if_neg d1, if_pos (by omega), wr1 i (by omega)]
theorem rclose_f (l : List S36) (hl : l.length ≤ 9223372036854775806) (who fd : Int) : Ev (fun k => sextonref12_Close.f k l who fd) (cls l who fd) := by
  refine Ev.bind (rasked_f l who hl) ?_
  unfold cls
  by_cases c : ask l who = 0
  · simp only [if_pos c]
    have hchk := (ask_zero c).1
    have hlen := chk_len hchk
    have := rclose_l0 l (by omega) who fd l.length 0 [] (false, 0, 0) (by omega) (by omega) (by simp)
    rw [List.drop_zero, found_eq l (-1) who fd _ hchk, List.nil_append] at this
    cases e : l.find? (is who fd) with
    | none => rw [e] at this; exact this
    | some x => rw [e] at this; exact this
  · simp only [if_neg c]; exact Ev.now _

end Go.Proofs.Ytkkcikbijdehkaa.POpens
