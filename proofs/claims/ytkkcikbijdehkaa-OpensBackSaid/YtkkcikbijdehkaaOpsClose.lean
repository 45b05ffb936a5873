/- What closing comes to. -/
import Derived.Test.YtkkcikbijdehkaaOps
import Derived.Test.YtkkcikbijdehkaaPOpensx8
namespace Go.Proofs.Ytkkcikbijdehkaa.POpens
open Go Go.RowKit Go.Proofs.YtkkcikbijdehkaaW.PrintWords Go.Proofs.YtkkcikbijdehkaaW.PrintLast Go.Proofs.YtkkcikbijdehkaaW.PrintMore
set_option linter.unusedVariables false

/-! ### closing -/
def is (who fd : Int) (x : S36) : Bool := x.f0 == fd && x.f1 == who
def cls (l : List S36) (who fd : Int) : List S36 × Int × Int × Int :=
  if ask l who = 0 then (match l.find? (is who fd) with | some x => (l.filter (fun x => !is who fd x), x.f2.f0, x.f2.f1, 0) | none => ([], 0, 0, 411)) else ([], 0, 0, ask l who)
theorem chk_drop : ∀ (l : List S36) (p : Int) (i : Nat) (h : i < l.length), chk p l = true → chk (l[i]).f0 (l.drop (i + 1)) = true
  | x :: l, p, 0, h, hc => (chk_spec hc).2.2
  | x :: l, p, i + 1, h, hc => chk_drop l x.f0 i (by simpa using h) (chk_spec hc).2.2
theorem is_true {who fd : Int} {x : S36} : is who fd x = true ↔ x.f0 = fd ∧ x.f1 = who := by simp [is]
theorem close_l0 (l : List S36) (hl : l.length ≤ 1000000) (hc : chk (-1) l = true) (who fd : Int) (n : Nat) : ∀ (i : Nat), i ≤ l.length → l.length - i = n → (∀ x ∈ l.take i, is who fd x = false) →
    Ev (fun k => opens_Close.l0 k l who fd l l.length i) (match (l.drop i).find? (is who fd) with | some x => (l.filter (fun x => !is who fd x), x.f2.f0, x.f2.f1, 0) | none => ([], 0, 0, 411)) := by
  induction n with
  | zero =>
    intro i g1 g2 g3
    rw [List.drop_eq_nil_of_le (by omega)]
    exact Ev.step (fun k => by simp only [opens_Close.l0]; rw [if_neg (by omega)]; rfl) (Ev.now _)
  | succ n ih =>
    intro i g1 g2 g3
    have hlt : i < l.length := by omega
    have hd := List.drop_eq_getElem_cons hlt
    rw [hd, List.find?_cons]
    cases d : is who fd l[i] with
    | true =>
      obtain ⟨d1, d2⟩ := is_true.1 d
      have hrest := chk_drop l (-1) i hlt hc
      have e : l.filter (fun x => !is who fd x) = l.take i ++ l.drop (i + 1) := by
        conv => lhs; rw [← List.take_append_drop i l, hd]
        rw [List.filter_append, List.filter_cons, if_neg (by simp [d]), List.filter_eq_self.2 (fun x hx => by simp [g3 x hx]), List.filter_eq_self.2 (fun x hx => by
          have hx' := chk_fit hrest x hx
          have : is who fd x = false := by
            cases h : is who fd x with
            | false => rfl
            | true => have := (is_true.1 h).1; omega
          simp [this])]
      rw [e]
      refine Ev.step (fun k => ?_) (Ev.now _)
      simp only [opens_Close.l0, rd36 l i hlt, wr1 i (show i < 9223372036854775807 by omega)]
      rw [if_pos (by omega), if_pos (by omega), if_pos (by omega), if_pos (show ((l[i]).f0 == fd && (l[i]).f1 == who) = true from d)]
      unfold api_Open_24.f api_Open_23.f
      rw [if_pos (by omega), Option.bind_some, if_pos (by omega), Option.bind_some]
      rfl
    | false =>
      refine Ev.step (fun k => ?_) (ih (i + 1) (by omega) (by omega) (fun x hx => ?_))
      · simp only [opens_Close.l0, rd36 l i hlt]
        rw [if_pos (by omega), if_pos (by omega), if_pos (by omega), if_neg (by rw [show ((l[i]).f0 == fd && (l[i]).f1 == who) = false from d]; simp), wr1 i (by omega)]
      · rw [List.take_succ_eq_append_getElem hlt] at hx
        rcases List.mem_append.1 hx with hx | hx
        · exact g3 x hx
        · rw [List.mem_singleton.1 hx]; exact d
theorem close_f (l : List S36) (hl : l.length ≤ 9223372036854775806) (who fd : Int) : Ev (fun k => opens_Close.f k l who fd) (cls l who fd) := by
  refine Ev.bind (asked_f l who hl) ?_
  unfold cls
  by_cases c : ask l who = 0
  · simp only [if_pos c]
    have hlen := chk_len (ask_zero c).1
    exact close_l0 l (by omega) (ask_zero c).1 who fd l.length 0 (by omega) (by omega) (fun x hx => by simp at hx)
  · simp only [if_neg c]; exact Ev.now _

end Go.Proofs.Ytkkcikbijdehkaa.POpens
