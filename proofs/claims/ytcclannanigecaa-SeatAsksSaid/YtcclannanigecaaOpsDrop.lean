/- What dropping comes to, and what the reference says of it. -/
import Derived.Test.YtcclannanigecaaOpsRAsk
import Derived.Test.YtcclannanigecaaPSeatx15
import Derived.Test.YtcclannanigecaaPSeatx16
namespace Go.Proofs.Ytcclannanigecaa.PSeat
open Go Go.RowKit Go.Proofs.YtcclannanigecaaW.PrintWords Go.Proofs.YtcclannanigecaaW.PrintLast Go.Proofs.YtcclannanigecaaW.PrintMore
set_option linter.unusedVariables false

def drp (l : List S46) (who : Int) : List S46 × Int :=
  if ok l = true then (if FitC who then (match l.find? (key who) with | some _ => (l.filter (fun x => !key who x), 0) | none => ([], 6)) else ([], 1)) else ([], 4)
theorem cut_mid (a b : List S46) (y : S46) : (a ++ y :: b).take a.length ++ (a ++ y :: b).drop (a.length + 1) = a ++ b := by
  rw [List.take_left, ← List.drop_drop, List.drop_left]; rfl
theorem api22 (l : List S46) (i : Nat) (h : i < l.length) (hl : l.length ≤ 1000000) : api_Seat_22.f l (i : Int) (wrap64 ((i : Int) + 1)) = some (l.take i ++ l.drop (i + 1)) := by
  have h3 : (0 : Int) ≤ (i : Int) ∧ (i : Int) < ((i + 1 : Nat) : Int) ∧ ((i + 1 : Nat) : Int) ≤ (l.length : Int) := by omega
  unfold api_Seat_22.f
  rw [wr1 i (by omega), if_pos h3, Int.toNat_natCast, Int.toNat_natCast]
theorem drop_f (l : List S46) (who : Int) : Ev (fun k => seat_Drop.f k l who) (drp l who) := by
  refine Ev.bind (check_f l) ?_
  unfold drp
  by_cases c : ok l = true
  · obtain ⟨hchk, hlen⟩ := ok_spec c
    simp only [if_pos c, if_true, client_eq, Option.bind_some]
    by_cases d1 : FitC who
    · have e1 : decide (FitC who) = true := decide_eq_true d1
      simp only [if_pos e1, if_pos d1]
      obtain ⟨a, b, hs⟩ := sp_of who hchk
      rcases sp_cases hchk hs with ⟨y, b', rfl, hy, hb, hf, hat, _, hlt⟩ | ⟨_, hf, hat⟩
      · rw [if_pos (by omega)] at hat
        have h17 : api_Seat_17.f l = some l := by unfold api_Seat_17.f; rw [if_pos (by omega)]
        have h22 : api_Seat_22.f l (a.length : Int) (wrap64 ((a.length : Int) + 1)) = some (a ++ b') := by
          rw [api22 l a.length hlt (by omega)]
          exact congrArg some (by rw [hs.eq]; exact cut_mid a b' y)
        have e2 : l.filter (fun x => !key who x) = a ++ b' := by
          rw [hs.eq, List.filter_append, List.filter_cons, if_neg (by simp [key, hy]), List.filter_eq_self.2 (fun x hx => by have := hs.lo x hx; simp [key]; omega), List.filter_eq_self.2 (fun x hx => by have := hb x hx; simp [key]; omega)]
        rw [hf, e2]
        have hX : ((seat_at.f l who).bind fun bt220 => (if bt220.2 = true then ((api_Seat_17.f l).bind fun t222 => ((api_Seat_22.f t222 bt220.1 (wrap64 (bt220.1 + 1))).bind fun t225 => (some (t225, (0 : Int))))) else (some (([] : List (S46)), 6)))) = some (a ++ b', (0 : Int)) := by
          rw [hat, Option.bind_some, if_pos rfl, h17, Option.bind_some]
          show ((api_Seat_22.f l (a.length : Int) (wrap64 ((a.length : Int) + 1))).bind fun t225 => (some (t225, (0 : Int)))) = _
          rw [h22, Option.bind_some]
        exact Ev.congr (fun _ => hX) (Ev.now _)
      · rw [if_pos (by omega)] at hat
        rw [hf]
        simp only [hat, Option.bind_some, Bool.false_eq_true, if_false]
        exact Ev.now _
    · have e1 : ¬ decide (FitC who) = true := by simpa using d1
      simp only [if_neg e1, if_neg d1]
      exact Ev.now _
  · simp only [if_neg c]
    exact Ev.now _
theorem rdrop_l0 (l : List S46) (hl : l.length ≤ 1000000) (who : Int) (n : Nat) : ∀ (i : Nat) (out : List S46), i ≤ l.length → l.length - i = n → out.length ≤ i → out ++ (l.drop i).filter (fun x => !key who x) = l.filter (fun x => !key who x) →
    Ev (fun k => sextonref16_Drop.l0 k l who out l l.length i) (if (l.filter (fun x => !key who x)).length = l.length then ([], 6) else (l.filter (fun x => !key who x), 0)) := by
  induction n with
  | zero =>
    intro i out g1 g2 g3 h
    rw [List.drop_eq_nil_of_le (by omega), List.filter_nil, List.append_nil] at h
    subst h
    refine Ev.step (fun k => ?_) (Ev.now _)
    simp only [sextonref16_Drop.l0]
    rw [if_neg (by omega)]
    by_cases e : (l.filter (fun x => !key who x)).length = l.length
    · rw [if_pos e, if_pos (by omega)]
    · rw [if_neg e, if_neg (by omega)]
  | succ n ih =>
    intro i out g1 g2 g3 h
    have hlt : i < l.length := by omega
    rw [List.drop_eq_getElem_cons hlt, List.filter_cons] at h
    by_cases d : (l[i]).f0 = who
    · rw [if_neg (by simp [key, d])] at h
      refine Ev.step (fun k => ?_) (ih (i + 1) out (by omega) (by omega) (by omega) h)
      simp only [sextonref16_Drop.l0, rd46 l i hlt]
      rw [if_pos (by omega), if_pos (by omega), if_pos (by omega), if_pos d, wr1 i (by omega)]
    · rw [if_pos (by simp [key, d])] at h
      refine Ev.step (fun k => ?_) (ih (i + 1) (out ++ [l[i]]) (by omega) (by omega) (by simp; omega) (by rw [List.append_assoc]; exact h))
      simp only [sextonref16_Drop.l0, rd46 l i hlt]
      rw [if_pos (by omega), if_pos (by omega), if_pos (by omega), if_neg d, if_pos (by omega), wr1 i (by omega)]
theorem rdrop_f (l : List S46) (hl : l.length ≤ 9223372036854775806) (who : Int) : Ev (fun k => sextonref16_Drop.f k l who) (drp l who) := by
  refine Ev.bind (right_f l hl) ?_
  unfold drp
  cases c : ok l with
  | false => exact Ev.now _
  | true =>
    have hlen := (ok_spec c).2
    simp only [if_true]
    have hbad : Ev (fun k => sextonref16_Drop.j0 k l who true) (([] : List S46), (1 : Int)) := Ev.step (fun k => by simp only [sextonref16_Drop.j0]; rfl) (Ev.now _)
    by_cases d1 : FitC who
    · have d1' := d1
      unfold FitC at d1'
      have n1 : ¬ who < 0 := by omega
      simp only [if_neg n1, if_pos d1]
      rw [decide_eq_false (by omega)]
      have := rdrop_l0 l (by omega) who l.length 0 [] (by omega) (by omega) (by simp) (by simp)
      have e : (if (l.filter (fun x => !key who x)).length = l.length then (([] : List S46), (6 : Int)) else (l.filter (fun x => !key who x), 0)) = (match l.find? (key who) with | some _ => (l.filter (fun x => !key who x), 0) | none => ([], 6)) := by
        cases hf : l.find? (key who) with
        | none =>
          rw [if_pos]
          rw [List.filter_eq_self.2 (fun x hx => by have := List.find?_eq_none.1 hf x hx; simpa using this)]
        | some x =>
          rw [if_neg]
          intro he
          have hx := List.mem_of_find?_eq_some hf
          have hk := List.find?_some hf
          have hall := List.length_filter_eq_length_iff.1 he x hx
          rw [hk] at hall
          cases hall
      rw [e] at this
      exact Ev.step (fun k => by simp only [sextonref16_Drop.j0]; rfl) this
    · rw [if_neg d1]
      by_cases n1 : who < 0
      · simp only [if_pos n1]; exact hbad
      · have n2 : who > 1099511627776 := by unfold FitC at d1; omega
        simp only [if_neg n1]
        rw [decide_eq_true n2]; exact hbad

end Go.Proofs.Ytcclannanigecaa.PSeat
