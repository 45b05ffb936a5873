/- What the reference's asking comes to. -/
import Derived.Test.YtcclannanigecaaOps
import Derived.Test.YtcclannanigecaaPSeatx7
import Derived.Test.YtcclannanigecaaPSeatx8
namespace Go.Proofs.Ytcclannanigecaa.PSeat
open Go Go.RowKit Go.Proofs.YtcclannanigecaaW.PrintWords Go.Proofs.YtcclannanigecaaW.PrintLast Go.Proofs.YtcclannanigecaaW.PrintMore
set_option linter.unusedVariables false

theorem right_l0 (l : List S46) (hl : l.length ≤ 9223372036854775806) (n : Nat) : ∀ (i : Nat) (p : Int), -1 ≤ p → i ≤ l.length → l.length - i = n → Ev (fun k => sextonref16_Right.l0 k l p l l.length i) (chk p (l.drop i) && decide (l.length ≤ 6)) := by
  induction n with
  | zero =>
    intro i p h0 h1 h2
    rw [List.drop_eq_nil_of_le (by omega)]
    have e : decide ((l.length : Int) ≤ 6) = (chk p [] && decide (l.length ≤ 6)) := by
      rw [show chk p [] = true from rfl, Bool.true_and]; exact decide_eq_decide.2 (by omega)
    exact Ev.step (fun k => by simp only [sextonref16_Right.l0]; rw [if_neg (by omega), e]) (Ev.now _)
  | succ n ih =>
    intro i p h0 h1 h2
    have hlt : i < l.length := by omega
    rw [List.drop_eq_getElem_cons hlt]
    have g : ∀ k, sextonref16_Right.l0 (k + 1) l p l l.length i = if Fit l[i] ∧ p < (l[i]).f0 then sextonref16_Right.l0 k l (l[i]).f0 l l.length ((i + 1 : Nat) : Int) else some false := fun k => by
      simp only [sextonref16_Right.l0, rd46 l i hlt]
      rw [if_pos (by omega), if_pos (by omega), if_pos (by omega), wr1 i (by omega)]
      by_cases c : Fit l[i] ∧ p < (l[i]).f0
      · obtain ⟨⟨c1, c2, c3⟩, c4⟩ := c
        have c1' := c1
        have c2' := c2
        unfold FitC at c1'
        unfold FitR at c2'
        rw [if_pos (show Fit l[i] ∧ p < (l[i]).f0 from ⟨⟨c1, c2, c3⟩, c4⟩), if_neg (by omega), if_neg (by omega), if_neg (by omega), if_neg (by omega), if_neg (by omega)]
      · rw [if_neg c]
        split
        · rfl
        · split
          · rfl
          · split
            · rfl
            · split
              · rfl
              · split
                · rfl
                · exact absurd ⟨⟨by unfold FitC; omega, by unfold FitR; omega, by omega⟩, by omega⟩ c
    by_cases c : Fit l[i] ∧ p < (l[i]).f0
    · rw [chk_ok c]
      have := c.1.1
      unfold FitC at this
      exact Ev.step (fun k => by rw [g, if_pos c]) (ih (i + 1) _ (by omega) (by omega) (by omega))
    · rw [chk_bad c, Bool.false_and]
      exact Ev.step (fun k => by rw [g, if_neg c]) (Ev.now _)
theorem right_f (l : List S46) (hl : l.length ≤ 9223372036854775806) : Ev (fun k => sextonref16_Right.f k l) (ok l) := by
  have := right_l0 l hl l.length 0 (-1) (by omega) (by omega) (by omega)
  simpa [sextonref16_Right.f, ok] using this
theorem rask_l0 (l : List S46) (hl : l.length ≤ 1000000) (who req : Int) (n : Nat) : ∀ (i : Nat), i ≤ l.length → l.length - i = n →
    Ev (fun k => sextonref16_Ask.l0 k l who req l l.length i) (match (l.drop i).find? (key who) with | some x => (if req > x.f1 then (1, ⟨#[]⟩, 0) else if req < x.f1 then (3, ⟨#[]⟩, 0) else (2, x.f2, 0)) | none => (if l.length = 6 then (4, ⟨#[]⟩, 0) else (1, ⟨#[]⟩, 0))) := by
  induction n with
  | zero =>
    intro i h1 h2
    rw [List.drop_eq_nil_of_le (by omega)]
    simp only [List.find?_nil]
    refine Ev.step (fun k => ?_) (Ev.now _)
    simp only [sextonref16_Ask.l0]
    rw [if_neg (by omega)]
    by_cases e : l.length = 6
    · rw [if_pos e, if_pos (by omega)]
    · rw [if_neg e, if_neg (by omega)]
  | succ n ih =>
    intro i h1 h2
    have hlt : i < l.length := by omega
    rw [List.drop_eq_getElem_cons hlt, List.find?_cons]
    by_cases d : (l[i]).f0 = who
    · rw [show key who l[i] = true by simp [key, d]]
      refine Ev.step (fun k => ?_) (Ev.now _)
      simp only [sextonref16_Ask.l0, rd46 l i hlt]
      rw [if_pos (by omega), if_pos (by omega), if_pos (by omega), if_pos d]
      split
      · rfl
      · split <;> rfl
    · rw [show key who l[i] = false by simp [key, d]]
      refine Ev.step (fun k => ?_) (ih (i + 1) (by omega) (by omega))
      simp only [sextonref16_Ask.l0, rd46 l i hlt]
      rw [if_pos (by omega), if_pos (by omega), if_pos (by omega), if_neg d, wr1 i (by omega)]
theorem rask_f (l : List S46) (hl : l.length ≤ 9223372036854775806) (who req : Int) : Ev (fun k => sextonref16_Ask.f k l who req) (ask l who req) := by
  refine Ev.bind (right_f l hl) ?_
  unfold ask
  cases c : ok l with
  | false => exact Ev.now _
  | true =>
    have hlen := (ok_spec c).2
    simp only [if_true]
    have hbad : Ev (fun k => sextonref16_Ask.j0 k l who req true) ((0 : Int), (⟨#[]⟩ : ByteArray), (1 : Int)) := Ev.step (fun k => by simp only [sextonref16_Ask.j0]; rfl) (Ev.now _)
    by_cases d1 : FitC who
    · have d1' := d1
      unfold FitC at d1'
      have n1 : ¬ who < 0 := by omega
      have n2 : ¬ who > 1099511627776 := by omega
      simp only [if_neg n1, if_neg n2]
      by_cases d2 : FitR req
      · have d2' := d2
        unfold FitR at d2'
        have n3 : ¬ req < 1 := by omega
        have e2 : FitC who ∧ FitR req := ⟨d1, d2⟩
        simp only [if_neg n3, if_pos e2]
        rw [decide_eq_false (by omega)]
        exact Ev.step (fun k => by simp only [sextonref16_Ask.j0]; rfl) (rask_l0 l (by omega) who req l.length 0 (by omega) (by omega))
      · have e2 : ¬ (FitC who ∧ FitR req) := fun h => d2 h.2
        rw [if_neg e2]
        by_cases n3 : req < 1
        · simp only [if_pos n3]; exact hbad
        · simp only [if_neg n3]
          have : req > 1099511627776 := by unfold FitR at d2; omega
          rw [decide_eq_true this]; exact hbad
    · have e2 : ¬ (FitC who ∧ FitR req) := fun h => d1 h.1
      rw [if_neg e2]
      by_cases n1 : who < 0
      · simp only [if_pos n1]; exact hbad
      · have n2 : who > 1099511627776 := by unfold FitC at d1; omega
        simp only [if_neg n1, if_pos n2]; exact hbad

end Go.Proofs.Ytcclannanigecaa.PSeat
