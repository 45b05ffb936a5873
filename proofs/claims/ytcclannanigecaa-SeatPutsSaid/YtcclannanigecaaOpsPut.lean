/- What putting comes to. -/
import Derived.Test.YtcclannanigecaaOps
import Derived.Test.YtcclannanigecaaPSeatx6
namespace Go.Proofs.Ytcclannanigecaa.PSeat
open Go Go.RowKit Go.Proofs.YtcclannanigecaaW.PrintWords Go.Proofs.YtcclannanigecaaW.PrintLast Go.Proofs.YtcclannanigecaaW.PrintMore
set_option linter.unusedVariables false

def put (l : List S46) (who req : Int) (r : ByteArray) : List S46 × Int :=
  if (ask l who req).2.2 = 0 then (if (r.size : Int) > 8192 then ([], 2) else if (ask l who req).1 = 4 then ([], 412) else if (ask l who req).1 = 1 then (l.filter (fun x => decide (x.f0 < who)) ++ ⟨who, req, r⟩ :: l.filter (fun x => decide (who < x.f0)), 0) else ([], 7)) else ([], (ask l who req).2.2)
theorem ask_zero {l : List S46} {who req : Int} (h : (ask l who req).2.2 = 0) : ok l = true ∧ FitC who ∧ FitR req := by
  unfold ask at h
  split at h
  · split at h
    · rename_i a b; exact ⟨a, b⟩
    · cases h
  · cases h
theorem filters {l a b : List S46} {who : Int} (h : Sp l who a b) : l.filter (fun x => decide (x.f0 < who)) = a ∧ l.filter (fun x => decide (who < x.f0)) = b.filter (fun x => decide (who < x.f0)) := by
  constructor
  · rw [h.eq, List.filter_append, List.filter_eq_self.2 (fun x hx => by simpa using h.lo x hx), List.filter_eq_nil_iff.2 (fun x hx => by have := h.hi x hx; simp; omega), List.append_nil]
  · rw [h.eq, List.filter_append, List.filter_eq_nil_iff.2 (fun x hx => by have := h.lo x hx; simp; omega), List.nil_append]
theorem put_f (l : List S46) (who req : Int) (r : ByteArray) : Ev (fun k => seat_Put.f k l who req r) (put l who req r) := by
  refine Ev.bind (ask_f l who req) ?_
  unfold put
  by_cases c : (ask l who req).2.2 = 0
  · simp only [if_pos c]
    by_cases d : (r.size : Int) > 8192
    · simp only [if_pos d]; exact Ev.now _
    · simp only [if_neg d]
      by_cases e : (ask l who req).1 = 4
      · simp only [if_pos e]; exact Ev.now _
      · simp only [if_neg e]
        by_cases f : (ask l who req).1 = 1
        · simp only [if_pos f]
          obtain ⟨hok, hc, hr⟩ := ask_zero c
          obtain ⟨hchk, hlen⟩ := ok_spec hok
          obtain ⟨a, b, hs⟩ := sp_of who hchk
          obtain ⟨f1, f2⟩ := filters hs
          rw [f1, f2]
          have h17 : api_Seat_17.f l = some l := by unfold api_Seat_17.f; rw [if_pos (by omega)]
          have hll := congrArg List.length hs.eq
          rw [List.length_append] at hll
          simp only [h17, Option.bind_some]
          rcases sp_cases hchk hs with ⟨y, b', rfl, hy, hb, _, hat, _, hlt⟩ | ⟨hb, _, hat⟩
          · rw [if_pos (by omega)] at hat
            have q1 : (0 : Int) ≤ (a.length : Int) := by omega
            have q2 : (a.length : Int) < (l.length : Int) := by omega
            simp only [hat, Option.bind_some, if_true, if_pos q1, if_pos q2, Int.toNat_natCast]
            have e1 : l.set a.length ⟨who, req, r⟩ = a ++ ⟨who, req, r⟩ :: b' := by rw [hs.eq]; simp
            rw [e1, List.filter_cons, if_neg (by simp; omega), List.filter_eq_self.2 (fun x hx => by simpa using hb x hx)]
            exact Ev.now _
          · rw [if_pos (by omega)] at hat
            have q1 : (0 : Int) ≤ (a.length : Int) := by omega
            have q3 : (0 : Int) ≤ (a.length : Int) ∧ (a.length : Int) ≤ (l.length : Int) ∧ l.length ≤ 1000000000000 := by omega
            have h19 : api_Seat_19.f l (a.length : Int) [⟨0, 0, ⟨#[]⟩⟩] = some (a ++ ⟨0, 0, ⟨#[]⟩⟩ :: b) := by
              unfold api_Seat_19.f
              simp only []
              rw [if_pos q3, Int.toNat_natCast, hs.eq, List.take_left, List.drop_left]
            have q2 : (a.length : Int) < ((a ++ (⟨0, 0, ⟨#[]⟩⟩ : S46) :: b).length : Int) := by rw [List.length_append, List.length_cons]; omega
            simp only [hat, Option.bind_some, Bool.false_eq_true, if_false, h19, if_pos q1, if_pos q2, Int.toNat_natCast]
            have e1 : (a ++ (⟨0, 0, ⟨#[]⟩⟩ : S46) :: b).set a.length ⟨who, req, r⟩ = a ++ ⟨who, req, r⟩ :: b := by simp
            rw [e1, List.filter_eq_self.2 (fun x hx => by simpa using hb x hx)]
            exact Ev.now _
        · simp only [if_neg f]; exact Ev.now _
  · simp only [if_neg c]; exact Ev.now _
/-- What a put that is let leaves. -/
theorem put_ok {l : List S46} {who req : Int} {r : ByteArray} (h : (put l who req r).2 = 0) :
    ok l = true ∧ FitC who ∧ FitR req ∧ (r.size : Int) ≤ 8192 ∧ ∃ a b, (put l who req r).1 = a ++ ⟨who, req, r⟩ :: b ∧ (∀ x ∈ a, x.f0 < who) ∧ (∀ x ∈ b, who < x.f0) ∧ ok (a ++ ⟨who, req, r⟩ :: b) = true ∧
      ((∃ y, l = a ++ y :: b ∧ y.f0 = who ∧ y.f1 < req) ∨ (l = a ++ b ∧ l.length ≠ 6)) := by
  unfold put at h ⊢
  by_cases c : (ask l who req).2.2 = 0
  · simp only [if_pos c] at h ⊢
    by_cases d : (r.size : Int) > 8192
    · simp only [if_pos d] at h; cases h
    · simp only [if_neg d] at h ⊢
      by_cases e : (ask l who req).1 = 4
      · simp only [if_pos e] at h; cases h
      · simp only [if_neg e] at h ⊢
        by_cases f : (ask l who req).1 = 1
        · simp only [if_pos f]
          obtain ⟨hok, hc, hr⟩ := ask_zero c
          obtain ⟨hchk, hlen⟩ := ok_spec hok
          obtain ⟨a, b, hs⟩ := sp_of who hchk
          obtain ⟨f1, f2⟩ := filters hs
          rw [f1, f2]
          obtain ⟨ca, q, cb, _, _⟩ := chk_app (show chk (-1) (a ++ b) = true by rw [← hs.eq]; exact hchk)
          have hll := congrArg List.length hs.eq
          rw [List.length_append] at hll
          have hfit : Fit ⟨who, req, r⟩ := ⟨hc, hr, by show (r.size : Int) ≤ 8192; omega⟩
          have e2 : FitC who ∧ FitR req := ⟨hc, hr⟩
          have key1 : ∀ b', chk q b' = true ∨ (∃ y, b = y :: b') → (∀ x ∈ b', who < x.f0) → chk (-1) (a ++ ⟨who, req, r⟩ :: b') = true := fun b' hb' hb => by
            have cb' : ∃ q', chk q' b' = true := by
              rcases hb' with hb' | ⟨y, rfl⟩
              · exact ⟨q, hb'⟩
              · exact ⟨_, (chk_spec cb).2.2⟩
            obtain ⟨q', cq'⟩ := cb'
            have c1 : chk (who - 1) (⟨who, req, r⟩ :: b') = true := by rw [chk_ok ⟨hfit, by show who - 1 < who; omega⟩]; exact chk_mono cq' hb
            refine chk_join ca c1 (fun x hx z hz => ?_) (fun z hz => ?_)
            · have := hs.lo x hx
              rcases List.mem_cons.1 hz with rfl | hz
              · exact this
              · have := hb z hz; omega
            · rcases List.mem_cons.1 hz with rfl | hz
              · have := hc.1; show -1 < who; omega
              · have := hb z hz; have := hc.1; omega
          rcases sp_cases hchk hs with ⟨y, b', rfl, hy, hb, hf, _, _, hlt⟩ | ⟨hb, hf, _⟩
          · have ef : (y :: b').filter (fun x => decide (who < x.f0)) = b' := by rw [List.filter_cons, if_neg (by simp; omega), List.filter_eq_self.2 (fun x hx => by simpa using hb x hx)]
            rw [ef]
            refine ⟨hok, hc, hr, by omega, a, b', rfl, hs.lo, hb, ?_, .inl ⟨y, hs.eq, hy, ?_⟩⟩
            · unfold ok
              rw [key1 b' (.inr ⟨y, rfl⟩) hb, decide_eq_true (by rw [List.length_append, List.length_cons]; rw [List.length_cons] at hll; omega)]; rfl
            · unfold ask at f
              rw [if_pos hok, if_pos e2, hf] at f
              simp only [] at f
              split at f
              · rename_i g; omega
              · split at f <;> cases f
          · have ef : b.filter (fun x => decide (who < x.f0)) = b := List.filter_eq_self.2 (fun x hx => by simpa using hb x hx)
            rw [ef]
            have h6 : l.length ≠ 6 := fun h6 => by
              unfold ask at e
              rw [if_pos hok, if_pos e2, hf] at e
              simp only [if_pos h6] at e
              exact e trivial
            refine ⟨hok, hc, hr, by omega, a, b, rfl, hs.lo, hb, ?_, .inr ⟨hs.eq, h6⟩⟩
            unfold ok
            rw [key1 b (.inl cb) hb, decide_eq_true (by rw [List.length_append, List.length_cons]; omega)]; rfl
        · simp only [if_neg f] at h; cases h
  · simp only [if_neg c] at h
    exact absurd h c
theorem put_bad {l : List S46} {who req : Int} {r : ByteArray} (h : (put l who req r).2 ≠ 0) : (put l who req r).1 = [] := by
  unfold put at h ⊢
  split
  · split
    · rfl
    · split
      · rfl
      · split
        · rename_i c d e f
          rw [if_pos c, if_neg d, if_neg e, if_pos f] at h
          exact absurd rfl h
        · rfl
  · rfl
theorem put_full {l : List S46} {who req : Int} {r : ByteArray} (h : (put l who req r).2 = 412) : ok l = true ∧ l.find? (key who) = none ∧ l.length = 6 := by
  unfold put at h
  by_cases c : (ask l who req).2.2 = 0
  · rw [if_pos c] at h
    obtain ⟨hok, hc, hr⟩ := ask_zero c
    have e2 : FitC who ∧ FitR req := ⟨hc, hr⟩
    by_cases d : (r.size : Int) > 8192
    · rw [if_pos d] at h; cases h
    · rw [if_neg d] at h
      by_cases e : (ask l who req).1 = 4
      · unfold ask at e
        rw [if_pos hok, if_pos e2] at e
        cases hf : l.find? (key who) with
        | none =>
          rw [hf] at e
          simp only [] at e
          split at e
          · rename_i g; exact ⟨hok, rfl, g⟩
          · cases e
        | some x =>
          rw [hf] at e
          simp only [] at e
          split at e
          · cases e
          · split at e <;> cases e
      · rw [if_neg e] at h
        split at h <;> cases h
  · rw [if_neg c] at h
    unfold ask at h c
    split at h
    · split at h
      · rename_i a b
        rw [if_pos a, if_pos b] at c
        cases hf : l.find? (key who) with
        | none => rw [hf] at c; simp only [] at c; split at c <;> exact absurd rfl c
        | some x => rw [hf] at c; simp only [] at c; split at c; exact absurd rfl c; split at c <;> exact absurd rfl c
      · cases h
    · cases h

end Go.Proofs.Ytcclannanigecaa.PSeat
