/- AlarmOnce: what its steps do to the clock and to the two rows. -/
import Derived.Test.YtnenheaijacphaaOnceP
namespace Go.Proofs.Ytnenheaijacphaa.PAlarm
open Go Go.RowKit Go.Maps Go.Proofs.YtnenheaijacphaaW.PrintWords Go.Proofs.YtnenheaijacphaaW.PrintLast Go.Proofs.YtnenheaijacphaaW.PrintMore Go.Proofs.Ytnenheaijacphaa.Sl
set_option linter.unusedVariables false
set_option linter.unusedSimpArgs false

theorem set_zero {L M : List S53} {n t : Int} (k : Ok L) (h : set L n t = (0, M)) : big n = true ∧ big t = true ∧ ((at_ L n).isSome = true ∨ L.length < 256) ∧ M = put L n t := by
  unfold set at h
  split at h
  · simp at h
  · rename_i c
    split at h
    · simp at h
    · rename_i d
      have c' : big n = true ∧ big t = true := by cases h1 : big n <;> cases h2 : big t <;> simp [h1, h2] at c ⊢
      refine ⟨c'.1, c'.2, ?_, by simpa using h.symm⟩
      have := k.len
      cases e : at_ L n with
      | some c => exact .inl rfl
      | none => exact .inr (by have : ¬ L.length = 256 := fun e' => d ⟨e, e'⟩; omega)
theorem set_err {L M : List S53} {n t r : Int} (h : set L n t = (r, M)) (hr : r ≠ 0) : M = L := by
  unfold set at h
  split at h
  · simp at h; exact h.2.symm
  · split at h
    · simp at h; exact h.2.symm
    · simp at h; exact absurd h.1.symm hr
theorem stop_big {L : List S53} {n : Int} (h : big n = true) : stop L n = ((at_ L n).isSome, 0, drp L n) := by unfold stop; rw [if_neg (by rw [h]; simp)]
theorem due_big' {L : List S53} {t : Int} (h : big t = true) : due L t = (dueL L t, 0, rest L t) := by unfold due; rw [if_neg (by rw [h]; simp)]
theorem due_small {L : List S53} {t : Int} (h : big t = false) : due L t = ([], 1, L) := by unfold due; rw [if_pos h]
theorem Cl.arr_ne {W : World} {B p b sb ab : Nat} {L : List S53} {S : List Bool} {A : List Int} (c : Cl W B p b L) (h : Arr W sb ab S A) : p ≠ sb ∧ p ≠ ab ∧ b ≠ sb ∧ b ≠ ab := by
  obtain ⟨_, D, ⟨es, clock, hb, _⟩, _⟩ := c.2.2.2
  have hp := c.2.2.1
  refine ⟨fun e => ?_, fun e => ?_, fun e => ?_, fun e => ?_⟩
  · rw [e, h.1] at hp; injection hp with hp; injection hp with _ h2 _; cases h2
  · rw [e, h.2] at hp; injection hp with hp; injection hp with _ h2 _; cases h2
  · rw [e, h.1] at hb; cases hb
  · rw [e, h.2] at hb; cases hb
theorem Own.store {w W : World} {p b g : Nat} {L : List S53} (H : Own w W p b L) (hg : w.heap.size ≤ g) (h1 : p ≠ g) (h2 : b ≠ g) (n : Nat) (v : Value) : Own w (W.setCell ⟨g, n, none⟩ v) p b L := by
  have k : Kp (fun k => k = g) W (W.setCell ⟨g, n, none⟩ v) := (Kp.refl (fun k => k = g) W).set (p := ⟨g, n, none⟩) (.inl rfl) v
  exact ⟨H.1.move k h1 h2, below_kp H.2 (Nat.le_refl _) k (fun j e => by subst e; exact hg)⟩
theorem own_set2 {w W : World} {p b sb ab : Nat} {L : List S53} {S : List Bool} {A : List Int} (H : Own w W p b L) (R : Arr W sb ab S A) (n t r : Int) (M : List S53) (h : set L n t = (r, M)) : Calls Try.prog 10 #[.pointer (some ⟨p, 0, none⟩), .int .i64 n, .int .i64 t] W fun e w' => e = .returned (.int .i64 r) ∧ Own w w' p b M ∧ Arr w' sb ab S A ∧ Kp (fun k => k = b) W w' := by
  have := set_calls _ p b L n t W H.1
  rw [h] at this
  exact this.mono fun e w' ⟨h1, h2, h3⟩ => ⟨h1, H.kp h2 h3, R.clock H.1 h3, h3⟩
theorem own_stop2 {w W : World} {p b sb ab : Nat} {L : List S53} {S : List Bool} {A : List Int} (H : Own w W p b L) (R : Arr W sb ab S A) (n : Int) (hn : big n = true) : Calls Try.prog 15 #[.pointer (some ⟨p, 0, none⟩), .int .i64 n] W fun e w' => e = .returned (.tuple #[.bool (at_ L n).isSome, .int .i64 0]) ∧ Own w w' p b (drp L n) ∧ Arr w' sb ab S A ∧ Kp (fun k => k = b) W w' := by
  have := stop_calls _ p b L n W H.1
  rw [stop_big hn] at this
  exact this.mono fun e w' ⟨h1, h2, h3⟩ => ⟨h1, H.kp h2 h3, R.clock H.1 h3, h3⟩
theorem own_due2 {w W : World} {p b sb ab : Nat} {L : List S53} {S : List Bool} {A : List Int} (H : Own w W p b L) (R : Arr W sb ab S A) (t r : Int) (xs : List Int) (M : List S53) (h : due L t = (xs, r, M)) : Calls Try.prog 11 #[.pointer (some ⟨p, 0, none⟩), .int .i64 t] W fun e w' => ∃ v, e = .returned (.tuple #[v, .int .i64 r]) ∧ Row w' W.heap.size v xs ∧ Own w w' p b M ∧ Arr w' sb ab S A ∧ Kp (fun k => k = b) W w' := by
  have := due_calls _ p b L t W H.1
  rw [h] at this
  exact this.mono fun e w' ⟨v, h1, h2, h3, h4⟩ => ⟨v, h1, h2, H.kp h3 h4, R.clock H.1 h4, h4⟩
theorem own_next2 {w W : World} {p b sb ab : Nat} {L : List S53} {S : List Bool} {A : List Int} (H : Own w W p b L) (R : Arr W sb ab S A) : Calls Try.prog 19 #[.pointer (some ⟨p, 0, none⟩)] W fun e w' => e = .returned (.tuple #[.int .i64 (nxt L), .bool (!L.isEmpty)]) ∧ Own w w' p b L ∧ Arr w' sb ab S A ∧ Below W.heap.size W w' :=
  (next_calls _ p b L W H.1).mono fun e w' ⟨h1, h2⟩ => ⟨h1, H.below h2, R.below h2, h2⟩
/-- The row of those that are set, when the first of the told ones have been struck. -/
structure Struck (S S' : List Bool) (xs : List Int) : Prop where
  len : S'.length = 20
  get : ∀ n : Nat, n < 20 → S'.getD n false = (S.getD n false && decide ((n : Int) ∉ xs))
theorem Struck.start {S : List Bool} (h : S.length = 20) : Struck S S [] := ⟨h, fun n _ => by simp⟩
theorem Struck.step {S S' : List Bool} {xs : List Int} (h : Struck S S' xs) (m : Nat) (hm : m < 20) : Struck S (S'.set m false) (xs ++ [(m : Int)]) := by
  refine ⟨by simp [h.len], fun n hn => ?_⟩
  rw [getD_set _ _ _ _ _ (by rw [h.len]; exact hm)]
  by_cases e : m = n
  · subst e; simp
  · rw [if_neg e, h.get n hn]
    have : ¬ (n : Int) = (m : Int) := by omega
    simp [this]
theorem Struck.end_ {L : List S53} {S S' : List Bool} {A : List Int} {t : Int} (h : Struck S S' (dueL L t)) (k : Ok L) (I : Inv L S A) : Inv (rest L t) S' A := by
  have kr : Ok (rest L t) := k.sub List.filter_sublist
  have at_rest : ∀ x : Int, at_ (rest L t) x = match at_ L x with | some c => if c ≤ t then none else some c | none => none := by
    intro x
    cases e : at_ L x with
    | none =>
      simp only
      rw [at_none] at e ⊢
      exact fun a ha => e a (List.mem_filter.1 ha).1
    | some c =>
      simp only
      have hm := (at_iff k.one x c).1 e
      split
      · rename_i hc
        rw [at_none]
        intro a ha ea
        obtain ⟨h1, h2⟩ := List.mem_filter.1 ha
        have h2 : t < a.f1 := by simpa using h2
        have := (at_iff k.one x a.f1).2 (by rw [← ea]; exact h1)
        rw [e] at this
        cases this
        omega
      · rename_i hc
        rw [at_iff kr.one]
        exact List.mem_filter.2 ⟨hm, by simp; omega⟩
  refine ⟨h.len, I.la, fun n hn => ?_, fun n c hn e => ?_, fun x c e => ?_⟩
  · rw [h.get n hn, I.set n hn, at_rest]
    cases e : at_ L (n : Int) with
    | none => simp
    | some c =>
      by_cases hc : c ≤ t
      · have : (n : Int) ∈ dueL L t := (mem_due k).2 ⟨c, e, hc⟩
        simp [this, hc]
      · have : (n : Int) ∉ dueL L t := fun hm => by obtain ⟨d, e1, e2⟩ := (mem_due k).1 hm; rw [e] at e1; cases e1; exact hc e2
        simp [this, hc]
  · rw [at_rest] at e
    cases e' : at_ L (n : Int) with
    | none => rw [e'] at e; cases e
    | some d =>
      rw [e'] at e
      simp only at e
      split at e
      · cases e
      · obtain rfl := Option.some.inj e; exact I.at_ n _ hn e'
  · rw [at_rest] at e
    cases e' : at_ L x with
    | none => rw [e'] at e; cases e
    | some d => exact I.rng x d e'
end Go.Proofs.Ytnenheaijacphaa.PAlarm
