/- AlarmOnce's two rows of twenty: which alarms are set, and when each is due. -/
import Derived.Test.YtnenheaijacphaaThree
namespace Go.Proofs.Ytnenheaijacphaa.PAlarm
open Go Go.RowKit Go.Maps Go.Proofs.YtnenheaijacphaaW.PrintWords Go.Proofs.YtnenheaijacphaaW.PrintLast Go.Proofs.YtnenheaijacphaaW.PrintMore Go.Proofs.Ytnenheaijacphaa.Sl
set_option linter.unusedVariables false
set_option linter.unusedSimpArgs false

/-- The two rows in memory. -/
def Arr (W : World) (sb ab : Nat) (S : List Bool) (A : List Int) : Prop :=
  W.heap[sb]? = some (.cells (S.map Value.bool).toArray 55 (0, 0)) ∧ W.heap[ab]? = some (.cells (A.map (Value.int .i64)).toArray 56 (0, 0))
theorem Arr.ne {W : World} {sb ab : Nat} {S : List Bool} {A : List Int} (h : Arr W sb ab S A) : sb ≠ ab := by
  intro e
  obtain ⟨h1, h2⟩ := h
  rw [e, h2] at h1
  injection h1 with h1
  injection h1 with _ h3 _
  cases h3
theorem Arr.move {W V : World} {sb ab : Nat} {S : List Bool} {A : List Int} {T : Nat → Prop} (h : Arr W sb ab S A) (k : Kp T W V) (h1 : ¬ T sb) (h2 : ¬ T ab) : Arr V sb ab S A := ⟨k.blk h.1 h1, k.blk h.2 h2⟩
theorem Arr.below {W V : World} {sb ab : Nat} {S : List Bool} {A : List Int} (h : Arr W sb ab S A) (k : Below W.heap.size W V) : Arr V sb ab S A := h.move (Kp.of_below (S := fun _ => False) k) (fun h => h) (fun h => h)
theorem Arr.clock {W V : World} {B p b sb ab : Nat} {S : List Bool} {A : List Int} {L : List S53} (h : Arr W sb ab S A) (c : Cl W B p b L) (k : Kp (fun k => k = b) W V) : Arr V sb ab S A := by
  obtain ⟨_, D, ⟨es, clock, hb, _⟩, _⟩ := c.2.2.2
  refine h.move k (fun e => ?_) (fun e => ?_)
  · have := h.1; rw [e, hb] at this; cases this
  · have := h.2; rw [e, hb] at this; cases this
theorem Arr.set_cell {W : World} {sb ab : Nat} {S : List Bool} {A : List Int} (h : Arr W sb ab S A) (n : Nat) (hn : n < S.length) : W.cell? ⟨sb, n, none⟩ = some (.bool (S.getD n false)) := by
  rw [blk_cell h.1 n]
  simp [List.getD_eq_getElem?_getD, hn]
theorem Arr.at_cell {W : World} {sb ab : Nat} {S : List Bool} {A : List Int} (h : Arr W sb ab S A) (n : Nat) (hn : n < A.length) : W.cell? ⟨ab, n, none⟩ = some (.int .i64 (A.getD n 0)) := by
  rw [blk_cell h.2 n]
  simp [List.getD_eq_getElem?_getD, hn]
theorem Arr.put_set {W : World} {sb ab : Nat} {S : List Bool} {A : List Int} (h : Arr W sb ab S A) (n : Nat) (v : Bool) : Arr (W.setCell ⟨sb, n, none⟩ (.bool v)) sb ab (S.set n v) A := by
  refine ⟨?_, blk_far h.2 (fun e => h.ne e.symm) _⟩
  rw [blk_set h.1 n (.bool v)]
  simp [List.map_set]
theorem Arr.put_at {W : World} {sb ab : Nat} {S : List Bool} {A : List Int} (h : Arr W sb ab S A) (n : Nat) (v : Int) : Arr (W.setCell ⟨ab, n, none⟩ (.int .i64 v)) sb ab S (A.set n v) := by
  refine ⟨blk_far h.1 h.ne _, ?_⟩
  rw [blk_set h.2 n (.int .i64 v)]
  simp [List.map_set]
/-- The rows tell the alarms. -/
structure Inv (L : List S53) (S : List Bool) (A : List Int) : Prop where
  ls : S.length = 20
  la : A.length = 20
  set : ∀ n : Nat, n < 20 → S.getD n false = (at_ L (n : Int)).isSome
  at_ : ∀ (n : Nat) (c : Int), n < 20 → PAlarm.at_ L (n : Int) = some c → A.getD n 0 = c
  rng : ∀ x c, PAlarm.at_ L x = some c → 0 ≤ x ∧ x < 20
theorem Inv.start : Inv [] (List.replicate 20 false) (List.replicate 20 0) :=
  ⟨by simp, by simp, fun n h => by rw [List.getD_eq_getElem?_getD, List.getElem?_replicate_of_lt h]; rfl, fun n c h e => by simp [PAlarm.at_] at e, fun x c e => by simp [PAlarm.at_] at e⟩
theorem getD_set {α : Type} (l : List α) (n m : Nat) (v d : α) (hn : n < l.length) : (l.set n v).getD m d = if n = m then v else l.getD m d := by
  simp only [List.getD_eq_getElem?_getD, List.getElem?_set]
  by_cases e : n = m
  · subst e; simp [hn]
  · simp [e]
theorem Inv.put {L : List S53} {S : List Bool} {A : List Int} (h : Inv L S A) (k : Ok L) (n : Nat) (t : Int) (hn : n < 20) (h1 : big (n : Int) = true) (h2 : big t = true) (h3 : (PAlarm.at_ L (n : Int)).isSome = true ∨ L.length < 256) : Inv (put L n t) (S.set n true) (A.set n t) := by
  have hp := at_put k h1 h2 h3
  refine ⟨by simp [h.ls], by simp [h.la], fun m hm => ?_, fun m c hm e => ?_, fun x c e => ?_⟩
  · rw [getD_set _ _ _ _ _ (by rw [h.ls]; exact hn), hp]
    by_cases e : n = m
    · subst e; simp
    · rw [if_neg e, if_neg (by omega)]; exact h.set m hm
  · rw [hp] at e
    rw [getD_set _ _ _ _ _ (by rw [h.la]; exact hn)]
    by_cases e' : n = m
    · subst e'; simpa using e
    · rw [if_neg (by omega)] at e
      rw [if_neg e']; exact h.at_ m c hm e
  · rw [hp] at e
    by_cases e' : x = n
    · omega
    · rw [if_neg e'] at e; exact h.rng x c e
theorem Inv.drp {L : List S53} {S : List Bool} {A : List Int} (h : Inv L S A) (n : Nat) (hn : n < 20) : Inv (drp L n) (S.set n false) A := by
  refine ⟨by simp [h.ls], h.la, fun m hm => ?_, fun m c hm e => ?_, fun x c e => ?_⟩
  · rw [getD_set _ _ _ _ _ (by rw [h.ls]; exact hn), at_drp]
    by_cases e : n = m
    · subst e; simp
    · rw [if_neg e, if_neg (by omega)]; exact h.set m hm
  · rw [at_drp] at e
    by_cases e' : (m : Int) = n
    · rw [if_pos e'] at e; cases e
    · rw [if_neg e'] at e; exact h.at_ m c hm e
  · rw [at_drp] at e
    by_cases e' : x = n
    · rw [if_pos e'] at e; cases e
    · rw [if_neg e'] at e; exact h.rng x c e
theorem rest_gt {L : List S53} {t x c : Int} (h : Ok L) (e : at_ (rest L t) x = some c) : t < c := by
  have hr : Ok (rest L t) := h.sub List.filter_sublist
  have := (List.mem_filter.1 ((at_iff hr.one x c).1 e)).2
  simpa using this
end Go.Proofs.Ytnenheaijacphaa.PAlarm
