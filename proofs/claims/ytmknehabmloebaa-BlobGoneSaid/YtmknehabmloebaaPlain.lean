/- Plain facts about runs: which are right, what Check answers. -/
import Derived.Test.YtmknehabmloebaaPBlobx4
namespace Go.Proofs.Ytmknehabmloebaa.PBlob
open Go.RowKit Go.Proofs.YtmknehabmloebaaW.PrintWords Go.Proofs.YtmknehabmloebaaW.PrintLast Go.Proofs.YtmknehabmloebaaW.PrintMore
set_option linter.unusedVariables false

theorem wrap_id {a : Int} (h : -9223372036854775808 ≤ a) (h2 : a ≤ 9223372036854775807) : wrap64 a = a := by unfold wrap64; omega
theorem rd41 (l : List S41) (i : Nat) (h : i < l.length) : rd_T41 l (i : Int) = l[i] := by
  simp [rd_T41, List.getD_eq_getElem?_getD, List.getElem?_eq_getElem h]

/-- Are runs right, the first place at which one may begin being 'fr'? -/
def chk : Int → List S41 → Bool
  | _, [] => true
  | fr, x :: l => if x.f1.toList = ([] : List UInt8) ∨ x.f0 < fr ∨ (x.f1.size : Int) > 1048576 ∨ x.f0 > 1048576 - x.f1.size then false else chk (x.f0 + x.f1.size + 1) l

theorem chk_bad {fr : Int} {x : S41} {l : List S41} (h : x.f1.toList = ([] : List UInt8) ∨ x.f0 < fr ∨ (x.f1.size : Int) > 1048576 ∨ x.f0 > 1048576 - x.f1.size) : chk fr (x :: l) = false := by rw [chk, if_pos h]
theorem chk_ok {fr : Int} {x : S41} {l : List S41} (h1 : ¬ x.f1.toList = ([] : List UInt8)) (h2 : ¬ x.f0 < fr) (h3 : ¬ (x.f1.size : Int) > 1048576) (h4 : ¬ x.f0 > 1048576 - x.f1.size) : chk fr (x :: l) = chk (x.f0 + x.f1.size + 1) l := by
  rw [chk, if_neg (by rintro (h | h | h | h) <;> contradiction)]

theorem check_l0 (l : List S41) (hl : l.length ≤ 9223372036854775807) (d : Nat) : ∀ (k i : Nat) (fr : Int), 0 ≤ fr → i ≤ l.length → l.length - i = d → d < k → 
    blob_Check.l0 k fr l l.length i = some (if chk fr (l.drop i) = true then 0 else 80) := by
  induction d with
  | zero =>
    intro k i fr h0 h1 h2 hk
    obtain ⟨k, rfl⟩ : ∃ m, k = m + 1 := ⟨k - 1, by omega⟩
    rw [List.drop_eq_nil_of_le (by omega)]
    simp only [blob_Check.l0]
    rw [if_neg (by omega)]
    rfl
  | succ d ih =>
    intro k i fr h0 h1 h2 hk
    obtain ⟨k, rfl⟩ : ∃ m, k = m + 1 := ⟨k - 1, by omega⟩
    have hlt : i < l.length := by omega
    have hd : l.drop i = l[i] :: l.drop (i + 1) := List.drop_eq_getElem_cons hlt
    rw [hd]
    simp only [blob_Check.l0, rd41 l i hlt]
    generalize l[i] = x
    rw [if_pos (by omega), if_pos (by omega), if_pos (by omega)]
    by_cases c1 : x.f1.toList = ([] : List UInt8)
    · rw [if_pos c1, chk_bad (.inl c1)]; rfl
    · rw [if_neg c1]
      by_cases c2 : x.f0 < fr
      · rw [if_pos c2, chk_bad (.inr (.inl c2))]; rfl
      · rw [if_neg c2]
        by_cases c3 : (x.f1.size : Int) > 1048576
        · rw [if_pos c3, chk_bad (.inr (.inr (.inl c3)))]; rfl
        · rw [if_neg c3, wrap_id (a := 1048576 - (x.f1.size : Int)) (by omega) (by omega)]
          by_cases c4 : x.f0 > 1048576 - (x.f1.size : Int)
          · rw [if_pos c4, chk_bad (.inr (.inr (.inr c4)))]; rfl
          · rw [if_neg c4, chk_ok c1 c2 c3 c4, wrap_id (a := x.f0 + (x.f1.size : Int)) (by omega) (by omega), wrap_id (a := x.f0 + (x.f1.size : Int) + 1) (by omega) (by omega), wrap_id (a := (i : Int) + 1) (by omega) (by omega)]
            exact ih k (i + 1) _ (by omega) (by omega) (by omega) (by omega)

theorem check_f (l : List S41) (hl : l.length ≤ 9223372036854775807) : blob_Check.f (l.length + 1) l = some (if chk 0 l = true then 0 else 80) := by
  have := check_l0 l hl l.length (l.length + 1) 0 0 (by omega) (by omega) (by omega) (by omega)
  simpa [blob_Check.f] using this

/-- Runs within the file. -/
def Good (l : List S41) : Prop := ∀ x ∈ l, 0 ≤ x.f0 ∧ x.f0 ≤ 1048576 ∧ x.f1.size ≤ 1048576

theorem chk_spec {fr : Int} {x : S41} {l : List S41} (h : chk fr (x :: l) = true) : ¬ x.f1.toList = ([] : List UInt8) ∧ fr ≤ x.f0 ∧ (x.f1.size : Int) ≤ 1048576 ∧ x.f0 ≤ 1048576 - x.f1.size ∧ chk (x.f0 + x.f1.size + 1) l = true := by
  by_cases c : x.f1.toList = ([] : List UInt8) ∨ x.f0 < fr ∨ (x.f1.size : Int) > 1048576 ∨ x.f0 > 1048576 - x.f1.size
  · rw [chk_bad c] at h; cases h
  · simp only [not_or] at c
    obtain ⟨c1, c2, c3, c4⟩ := c
    rw [chk_ok c1 c2 c3 c4] at h
    exact ⟨c1, by omega, by omega, by omega, h⟩
theorem size_pos {s : ByteArray} (h : ¬ s.toList = ([] : List UInt8)) : 0 < s.size := by
  rcases Nat.eq_zero_or_pos s.size with h0 | h0
  · refine absurd ?_ h
    have : s = ByteArray.empty := by
      apply ByteArray.ext
      exact Array.eq_empty_of_size_eq_zero h0
    rw [this, ByteArray.toList_eq]; rfl
  · exact h0
theorem chk_good : ∀ {l : List S41} {fr : Int}, 0 ≤ fr → chk fr l = true → Good l
  | [], _, _, _ => fun x hx => by simp at hx
  | y :: l, fr, h0, h => fun x hx => by
    obtain ⟨h1, h2, h3, h4, h5⟩ := chk_spec h
    rcases List.mem_cons.1 hx with rfl | hx
    · omega
    · exact chk_good (by omega) h5 x hx
/-- Right runs are few. -/
theorem chk_few : ∀ {l : List S41} {fr : Int}, 0 ≤ fr → chk fr l = true → l.length ≤ 1048576 ∧ (l ≠ [] → (l.length : Int) + fr ≤ 1048577)
  | [], _, _, _ => ⟨by simp, fun h => absurd rfl h⟩
  | y :: l, fr, h0, h => by
    obtain ⟨h1, h2, h3, h4, h5⟩ := chk_spec h
    have hp := size_pos h1
    have ih := chk_few (l := l) (fr := y.f0 + y.f1.size + 1) (by omega) h5
    cases l with
    | nil => simp; omega
    | cons z l => have := ih.2 (by simp); simp at this ⊢; omega

end Go.Proofs.Ytmknehabmloebaa.PBlob
