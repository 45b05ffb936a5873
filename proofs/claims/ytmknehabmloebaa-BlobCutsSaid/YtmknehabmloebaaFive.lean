/- What blob's own functions answer, and the closed case every law ends with. -/
import Derived.Test.YtmknehabmloebaaRefs
import Derived.Test.YtmknehabmloebaaPBlobx6
namespace Go.Proofs.Ytmknehabmloebaa.PBlob
open Go Go.RowKit Go.Proofs.YtmknehabmloebaaW.PrintWords Go.Proofs.YtmknehabmloebaaW.PrintLast Go.Proofs.YtmknehabmloebaaW.PrintMore
set_option linter.unusedVariables false

theorem len_clip (l : List S41) (a b : Int) : (clip l a b).length ≤ l.length := List.length_filterMap_le _ _
theorem empty_toList {d : ByteArray} (h : d.toList = ([] : List UInt8)) : d.size = 0 := by
  rw [ByteArray.toList_eq] at h
  rw [Go.Lib.size_eq, h]; rfl
/-- A write that is let. -/
theorem write_eq {l : List S41} {a : Int} {d : ByteArray} (hc : chk 0 l = true) (h0 : 0 ≤ a) (hs : a + d.size ≤ 1048576) (hd : 0 < d.size) : blob_Write.f l a d = some (jn (laid l a d), 0) := by
  have hl := (chk_few (by omega) hc).1
  have hne : ¬ d.toList = ([] : List UInt8) := fun h => by have := empty_toList h; omega
  unfold blob_Write.f
  rw [if_pos hc, if_neg (by omega), if_neg (by omega), if_neg hne, joined_f ?_ (laid_wchk hc h0 hd hs)]
  · rfl
  · have h1 := len_clip l 0 a
    have h2 := len_clip l (a + d.size) 1048576
    simp only [laid, List.length_append, List.length_cons, List.length_nil]
    omega
theorem write_ok {l : List S41} {a : Int} {d : ByteArray} (hc : chk 0 l = true) (h0 : 0 ≤ a) (hs : a + d.size ≤ 1048576) :
    ∃ r, blob_Write.f l a d = some (r, 0) ∧ chk 0 r = true ∧ ∀ i, val r i = if a ≤ i ∧ i < a + d.size then some (bt d (i - a)) else val l i := by
  by_cases he : d.toList = ([] : List UInt8)
  · have hz := empty_toList he
    refine ⟨l, ?_, hc, fun i => by rw [if_neg (by omega)]⟩
    unfold blob_Write.f
    rw [if_pos hc, if_neg (by omega), if_neg (by omega), if_pos he]
  · have hd := size_pos he
    obtain ⟨j1, j2⟩ := jn_ok (laid_wchk hc h0 hd hs)
    exact ⟨_, write_eq hc h0 hs hd, j1, fun i => by rw [j2, laid_val hc h0]⟩
theorem write_bad {l : List S41} {a : Int} {d : ByteArray} (h : chk 0 l = false ∨ a < 0 ∨ a + d.size > 1048576) : blob_Write.f l a d = some ([], if chk 0 l = true then (if a < 0 then 1 else 408) else 80) := by
  unfold blob_Write.f
  cases hc : chk 0 l with
  | false => rfl
  | true =>
    simp only [hc, Bool.true_eq_false, false_or, if_true] at h ⊢
    by_cases c1 : a < 0
    · rw [if_pos c1, if_pos c1]
    · rw [if_neg c1, if_neg c1, if_pos (by omega)]
/-- A write is let, or it is not. -/
theorem write_cases (l : List S41) (a : Int) (d : ByteArray) : (chk 0 l = true ∧ 0 ≤ a ∧ a + d.size ≤ 1048576) ∨ (chk 0 l = false ∨ a < 0 ∨ a + d.size > 1048576) := by
  cases hc : chk 0 l with
  | false => exact .inr (.inl rfl)
  | true =>
    by_cases h : 0 ≤ a ∧ a + d.size ≤ 1048576
    · exact .inl ⟨rfl, h⟩
    · exact .inr (.inr (by omega))
theorem check_ev {l : List S41} (hl : l.length ≤ 9223372036854775807) : Ev (fun k => blob_Check.f k l) (if chk 0 l = true then 0 else 80) := Ev.of (blob_Check.mono l) (check_f l hl)

theorem five_true : sextonlaw08_five.f = some true := by
  have hs3 : (⟨#[97, 98, 99]⟩ : ByteArray).size = 3 := rfl
  have hs2 : (⟨#[100, 101]⟩ : ByteArray).size = 2 := rfl
  have hc : chk 0 [(⟨5, (⟨#[97, 98, 99]⟩ : ByteArray)⟩ : S41)] = true := chk_mk (by decide) (by decide) (by decide) (by decide) rfl
  have hw := write_eq hc (a := 8) (d := (⟨#[100, 101]⟩ : ByteArray)) (by decide) (by decide) (by decide)
  have hj : jn (laid [(⟨5, (⟨#[97, 98, 99]⟩ : ByteArray)⟩ : S41)] 8 (⟨#[100, 101]⟩ : ByteArray)) = [⟨5, ⟨#[97, 98, 99, 100, 101]⟩⟩] := by kernel_rfl
  rw [hj] at hw
  have hc5 : chk 0 [(⟨5, (⟨#[97, 98, 99, 100, 101]⟩ : ByteArray)⟩ : S41)] = true := chk_mk (by decide) (by decide) (by decide) (by decide) rfl
  have hr : blob_Read.f [(⟨5, (⟨#[97, 98, 99, 100, 101]⟩ : ByteArray)⟩ : S41)] 20 4 3 = some (⟨#[0, 97, 98]⟩, 0) := by
    unfold blob_Read.f
    rw [if_pos hc5, if_neg (by omega), if_neg (by omega)]
    kernel_rfl
  unfold sextonlaw08_five.f
  rw [hw, Option.bind_some]
  dsimp only
  rw [hr, Option.bind_some]
  dsimp only
  simp [rd_T41, ByteArray.toList_eq]

end Go.Proofs.Ytmknehabmloebaa.PBlob
