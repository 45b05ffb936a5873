/- A bit that is turned: plain facts on bytes. -/
import Derived.Test.YtndjhpkpeklgfaaFlips
import Derived.Laws.BitsAllLaws
namespace Go.Proofs.Ytndjhpkpeklgfaa.PPost
open Go Go.RowKit Go.Proofs.YtndjhpkpeklgfaaW.PrintWords Go.Proofs.YtndjhpkpeklgfaaW.PrintLast Go.Proofs.YtndjhpkpeklgfaaW.PrintMore Go.Proofs.Ytndjhpkpeklgfaa.Sl
set_option linter.unusedVariables false
set_option linter.unusedSimpArgs false

theorem xor_range {b m : Int} (h1 : 0 ≤ b) (h2 : b < 256) (h3 : 0 ≤ m) (h4 : m < 256) : 0 ≤ bits .xor .u8 b m ∧ bits .xor .u8 b m < 256 := by
  rw [u8_xor b m h1 h2 h3 h4]
  have : b.toNat ^^^ m.toNat < 2 ^ 8 := Nat.xor_lt_two_pow (by omega) (by omega)
  omega
theorem xor_twice {b m : Int} (h1 : 0 ≤ b) (h2 : b < 256) (h3 : 0 ≤ m) (h4 : m < 256) : bits .xor .u8 (bits .xor .u8 b m) m = b := by
  have hr := xor_range h1 h2 h3 h4
  rw [u8_xor _ m hr.1 hr.2 h3 h4, u8_xor b m h1 h2 h3 h4, Int.toNat_natCast, Nat.xor_assoc, Nat.xor_self, Nat.xor_zero]
  omega
def Small8 (xs : List Int) : Prop := ∀ x ∈ xs, 0 ≤ x ∧ x < 256
theorem bytesOf_str {xs : List Int} (h : Small8 xs) : bytesOf (strOfNums xs) = xs := by
  unfold bytesOf
  rw [strOfNums_data, List.map_map]
  conv => rhs; rw [← List.map_id xs]
  refine List.map_congr_left fun x hx => ?_
  obtain ⟨h0, h1⟩ := h x hx
  show (((UInt8.ofNat x.toNat).toNat : Nat) : Int) = x
  rw [UInt8.toNat_ofNat_of_lt' (by show x.toNat < 256; omega)]
  omega
theorem str_bytesOf (s : ByteArray) : strOfNums (bytesOf s) = s := by
  apply ByteArray.ext
  apply Array.ext'
  rw [strOfNums_data, bytesOf, List.map_map]
  conv => rhs; rw [← List.map_id s.data.toList]
  refine List.map_congr_left fun x hx => ?_
  show UInt8.ofNat ((x.toNat : Int)).toNat = x
  rw [Int.toNat_natCast]
  exact UInt8.ofNat_toNat
theorem small_bytes (s : ByteArray) : Small8 (bytesOf s) := by
  intro x hx
  unfold bytesOf at hx
  obtain ⟨b, _, rfl⟩ := List.mem_map.1 hx
  have := b.toNat_lt
  omega
theorem pow_range (m : Nat) (h : m < 8) : (0 : Int) ≤ 2 ^ m % 256 ∧ (2 : Int) ^ m % 256 < 256 := by omega
theorem small_set {xs : List Int} (h : Small8 xs) (j : Nat) {v : Int} (hv : 0 ≤ v ∧ v < 256) : Small8 (xs.set j v) := fun x hx => by
  rcases List.mem_or_eq_of_mem_set hx with hx | rfl
  · exact h x hx
  · exact hv
theorem flip_val (s : ByteArray) (bit : Int) : 0 ≤ bits BinOp.xor .u8 (bt s ((bit.toNat / 8 : Nat) : Int)) (2 ^ (bit.toNat % 8) % 256) ∧ bits BinOp.xor .u8 (bt s ((bit.toNat / 8 : Nat) : Int)) (2 ^ (bit.toNat % 8) % 256) < 256 := by
  have := bt_range s ((bit.toNat / 8 : Nat) : Int)
  have := pow_range (bit.toNat % 8) (by omega)
  exact xor_range (by omega) (by omega) (by omega) (by omega)
theorem bytes_flip (s : ByteArray) (bit : Int) : bytesOf (flipB s bit) = (bytesOf s).set (bit.toNat / 8) (bits BinOp.xor .u8 (bt s ((bit.toNat / 8 : Nat) : Int)) (2 ^ (bit.toNat % 8) % 256)) :=
  bytesOf_str (small_set (small_bytes s) _ (flip_val s bit))
theorem size_flip (s : ByteArray) (bit : Int) : (flipB s bit).size = s.size := by
  have := congrArg List.length (bytes_flip s bit)
  rwa [List.length_set, bytesOf_length, bytesOf_length] at this
theorem bt_get (s : ByteArray) (i : Nat) : bt s (i : Int) = (bytesOf s)[i]?.getD 0 := by
  rw [← rd_bytesOf, rd, Int.toNat_natCast, List.getD_eq_getElem?_getD]
theorem bt_flip (s : ByteArray) (bit : Int) (i : Nat) (hi : i < s.size) : bt (flipB s bit) (i : Int) = if i = bit.toNat / 8 then bits BinOp.xor .u8 (bt s (i : Int)) (2 ^ (bit.toNat % 8) % 256) else bt s (i : Int) := by
  rw [bt_get, bytes_flip]
  have hl : i < (bytesOf s).length := by rw [bytesOf_length]; exact hi
  by_cases c : i = bit.toNat / 8
  · rw [if_pos c, ← c, List.getElem?_set_self hl]; rfl
  · rw [if_neg c, List.getElem?_set_ne (Ne.symm c), bt_get]
theorem flip_twice (s : ByteArray) (bit : Int) (h : bit.toNat / 8 < s.size) : flipB (flipB s bit) bit = s := by
  have hl : bit.toNat / 8 < (bytesOf s).length := by rw [bytesOf_length]; exact h
  have e : bt (flipB s bit) ((bit.toNat / 8 : Nat) : Int) = bits BinOp.xor .u8 (bt s ((bit.toNat / 8 : Nat) : Int)) (2 ^ (bit.toNat % 8) % 256) := by rw [bt_flip s bit _ h, if_pos rfl]
  have := bt_range s ((bit.toNat / 8 : Nat) : Int)
  have := pow_range (bit.toNat % 8) (by omega)
  unfold flipB at *
  rw [e, xor_twice (by omega) (by omega) (by omega) (by omega)]
  have h2 : bytesOf (strOfNums ((bytesOf s).set (bit.toNat / 8) (bits BinOp.xor .u8 (bt s ((bit.toNat / 8 : Nat) : Int)) (2 ^ (bit.toNat % 8) % 256)))) = _ := bytes_flip s bit
  rw [h2, List.set_set]
  have e2 : (bytesOf s).set (bit.toNat / 8) (bt s ((bit.toNat / 8 : Nat) : Int)) = bytesOf s := by
    have : bt s ((bit.toNat / 8 : Nat) : Int) = (bytesOf s)[bit.toNat / 8] := by
      rw [bt_get, List.getElem?_eq_getElem hl]; rfl
    rw [this, List.set_getElem_self]
  rw [e2, str_bytesOf]
end Go.Proofs.Ytndjhpkpeklgfaa.PPost
