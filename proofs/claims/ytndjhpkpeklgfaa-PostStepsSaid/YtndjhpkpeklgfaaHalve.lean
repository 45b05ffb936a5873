/- slices.BinarySearchFunc over letters, by their numbers: what it answers, and that nothing elder turns. -/
import Derived.Test.YtndjhpkpeklgfaaKinds
namespace Go.Proofs.Ytndjhpkpeklgfaa.PPost
open Go Go.RowKit Go.Proofs.YtndjhpkpeklgfaaW.PrintWords Go.Proofs.YtndjhpkpeklgfaaW.PrintLast Go.Proofs.YtndjhpkpeklgfaaW.PrintMore Go.Proofs.Ytndjhpkpeklgfaa.Sl
set_option linter.unusedVariables false
set_option linter.unusedSimpArgs false

def cmp3 (a b : Int) : Int := if a < b then -1 else if a > b then 1 else 0
theorem cmp3_neg {a b : Int} : cmp3 a b < 0 ↔ a < b := by unfold cmp3; split <;> (try split) <;> omega
theorem cmp3_zero {a b : Int} : cmp3 a b = 0 ↔ a = b := by unfold cmp3; split <;> (try split) <;> omega
theorem isnan_calls (a : Int) (w : World) : Calls Try.prog 34 #[.int .i64 a] w fun e w' => e = .returned (.bool false) ∧ w' = w := by
  go_enter Try.func34, Try.ntmps34
  go_wp2
  go_ret
  exact ⟨by simp, rfl⟩
theorem compare_calls (a b : Int) (w : World) : Calls Try.prog 31 #[.int .i64 a, .int .i64 b] w fun e w' => e = .returned (.int .i64 (cmp3 a b)) ∧ w' = w := by
  unfold cmp3
  go_enter Try.func31, Try.ntmps31
  go_wp2_with (go_at_call 34; refine (isnan_calls _ _).mono ?_; rintro e w' ⟨rfl, rfl⟩)
  all_goals (go_ret; exact ⟨rfl, rfl⟩)
theorem closure_calls (x : S52) (n : Int) (w : World) : Calls Try.prog 30 #[.agg #[.int .i64 x.f0, .int .i64 x.f1, .int .i64 x.f2, .string x.f3], .int .i64 n] w fun e w' => e = .returned (.int .i64 (cmp3 x.f0 n)) ∧ Below w.heap.size w w' := by
  have hu35 := Try.underlying35
  go_enter Try.func30, Try.ntmps30
  go_wp2_with (go_at_call 31; refine (compare_calls _ _ _).mono ?_; rintro e w' ⟨rfl, rfl⟩)
  go_ret
  exact ⟨rfl, (Below.refl _ w).alloc (Nat.le_refl _) _⟩

def bs (l : List S52) (who : Int) : Nat → Nat → Nat → Nat
  | 0, i, _ => i
  | f + 1, i, j => if i < j then (if (rd_T52 l (((i + j) / 2 : Nat) : Int)).f0 < who then bs l who f ((i + j) / 2 + 1) j else bs l who f i ((i + j) / 2)) else i
def place (l : List S52) (who : Int) : Nat := bs l who l.length 0 l.length
theorem bs_self (l : List S52) (who : Int) (f i : Nat) : bs l who f i i = i := by
  cases f with
  | zero => rfl
  | succ f => rw [bs, if_neg (by omega)]
theorem bs_le (l : List S52) (who : Int) : ∀ (f i j : Nat), i ≤ j → i ≤ bs l who f i j ∧ bs l who f i j ≤ j
  | 0, i, j, h => ⟨Nat.le_refl _, h⟩
  | f + 1, i, j, h => by
    rw [bs]
    split
    · split
      · have := bs_le l who f ((i + j) / 2 + 1) j (by omega); omega
      · have := bs_le l who f i ((i + j) / 2) (by omega); omega
    · omega
set_option maxHeartbeats 4000000 in
set_option maxRecDepth 100000 in
theorem search_calls (A0 : Option Addr) (c0 : Nat) (l0 : List S52) (a1 : Int) (w : World) (hr0 : Kd.C k52 w A0 l0.length l0) (hc0 : l0.length ≤ c0) (hlim : l0.length ≤ 1000000000000) :
    Calls Try.prog 29 #[.slice A0 l0.length c0, .int .i64 a1, .func (.func 30) #[] #[]] w fun e w' => e = .returned (.tuple #[.int .i64 (place l0 a1 : Nat), .bool (decide (place l0 a1 < l0.length) && decide ((rd_T52 l0 ((place l0 a1 : Nat) : Int)).f0 = a1))]) ∧ Below w.heap.size w w' := by
  have hu35 := Try.underlying35
  have HR0 := Aside0.mk hr0
  clear hr0
  go_enter Try.func29, Try.ntmps29
  go_wp2
  go_loopw [9, 10, 11] (fun i j h wr => ∃ (f a b : Nat), i = .int .i64 a ∧ j = .int .i64 b ∧ a ≤ b ∧ b ≤ l0.length ∧ b - a ≤ f ∧ bs l0 a1 f a b = place l0 a1 ∧ Below w.heap.size w wr)
    (fun i j h _ => (intOf j).toNat - (intOf i).toNat)
  case atStart => exact ⟨l0.length, 0, l0.length, rfl, rfl, by omega, by omega, by omega, rfl, Below.refl _ _⟩
  case round =>
    obtain ⟨f, a, b, rfl, rfl, hab, hbn, hf, hbs, hB⟩ := hrel
    have HR1 := Aside0.mk (Kd.C_below HR0.out hB)
    have HB := Aside0.mk hB
    clear hB
    by_cases hlt : a < b
    · obtain ⟨ad, rfl, hx0, hx1, hx2, hx3⟩ := at_T52 HR1.out (((a + b) / 2 : Nat) : Int) (by omega) (by omega)
      simp only [Int.toNat_natCast] at hx0 hx1 hx2 hx3
      obtain ⟨f, rfl⟩ : ∃ g, f = g + 1 := ⟨f - 1, by omega⟩
      rw [bs, if_pos hlt] at hbs
      have hltI : (a : Int) < (b : Int) := by omega
      have hs1 : IntKind.i64.wrap ((a : Int) + (b : Int)) = (a : Int) + (b : Int) := by rw [IntKind.wrap_i64]; omega
      have HBS := Aside0.mk hbs
      clear hbs
      generalize rd_T52 l0 (((a + b) / 2 : Nat) : Int) = x at *
      go_wp2_with (go_at_call 30; refine (closure_calls x a1 _).mono ?_; rintro e w' ⟨rfl, hb⟩)
      · rename_i hc
        rw [if_pos (cmp3_neg.1 hc)] at HBS
        exact ⟨⟨f, (a + b) / 2 + 1, b, by congr 1, rfl, by omega, hbn, by omega, HBS.out, below_step HB.out hb⟩, by simp only [intOf]; omega⟩
      · rename_i hc
        rw [if_neg (fun h => by have := cmp3_neg.2 h; omega)] at HBS
        exact ⟨⟨f, a, (a + b) / 2, rfl, by congr 1, by omega, by omega, by omega, HBS.out, below_step HB.out hb⟩, by simp only [intOf]; omega⟩
    · obtain rfl : a = b := by omega
      rw [bs_self] at hbs
      have HP := Aside0.mk hbs
      clear hbs
      by_cases hal : a < l0.length
      · obtain ⟨ad, rfl, hx0, hx1, hx2, hx3⟩ := at_T52 HR1.out (a : Int) (by omega) (by omega)
        simp only [Int.toNat_natCast] at hx0 hx1 hx2 hx3
        obtain ⟨x, hx⟩ : ∃ x, x = rd_T52 l0 (a : Int) := ⟨_, rfl⟩
        rw [← hx] at hx0 hx1 hx2 hx3
        have HX := Aside0.mk hx
        clear hx
        go_wp2_with (go_at_call 30; refine (closure_calls x a1 _).mono ?_; rintro e w' ⟨rfl, hb⟩)
        go_ret2
        refine ⟨?_, below_step HB.out hb⟩
        have e : (cmp3 x.f0 a1 == 0) = (decide (place l0 a1 < l0.length) && decide ((rd_T52 l0 ((place l0 a1 : Nat) : Int)).f0 = a1)) := by
          rw [← HP.out, ← HX.out, Bool.eq_iff_iff]
          simp [hal, cmp3_zero]
        rw [← e, ← HP.out]
        rfl
      · go_wp2
        all_goals (go_ret2; refine ⟨?_, HB.out⟩)
        have e : false = (decide (place l0 a1 < l0.length) && decide ((rd_T52 l0 ((place l0 a1 : Nat) : Int)).f0 = a1)) := by
          rw [← HP.out]
          simp [hal]
        rw [← e, ← HP.out]
        rfl
end Go.Proofs.Ytndjhpkpeklgfaa.PPost
