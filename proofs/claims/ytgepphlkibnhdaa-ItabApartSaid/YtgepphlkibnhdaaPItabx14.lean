/- A text of this session's own, written by a program (wip/tools). -/
import Derived.Test.YtgepphlkibnhdaaPItabx0
import Derived.Test.YtgepphlkibnhdaaPItabx13
namespace Go.Proofs.Ytgepphlkibnhdaa.PItab
open Go.RowKit Go.Proofs.YtgepphlkibnhdaaW.PrintWords Go.Proofs.YtgepphlkibnhdaaW.PrintLast Go.Proofs.YtgepphlkibnhdaaW.PrintMore
attribute [local go_sem] max2_int min2_int max_two min_two max_three min_three max_four min_four   -- for this text's walks alone
set_option linter.unusedVariables false
set_option linter.unusedSimpArgs false

attribute [local go_sem high] eqA24
/-! ### itab_named: function 27 -/
def itab_named.f (k : Nat) (l0 : List (S30)) (a1_0 : Int) (a1_1 : Int) : Option (Int) := (itab_Check.f k l0).bind fun t125 => (if t125 = 0 then (if a1_0 < 0 then (some 401) else (if a1_0 ≥ (l0.length : Int) then (some 401) else (if 0 ≤ a1_0 then (if a1_0 < (l0.length : Int) then (if ((rd_T30 l0 a1_0).f1.f0) = 0 then (some 401) else (if (!(a1_1 == ((rd_T30 l0 a1_0).f0))) = true then (some 401) else (some 0))) else (none)) else (none)))) else (some t125))
theorem itab_named.mono : ∀ a0 a1 a2 k, LeO (itab_named.f k a0 a1 a2) (itab_named.f (k + 1) a0 a1 a2) := by
  intro a0 a1 a2 k
  unfold itab_named.f
  repeat' first
      | (with_reducible exact itab_Check.mono _ _)
      | (with_reducible exact LeO.refl _)
      | (with_reducible exact LeO.none _)
      | (with_reducible refine LeO.ite ?_ ?_)
      | (with_reducible refine LeO.bind ?_ (fun _ => ?_))
      | exact itab_Check.mono _ _
      | exact LeO.none _
      | refine LeO.ite ?_ ?_
      | refine LeO.bind ?_ (fun _ => ?_)
set_option maxHeartbeats 8000000 in
set_option maxRecDepth 100000 in
theorem named_bad (k : Nat) (A0 : Option Addr) (c0 : Nat) (l0 : List (S30)) (a1_0 a1_1 er : Int) (w : World) (hr0 : Kd.C k30 w A0 l0.length l0) (hc0 : l0.length ≤ c0) (h1 : itab_Check.f k l0 = some er) (he : (er != 0) = true) :
    Calls Try.prog 27 #[.slice A0 l0.length c0, .agg #[.int .i64 a1_0, .int .i64 a1_1]] w fun e w' => e = .returned (.int .i64 er) ∧ Below w.heap.size w w' := by
  have hu24 := Try.underlying24
  have hu30 := Try.underlying30
  have hB : Below w.heap.size w (w.alloc (.cells #[.int .i64 a1_0, .int .i64 a1_1] 24)) := below_alloc (Below.refl _ _) _
  have HC := Aside0.mk (And.intro h1 (And.intro (Kd.C_below hr0 hB) (And.intro hc0 hB)))
  clear hr0 hc0 hB h1
  go_enter Try.func27, Try.ntmps27
  go_wp2_with (first
    | (go_at_call 22; refine (itab_Check.calls k _ _ l0 er _ HC.out.2.1 HC.out.2.2.1 HC.out.1).mono ?_; rintro e_ w1 ⟨rfl, hb⟩
       have bx : w1.heap[w.heap.size]? = some (.cells #[.int .i64 a1_0, .int .i64 a1_1] 24 (0, 0)) := blk_below (blk_new _ _) hb
       have q0 : w1.cell? ⟨w.heap.size, 0, none⟩ = some (.int .i64 a1_0) := (blk_cell bx 0).trans rfl
       have q1 : w1.cell? ⟨w.heap.size, 1, none⟩ = some (.int .i64 a1_1) := (blk_cell bx 1).trans rfl
       have HB := Aside0.mk (below_step HC.out.2.2.2 hb)
       clear hb bx))
  go_ret
  exact ⟨rfl, HB.out⟩
set_option maxHeartbeats 8000000 in
set_option maxRecDepth 100000 in
theorem named_neg (k : Nat) (A0 : Option Addr) (c0 : Nat) (l0 : List (S30)) (a1_0 a1_1 : Int) (w : World) (hr0 : Kd.C k30 w A0 l0.length l0) (hc0 : l0.length ≤ c0) (h1 : itab_Check.f k l0 = some 0) (hn : decide (a1_0 < 0) = true) :
    Calls Try.prog 27 #[.slice A0 l0.length c0, .agg #[.int .i64 a1_0, .int .i64 a1_1]] w fun e w' => e = .returned (.int .i64 401) ∧ Below w.heap.size w w' := by
  have hu24 := Try.underlying24
  have hu30 := Try.underlying30
  have hB : Below w.heap.size w (w.alloc (.cells #[.int .i64 a1_0, .int .i64 a1_1] 24)) := below_alloc (Below.refl _ _) _
  have HC := Aside0.mk (And.intro h1 (And.intro (Kd.C_below hr0 hB) (And.intro hc0 hB)))
  clear hr0 hc0 hB h1
  go_enter Try.func27, Try.ntmps27
  go_wp2_with (first
    | (go_at_call 22; refine (itab_Check.calls k _ _ l0 0 _ HC.out.2.1 HC.out.2.2.1 HC.out.1).mono ?_; rintro e_ w1 ⟨rfl, hb⟩
       have bx : w1.heap[w.heap.size]? = some (.cells #[.int .i64 a1_0, .int .i64 a1_1] 24 (0, 0)) := blk_below (blk_new _ _) hb
       have q0 : w1.cell? ⟨w.heap.size, 0, none⟩ = some (.int .i64 a1_0) := (blk_cell bx 0).trans rfl
       have q1 : w1.cell? ⟨w.heap.size, 1, none⟩ = some (.int .i64 a1_1) := (blk_cell bx 1).trans rfl
       have HB := Aside0.mk (below_step HC.out.2.2.2 hb)
       clear hb bx))
  go_quiet (fail)
  go_wp2
  go_ret
  exact ⟨rfl, pw_below_drewN HB.out _⟩
set_option maxHeartbeats 8000000 in
set_option maxRecDepth 100000 in
theorem named_far (k : Nat) (A0 : Option Addr) (c0 : Nat) (l0 : List (S30)) (n : Nat) (a1_1 : Int) (w : World) (hr0 : Kd.C k30 w A0 l0.length l0) (hc0 : l0.length ≤ c0) (h1 : itab_Check.f k l0 = some 0) (hn : (l0.length : Int) ≤ (n : Int)) :
    Calls Try.prog 27 #[.slice A0 l0.length c0, .agg #[.int .i64 n, .int .i64 a1_1]] w fun e w' => e = .returned (.int .i64 401) ∧ Below w.heap.size w w' := by
  have hu24 := Try.underlying24
  have hu30 := Try.underlying30
  have hB : Below w.heap.size w (w.alloc (.cells #[.int .i64 n, .int .i64 a1_1] 24)) := below_alloc (Below.refl _ _) _
  have HC := Aside0.mk (And.intro h1 (And.intro (Kd.C_below hr0 hB) (And.intro hc0 hB)))
  have hz : decide ((n : Int) < 0) = false := by simp
  have hz2 : decide (l0.length ≤ n) = true := decide_eq_true (by omega)
  clear hr0 hc0 hB h1 hn
  go_enter Try.func27, Try.ntmps27
  go_wp2_with (first
    | (go_at_call 22; refine (itab_Check.calls k _ _ l0 0 _ HC.out.2.1 HC.out.2.2.1 HC.out.1).mono ?_; rintro e_ w1 ⟨rfl, hb⟩
       have bx : w1.heap[w.heap.size]? = some (.cells #[.int .i64 n, .int .i64 a1_1] 24 (0, 0)) := blk_below (blk_new _ _) hb
       have q0 : w1.cell? ⟨w.heap.size, 0, none⟩ = some (.int .i64 n) := (blk_cell bx 0).trans rfl
       have q1 : w1.cell? ⟨w.heap.size, 1, none⟩ = some (.int .i64 a1_1) := (blk_cell bx 1).trans rfl
       have HB := Aside0.mk (below_step HC.out.2.2.2 hb)
       clear hb bx))
  go_quiet (fail)
  go_wp2
  go_ret
  exact ⟨rfl, pw_below_drewN HB.out _⟩
set_option maxHeartbeats 8000000 in
set_option maxRecDepth 100000 in
theorem named_free (k : Nat) (A0 : Option Addr) (c0 : Nat) (l0 : List (S30)) (n : Nat) (a1_1 : Int) (w : World) (hr0 : Kd.C k30 w A0 l0.length l0) (hc0 : l0.length ≤ c0) (h1 : itab_Check.f k l0 = some 0) (hn : n < l0.length) (hkd : (rd_T30 l0 (n : Int)).f1.f0 = 0) (g : Int) (hgn : (rd_T30 l0 (n : Int)).f0 = g) :
    Calls Try.prog 27 #[.slice A0 l0.length c0, .agg #[.int .i64 n, .int .i64 a1_1]] w fun e w' => e = .returned (.int .i64 401) ∧ Below w.heap.size w w' := by
  have hu24 := Try.underlying24
  have hu30 := Try.underlying30
  have hB : Below w.heap.size w (w.alloc (.cells #[.int .i64 n, .int .i64 a1_1] 24)) := below_alloc (Below.refl _ _) _
  have HC := Aside0.mk (And.intro h1 (And.intro (Kd.C_below hr0 hB) (And.intro hc0 hB)))
  have hnI : (n : Int) < (l0.length : Int) := by omega
  have hnle : ¬ ((l0.length : Int) ≤ (n : Int)) := by omega
  obtain ⟨ad, _, _, _, _, rfl, _⟩ := at_T30 hr0 (n : Int) (by omega) hnI
  have hz : decide ((n : Int) < 0) = false := by simp
  have hz2 : decide (l0.length ≤ n) = false := decide_eq_false (by omega)
  have HK := Aside0.mk (And.intro hkd hgn)
  clear hr0 hc0 hB h1 hn hkd hgn
  go_enter Try.func27, Try.ntmps27
  go_wp2_with (first
    | (go_at_call 22; refine (itab_Check.calls k _ _ l0 0 _ HC.out.2.1 HC.out.2.2.1 HC.out.1).mono ?_; rintro e_ w1 ⟨rfl, hb⟩
       have bx : w1.heap[w.heap.size]? = some (.cells #[.int .i64 n, .int .i64 a1_1] 24 (0, 0)) := blk_below (blk_new _ _) hb
       have q0 : w1.cell? ⟨w.heap.size, 0, none⟩ = some (.int .i64 n) := (blk_cell bx 0).trans rfl
       have q1 : w1.cell? ⟨w.heap.size, 1, none⟩ = some (.int .i64 a1_1) := (blk_cell bx 1).trans rfl
       obtain ⟨ad', A5, c5, A6, c6, ha, x0, x1, x2, x3, x4, x5, x6, x7, l5, g5, l6, g6⟩ := at_T30 (Kd.C_below HC.out.2.1 hb) (n : Int) (by omega) hnI
       cases ha
       simp only [Int.toNat_natCast] at x0 x1
       rw [HK.out.1] at x1
       rw [HK.out.2] at x0
       clear x2 x3 x4 x5 x6 x7 l5 g5 l6 g6
       have HB := Aside0.mk (below_step HC.out.2.2.2 hb)
       clear hb bx))
  go_quiet (fail)
  go_wp2
  go_ret
  exact ⟨rfl, pw_below_drewN HB.out _⟩
set_option maxHeartbeats 8000000 in
set_option maxRecDepth 100000 in
theorem named_old (k : Nat) (A0 : Option Addr) (c0 : Nat) (l0 : List (S30)) (n : Nat) (a1_1 : Int) (w : World) (hr0 : Kd.C k30 w A0 l0.length l0) (hc0 : l0.length ≤ c0) (h1 : itab_Check.f k l0 = some 0) (hn : n < l0.length) (kd g : Int) (hkd : (rd_T30 l0 (n : Int)).f1.f0 = kd) (hgn : (rd_T30 l0 (n : Int)).f0 = g) (z1 : (kd == 0) = false) (z2 : (a1_1 == g) = false) :
    Calls Try.prog 27 #[.slice A0 l0.length c0, .agg #[.int .i64 n, .int .i64 a1_1]] w fun e w' => e = .returned (.int .i64 401) ∧ Below w.heap.size w w' := by
  have hu24 := Try.underlying24
  have hu30 := Try.underlying30
  have hB : Below w.heap.size w (w.alloc (.cells #[.int .i64 n, .int .i64 a1_1] 24)) := below_alloc (Below.refl _ _) _
  have HC := Aside0.mk (And.intro h1 (And.intro (Kd.C_below hr0 hB) (And.intro hc0 hB)))
  have hnI : (n : Int) < (l0.length : Int) := by omega
  have hnle : ¬ ((l0.length : Int) ≤ (n : Int)) := by omega
  obtain ⟨ad, _, _, _, _, rfl, _⟩ := at_T30 hr0 (n : Int) (by omega) hnI
  have hz : decide ((n : Int) < 0) = false := by simp
  have hz2 : decide (l0.length ≤ n) = false := decide_eq_false (by omega)
  have HK := Aside0.mk (And.intro hkd hgn)
  clear hr0 hc0 hB h1 hn hkd hgn
  go_enter Try.func27, Try.ntmps27
  go_wp2_with (first
    | (go_at_call 22; refine (itab_Check.calls k _ _ l0 0 _ HC.out.2.1 HC.out.2.2.1 HC.out.1).mono ?_; rintro e_ w1 ⟨rfl, hb⟩
       have bx : w1.heap[w.heap.size]? = some (.cells #[.int .i64 n, .int .i64 a1_1] 24 (0, 0)) := blk_below (blk_new _ _) hb
       have q0 : w1.cell? ⟨w.heap.size, 0, none⟩ = some (.int .i64 n) := (blk_cell bx 0).trans rfl
       have q1 : w1.cell? ⟨w.heap.size, 1, none⟩ = some (.int .i64 a1_1) := (blk_cell bx 1).trans rfl
       obtain ⟨ad', A5, c5, A6, c6, ha, x0, x1, x2, x3, x4, x5, x6, x7, l5, g5, l6, g6⟩ := at_T30 (Kd.C_below HC.out.2.1 hb) (n : Int) (by omega) hnI
       cases ha
       simp only [Int.toNat_natCast] at x0 x1
       rw [HK.out.1] at x1
       rw [HK.out.2] at x0
       clear x2 x3 x4 x5 x6 x7 l5 g5 l6 g6
       have HB := Aside0.mk (below_step HC.out.2.2.2 hb)
       clear hb bx))
  go_quiet (fail)
  go_wp2
  go_ret
  exact ⟨rfl, pw_below_drewN HB.out _⟩
set_option maxHeartbeats 8000000 in
set_option maxRecDepth 100000 in
theorem named_good (k : Nat) (A0 : Option Addr) (c0 : Nat) (l0 : List (S30)) (n : Nat) (a1_1 : Int) (w : World) (hr0 : Kd.C k30 w A0 l0.length l0) (hc0 : l0.length ≤ c0) (h1 : itab_Check.f k l0 = some 0) (hn : n < l0.length) (kd : Int) (hkd : (rd_T30 l0 (n : Int)).f1.f0 = kd) (hgn : (rd_T30 l0 (n : Int)).f0 = a1_1) (z1 : (kd == 0) = false) :
    Calls Try.prog 27 #[.slice A0 l0.length c0, .agg #[.int .i64 n, .int .i64 a1_1]] w fun e w' => e = .returned (.int .i64 0) ∧ Below w.heap.size w w' := by
  have hu24 := Try.underlying24
  have hu30 := Try.underlying30
  have hB : Below w.heap.size w (w.alloc (.cells #[.int .i64 n, .int .i64 a1_1] 24)) := below_alloc (Below.refl _ _) _
  have HC := Aside0.mk (And.intro h1 (And.intro (Kd.C_below hr0 hB) (And.intro hc0 hB)))
  have hnI : (n : Int) < (l0.length : Int) := by omega
  have hnle : ¬ ((l0.length : Int) ≤ (n : Int)) := by omega
  obtain ⟨ad, _, _, _, _, rfl, _⟩ := at_T30 hr0 (n : Int) (by omega) hnI
  have hz : decide ((n : Int) < 0) = false := by simp
  have hz2 : decide (l0.length ≤ n) = false := decide_eq_false (by omega)
  have HK := Aside0.mk (And.intro hkd hgn)
  clear hr0 hc0 hB h1 hn hkd hgn
  go_enter Try.func27, Try.ntmps27
  go_wp2_with (first
    | (go_at_call 22; refine (itab_Check.calls k _ _ l0 0 _ HC.out.2.1 HC.out.2.2.1 HC.out.1).mono ?_; rintro e_ w1 ⟨rfl, hb⟩
       have bx : w1.heap[w.heap.size]? = some (.cells #[.int .i64 n, .int .i64 a1_1] 24 (0, 0)) := blk_below (blk_new _ _) hb
       have q0 : w1.cell? ⟨w.heap.size, 0, none⟩ = some (.int .i64 n) := (blk_cell bx 0).trans rfl
       have q1 : w1.cell? ⟨w.heap.size, 1, none⟩ = some (.int .i64 a1_1) := (blk_cell bx 1).trans rfl
       obtain ⟨ad', A5, c5, A6, c6, ha, x0, x1, x2, x3, x4, x5, x6, x7, l5, g5, l6, g6⟩ := at_T30 (Kd.C_below HC.out.2.1 hb) (n : Int) (by omega) hnI
       cases ha
       simp only [Int.toNat_natCast] at x0 x1
       rw [HK.out.1] at x1
       rw [HK.out.2] at x0
       clear x2 x3 x4 x5 x6 x7 l5 g5 l6 g6
       have HB := Aside0.mk (below_step HC.out.2.2.2 hb)
       clear hb bx))
  go_quiet (fail)
  go_wp2
  go_ret
  exact ⟨rfl, pw_below_drewN HB.out _⟩
theorem itab_named.calls (k : Nat) (A0 : Option Addr) (c0 : Nat) (l0 : List (S30)) (a1_0 : Int) (a1_1 : Int) (r : Int) (w : World) (hr0 : Kd.C k30 w A0 l0.length l0) (hc0 : l0.length ≤ c0) (h : itab_named.f k l0 a1_0 a1_1 = some r) :
    Calls Try.prog 27 #[.slice A0 l0.length c0, .agg #[.int .i64 a1_0, .int .i64 a1_1]] w fun e w' => e = .returned (.int .i64 r) ∧ Below w.heap.size w w' := by
  obtain ⟨e, h1, g1⟩ := Option.bind_eq_some_iff.1 h
  clear h
  by_cases he : e = 0
  · rw [if_pos he] at g1
    subst he
    by_cases c1 : a1_0 < 0
    · rw [if_pos c1] at g1
      obtain rfl := Option.some.inj g1
      exact named_neg k A0 c0 l0 a1_0 a1_1 w hr0 hc0 h1 (decide_eq_true c1)
    · rw [if_neg c1] at g1
      obtain ⟨n, rfl⟩ : ∃ n : Nat, a1_0 = (n : Int) := ⟨a1_0.toNat, by omega⟩
      by_cases c2 : (n : Int) ≥ (l0.length : Int)
      · rw [if_pos c2] at g1
        obtain rfl := Option.some.inj g1
        exact named_far k A0 c0 l0 n a1_1 w hr0 hc0 h1 c2
      · rw [if_neg c2, if_pos (show (0 : Int) ≤ (n : Int) by omega), if_pos (show (n : Int) < (l0.length : Int) by omega)] at g1
        have hn : n < l0.length := by omega
        by_cases c3 : (rd_T30 l0 (n : Int)).f1.f0 = 0
        · rw [if_pos c3] at g1
          obtain rfl := Option.some.inj g1
          exact named_free k A0 c0 l0 n a1_1 w hr0 hc0 h1 hn c3 _ rfl
        · rw [if_neg c3] at g1
          by_cases c4 : (!(a1_1 == (rd_T30 l0 (n : Int)).f0)) = true
          · rw [if_pos c4] at g1
            obtain rfl := Option.some.inj g1
            exact named_old k A0 c0 l0 n a1_1 w hr0 hc0 h1 hn _ _ rfl rfl (beq_eq_false_iff_ne.2 c3) (by simpa using c4)
          · rw [if_neg c4] at g1
            obtain rfl := Option.some.inj g1
            exact named_good k A0 c0 l0 n a1_1 w hr0 hc0 h1 hn _ rfl (by simp at c4; exact c4.symm) (beq_eq_false_iff_ne.2 c3)
  · rw [if_neg he] at g1
    obtain rfl := Option.some.inj g1
    exact named_bad k A0 c0 l0 a1_0 a1_1 e w hr0 hc0 h1 (bne_iff_ne.2 he)
end Go.Proofs.Ytgepphlkibnhdaa.PItab
