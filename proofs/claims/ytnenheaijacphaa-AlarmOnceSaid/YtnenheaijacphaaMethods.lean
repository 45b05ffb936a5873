/- alarm.New, Set, Stop, At, Len: what is answered, what the clock is behind it. -/
import Derived.Test.YtnenheaijacphaaClock
import Derived.WalkSpells
namespace Go.Proofs.Ytnenheaijacphaa.PAlarm
open Go Go.RowKit Go.Maps Go.Proofs.YtnenheaijacphaaW.PrintWords Go.Proofs.YtnenheaijacphaaW.PrintLast Go.Proofs.YtnenheaijacphaaW.PrintMore Go.Proofs.Ytnenheaijacphaa.Sl
set_option linter.unusedVariables false
set_option linter.unusedSimpArgs false

theorem big_calls (n : Int) (w : World) : Calls Try.prog 21 #[.int .i64 n] w fun e w' => e = .returned (.bool (big n)) ∧ w = w' := by
  unfold big
  by_cases h : 0 ≤ n
  · have d : decide (0 ≤ n) = true := by simpa using h
    rw [d]
    go_enter Try.func21, Try.ntmps21
    go_wp2
    go_ret
    exact ⟨by simp, rfl⟩
  · have d : decide (0 ≤ n) = false := by simpa using h
    rw [d]
    go_enter Try.func21, Try.ntmps21
    go_wp2
    go_ret
    exact ⟨by simp, rfl⟩
theorem new_calls (w : World) : Calls Try.prog 9 #[] w fun e w' => ∃ p b, e = .returned (.pointer (some ⟨p, 0, none⟩)) ∧ Cl w' w.heap.size p b [] ∧ Below w.heap.size w w' := by
  have hmm := @run_makeMap Try.prog
  go_enter Try.func9, Try.ntmps9
  go_wp2
  go_ret
  refine ⟨w.heap.size + 1, w.heap.size, rfl, ⟨by omega, by omega, ?_, Ok.nil, .map [], ?_, Same.nil⟩, ?_⟩
  · have e : (w.alloc (.map #[] 0)).heap.size = w.heap.size + 1 := by simp
    rw [← e]; exact Array.getElem?_push_size
  · exact (World.ownsMap_made (H := Unit) w Try.prog 3 (plainElem Try.prog 3)).alloc _
  · exact ((Below.refl _ w).alloc (Nat.le_refl _) _).alloc (by simp) _
theorem at_nil (n : Int) (w : World) : Calls Try.prog 14 #[.pointer none, .int .i64 n] w fun e w' => e = .returned (.tuple #[.int .i64 0, .bool false]) ∧ w = w' := by
  go_enter Try.func14, Try.ntmps14
  go_wp2
  go_ret2
  exact ⟨rfl, rfl⟩
theorem at_calls (B p b : Nat) (L : List S53) (n : Int) (w : World) (H : Cl w B p b L) (hw : (Lit.int .i64 n).wf = true) : Calls Try.prog 14 #[.pointer (some ⟨p, 0, none⟩), .int .i64 n] w fun e w' => e = .returned (.tuple #[.int .i64 ((at_ L n).getD 0), .bool (at_ L n).isSome]) ∧ w = w' := by
  have c0 := H.cell
  have hrun := H.2.2.2.look_ok n hw
  clear H
  go_enter Try.func14, Try.ntmps14
  go_wp2
  go_ret2
  exact ⟨rfl, rfl⟩
theorem len_nil (w : World) : Calls Try.prog 13 #[.pointer none] w fun e w' => e = .returned (.int .i64 0) ∧ w = w' := by
  go_enter Try.func13, Try.ntmps13
  go_wp2
  go_ret
  exact ⟨rfl, rfl⟩
theorem len_calls (B p b : Nat) (L : List S53) (w : World) (H : Cl w B p b L) : Calls Try.prog 13 #[.pointer (some ⟨p, 0, none⟩)] w fun e w' => e = .returned (.int .i64 L.length) ∧ w = w' := by
  have c0 := H.cell
  have hrun := H.2.2.2.len
  clear H
  go_enter Try.func13, Try.ntmps13
  go_wp2
  go_ret
  exact ⟨rfl, rfl⟩

/-! ### Set -/
theorem set_arg (p : Option Addr) (n t : Int) (w : World) (h : (big n && big t) = false) : Calls Try.prog 10 #[.pointer p, .int .i64 n, .int .i64 t] w fun e w' => e = .returned (.int .i64 1) ∧ w = w' := by
  cases hn : big n with
  | false =>
    have HN := Aside0.mk hn
    clear hn h
    go_enter Try.func10, Try.ntmps10
    go_wp2_with (go_at_call 21; refine (big_calls _ _).mono ?_; rintro e w' ⟨rfl, rfl⟩; rw [HN.out])
    go_ret
    exact ⟨rfl, rfl⟩
  | true =>
    rw [hn, Bool.true_and] at h
    have HN := Aside0.mk (And.intro hn h)
    clear hn h
    go_enter Try.func10, Try.ntmps10
    go_wp2_with (go_at_call 21; refine (big_calls _ _).mono ?_; rintro e w' ⟨rfl, rfl⟩; first | rw [HN.out.1] | rw [HN.out.2])
    go_ret
    exact ⟨rfl, rfl⟩
theorem set_nil (n t : Int) (w : World) (hn : big n = true) (ht : big t = true) : Calls Try.prog 10 #[.pointer none, .int .i64 n, .int .i64 t] w fun e w' => e = .returned (.int .i64 5) ∧ w = w' := by
  have HN := Aside0.mk (And.intro hn ht)
  clear hn ht
  go_enter Try.func10, Try.ntmps10
  go_wp2_with (first | (go_at_call 21; refine (big_calls _ _).mono ?_; rintro e w' ⟨rfl, rfl⟩; first | rw [HN.out.1] | rw [HN.out.2]) | (go_at_call 14; refine (at_nil _ _).mono ?_; rintro e w' ⟨rfl, rfl⟩))
  go_ret
  exact ⟨rfl, rfl⟩
theorem set_full (B p b : Nat) (L : List S53) (n t : Int) (w : World) (H : Cl w B p b L) (hn : big n = true) (ht : big t = true) (hl : at_ L n = none) (hf : L.length = 256) : Calls Try.prog 10 #[.pointer (some ⟨p, 0, none⟩), .int .i64 n, .int .i64 t] w fun e w' => e = .returned (.int .i64 5) ∧ w = w' := by
  have hw : (Lit.int .i64 n).wf = true := by have := big_iff.1 hn; exact wf_big (by omega) (by omega)
  have HN := Aside0.mk (And.intro hn (And.intro ht (And.intro H (And.intro hw (And.intro hl hf)))))
  clear hn ht H hw hl hf
  go_enter Try.func10, Try.ntmps10
  go_wp2_with (first | (go_at_call 21; refine (big_calls _ _).mono ?_; rintro e w' ⟨rfl, rfl⟩; first | rw [HN.out.1] | rw [HN.out.2.1]) | (go_at_call 14; refine (at_calls B p b L n _ HN.out.2.2.1 HN.out.2.2.2.1).mono ?_; rintro e w' ⟨rfl, rfl⟩; rw [HN.out.2.2.2.2.1]) | (go_at_call 13; refine (len_calls B p b L _ HN.out.2.2.1).mono ?_; rintro e w' ⟨rfl, rfl⟩; rw [HN.out.2.2.2.2.2]))
  go_ret
  exact ⟨rfl, rfl⟩
theorem set_ok (B p b : Nat) (L : List S53) (n t : Int) (w : World) (H : Cl w B p b L) (hn : big n = true) (ht : big t = true) (hl : (at_ L n).isSome = true ∨ L.length < 256) : Calls Try.prog 10 #[.pointer (some ⟨p, 0, none⟩), .int .i64 n, .int .i64 t] w fun e w' => e = .returned (.int .i64 0) ∧ Cl w' B p b (put L n t) ∧ Kp (fun k => k = b) w w' := by
  have hw : (Lit.int .i64 n).wf = true := by have := big_iff.1 hn; exact wf_big (by omega) (by omega)
  obtain ⟨w1, hrun, hM, hK⟩ := H.2.2.2.upd hn ht hl
  have c0 := H.cell
  have hC := H.turn hK hM
  rcases hl' : (at_ L n).isSome with _ | _
  · have hlen : ((L.length : Int) == 256) = false := by
      rcases hl with e | e
      · rw [hl'] at e; cases e
      · simpa using (by omega : ¬ (L.length : Int) = 256)
    have HN := Aside0.mk (And.intro hn (And.intro ht (And.intro H (And.intro hw (And.intro hl' (And.intro hC hK))))))
    clear hn ht H hw hl hl' hC hK hM
    go_enter Try.func10, Try.ntmps10
    go_wp2_with (first | (go_at_call 21; refine (big_calls _ _).mono ?_; rintro e w' ⟨rfl, rfl⟩; first | rw [HN.out.1] | rw [HN.out.2.1]) | (go_at_call 14; refine (at_calls B p b L n _ HN.out.2.2.1 HN.out.2.2.2.1).mono ?_; rintro e w' ⟨rfl, rfl⟩; rw [HN.out.2.2.2.2.1]) | (go_at_call 13; refine (len_calls B p b L _ HN.out.2.2.1).mono ?_; rintro e w' ⟨rfl, rfl⟩))
    go_ret
    exact ⟨rfl, HN.out.2.2.2.2.2⟩
  · have HN := Aside0.mk (And.intro hn (And.intro ht (And.intro H (And.intro hw (And.intro hl' (And.intro hC hK))))))
    clear hn ht H hw hl hl' hC hK hM
    go_enter Try.func10, Try.ntmps10
    go_wp2_with (first | (go_at_call 21; refine (big_calls _ _).mono ?_; rintro e w' ⟨rfl, rfl⟩; first | rw [HN.out.1] | rw [HN.out.2.1]) | (go_at_call 14; refine (at_calls B p b L n _ HN.out.2.2.1 HN.out.2.2.2.1).mono ?_; rintro e w' ⟨rfl, rfl⟩; rw [HN.out.2.2.2.2.1]))
    go_ret
    exact ⟨rfl, HN.out.2.2.2.2.2⟩
/-- What Set comes to. -/
def set (L : List S53) (n t : Int) : Int × List S53 := if (big n && big t) = false then (1, L) else if at_ L n = none ∧ L.length = 256 then (5, L) else (0, put L n t)
theorem set_calls (B p b : Nat) (L : List S53) (n t : Int) (w : World) (H : Cl w B p b L) : Calls Try.prog 10 #[.pointer (some ⟨p, 0, none⟩), .int .i64 n, .int .i64 t] w fun e w' => e = .returned (.int .i64 (set L n t).1) ∧ Cl w' B p b (set L n t).2 ∧ Kp (fun k => k = b) w w' := by
  unfold set
  by_cases c1 : (big n && big t) = false
  · simp only [if_pos c1]
    exact (set_arg _ n t w c1).mono fun e w' ⟨h, hw⟩ => by subst hw; exact ⟨h, H, Kp.refl _ _⟩
  · simp only [if_neg c1]
    have c1' : big n = true ∧ big t = true := by cases h1 : big n <;> cases h2 : big t <;> simp [h1, h2] at c1 ⊢
    by_cases c2 : at_ L n = none ∧ L.length = 256
    · simp only [if_pos c2]
      exact (set_full B p b L n t w H c1'.1 c1'.2 c2.1 c2.2).mono fun e w' ⟨h, hw⟩ => by subst hw; exact ⟨h, H, Kp.refl _ _⟩
    · simp only [if_neg c2]
      refine set_ok B p b L n t w H c1'.1 c1'.2 ?_
      have := H.ok.len
      cases h : at_ L n with
      | some c => exact .inl rfl
      | none => exact .inr (by have : ¬ L.length = 256 := fun e => c2 ⟨h, e⟩; omega)
/-! ### Stop -/
theorem stop_arg (p : Option Addr) (n : Int) (w : World) (h : big n = false) : Calls Try.prog 15 #[.pointer p, .int .i64 n] w fun e w' => e = .returned (.tuple #[.bool false, .int .i64 1]) ∧ w = w' := by
  have HN := Aside0.mk h
  clear h
  go_enter Try.func15, Try.ntmps15
  go_wp2_with (go_at_call 21; refine (big_calls _ _).mono ?_; rintro e w' ⟨rfl, rfl⟩; rw [HN.out])
  go_ret2
  exact ⟨rfl, rfl⟩
theorem stop_nil (n : Int) (w : World) (h : big n = true) : Calls Try.prog 15 #[.pointer none, .int .i64 n] w fun e w' => e = .returned (.tuple #[.bool false, .int .i64 0]) ∧ w = w' := by
  have HN := Aside0.mk h
  clear h
  go_enter Try.func15, Try.ntmps15
  go_wp2_with (first | (go_at_call 21; refine (big_calls _ _).mono ?_; rintro e w' ⟨rfl, rfl⟩; rw [HN.out]) | (go_at_call 14; refine (at_nil _ _).mono ?_; rintro e w' ⟨rfl, rfl⟩))
  go_ret2
  exact ⟨rfl, rfl⟩
theorem stop_ok (B p b : Nat) (L : List S53) (n : Int) (w : World) (H : Cl w B p b L) (hn : big n = true) : Calls Try.prog 15 #[.pointer (some ⟨p, 0, none⟩), .int .i64 n] w fun e w' => e = .returned (.tuple #[.bool (at_ L n).isSome, .int .i64 0]) ∧ Cl w' B p b (drp L n) ∧ Kp (fun k => k = b) w w' := by
  have hw : (Lit.int .i64 n).wf = true := by have := big_iff.1 hn; exact wf_big (by omega) (by omega)
  have c0 := H.cell
  rcases hl' : (at_ L n).isSome with _ | _
  · have hd : drp L n = L := drp_none (by cases h : at_ L n with | none => rfl | some c => rw [h] at hl'; cases hl')
    rw [hd]
    have HN := Aside0.mk (And.intro hn (And.intro H (And.intro hw hl')))
    clear hn H hw hl' hd
    go_enter Try.func15, Try.ntmps15
    go_wp2_with (first | (go_at_call 21; refine (big_calls _ _).mono ?_; rintro e w' ⟨rfl, rfl⟩; rw [HN.out.1]) | (go_at_call 14; refine (at_calls B p b L n _ HN.out.2.1 HN.out.2.2.1).mono ?_; rintro e w' ⟨rfl, rfl⟩; rw [HN.out.2.2.2]))
    go_ret2
    exact ⟨rfl, HN.out.2.1, Kp.refl _ _⟩
  · obtain ⟨w1, hrun, hM, hK⟩ := H.2.2.2.del n hw 0
    have hC := H.turn hK hM
    have HN := Aside0.mk (And.intro hn (And.intro H (And.intro hw (And.intro hl' (And.intro hC hK)))))
    clear hn H hw hl' hC hK hM
    go_enter Try.func15, Try.ntmps15
    go_wp2_with (first | (go_at_call 21; refine (big_calls _ _).mono ?_; rintro e w' ⟨rfl, rfl⟩; rw [HN.out.1]) | (go_at_call 14; refine (at_calls B p b L n _ HN.out.2.1 HN.out.2.2.1).mono ?_; rintro e w' ⟨rfl, rfl⟩; rw [HN.out.2.2.2.1]))
    go_ret2
    exact ⟨rfl, HN.out.2.2.2.2⟩
def stop (L : List S53) (n : Int) : Bool × Int × List S53 := if big n = false then (false, 1, L) else ((at_ L n).isSome, 0, drp L n)
theorem stop_calls (B p b : Nat) (L : List S53) (n : Int) (w : World) (H : Cl w B p b L) : Calls Try.prog 15 #[.pointer (some ⟨p, 0, none⟩), .int .i64 n] w fun e w' => e = .returned (.tuple #[.bool (stop L n).1, .int .i64 (stop L n).2.1]) ∧ Cl w' B p b (stop L n).2.2 ∧ Kp (fun k => k = b) w w' := by
  unfold stop
  by_cases c1 : big n = false
  · simp only [if_pos c1]
    exact (stop_arg _ n w c1).mono fun e w' ⟨h, hw⟩ => by subst hw; exact ⟨h, H, Kp.refl _ _⟩
  · simp only [if_neg c1]
    exact stop_ok B p b L n w H (by simpa using c1)
end Go.Proofs.Ytnenheaijacphaa.PAlarm
