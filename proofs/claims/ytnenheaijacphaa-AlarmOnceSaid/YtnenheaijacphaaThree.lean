/- three: three alarms, told in order. -/
import Derived.Test.YtnenheaijacphaaDue
import Derived.Test.YtnenheaijacphaaPAlarmx1
namespace Go.Proofs.Ytnenheaijacphaa.PAlarm
open Go Go.RowKit Go.Maps Go.Proofs.YtnenheaijacphaaW.PrintWords Go.Proofs.YtnenheaijacphaaW.PrintLast Go.Proofs.YtnenheaijacphaaW.PrintMore Go.Proofs.Ytnenheaijacphaa.Sl
set_option linter.unusedVariables false
set_option linter.unusedSimpArgs false

theorem below_kp {S : Nat → Prop} {B : Nat} {w W V : World} (h : Below B w W) (hB : B ≤ w.heap.size) (k : Kp S W V) (hS : ∀ k, S k → B ≤ k) : Below B w V :=
  ⟨k.os.trans h.os, k.tape.trans h.tape, k.output.trans h.output, Nat.le_trans h.size k.size, fun j hj => (k.block j (by have := h.size; omega) (fun hs => by have := hS j hs; omega)).trans (h.block j hj)⟩
/-- A clock of this call's own, and what it has turned. -/
def Own (w W : World) (p b : Nat) (L : List S53) : Prop := Cl W w.heap.size p b L ∧ Below w.heap.size w W
theorem Own.kp {w W V : World} {p b : Nat} {L M : List S53} (h : Own w W p b L) (c : Cl V w.heap.size p b M) (k : Kp (fun k => k = b) W V) : Own w V p b M :=
  ⟨c, below_kp h.2 (Nat.le_refl _) k (fun j e => by subst e; exact c.2.1)⟩
theorem own_new (w : World) : Calls Try.prog 9 #[] w fun e w' => ∃ p b, e = .returned (.pointer (some ⟨p, 0, none⟩)) ∧ Own w w' p b [] :=
  (new_calls w).mono fun e w' ⟨p, b, h, hc, hb⟩ => ⟨p, b, h, hc, hb⟩
theorem own_set {w W : World} {p b : Nat} {L : List S53} (H : Own w W p b L) (n t r : Int) (M : List S53) (h : set L n t = (r, M)) : Calls Try.prog 10 #[.pointer (some ⟨p, 0, none⟩), .int .i64 n, .int .i64 t] W fun e w' => e = .returned (.int .i64 r) ∧ Own w w' p b M := by
  have := set_calls _ p b L n t W H.1
  rw [h] at this
  exact this.mono fun e w' ⟨h1, h2, h3⟩ => ⟨h1, H.kp h2 h3⟩
theorem own_due {w W : World} {p b : Nat} {L : List S53} (H : Own w W p b L) (t r : Int) (xs : List Int) (M : List S53) (h : due L t = (xs, r, M)) : Calls Try.prog 11 #[.pointer (some ⟨p, 0, none⟩), .int .i64 t] W fun e w' => ∃ v, e = .returned (.tuple #[v, .int .i64 r]) ∧ Kd.R (Kd.int .i64) 3 w' W.heap.size (fun _ => True) v xs ∧ Own w w' p b M ∧ Kp (fun k => k = b) W w' := by
  have := due_calls _ p b L t W H.1
  rw [h] at this
  exact this.mono fun e w' ⟨v, h1, h2, h3, h4⟩ => ⟨v, h1, h2, H.kp h3 h4, h4⟩
theorem own_stop {w W : World} {p b : Nat} {L : List S53} (H : Own w W p b L) (n r : Int) (c : Bool) (M : List S53) (h : stop L n = (c, r, M)) : Calls Try.prog 15 #[.pointer (some ⟨p, 0, none⟩), .int .i64 n] W fun e w' => e = .returned (.tuple #[.bool c, .int .i64 r]) ∧ Own w w' p b M := by
  have := stop_calls _ p b L n W H.1
  rw [h] at this
  exact this.mono fun e w' ⟨h1, h2, h3⟩ => ⟨h1, H.kp h2 h3⟩
theorem own_len {w W : World} {p b : Nat} {L : List S53} (H : Own w W p b L) : Calls Try.prog 13 #[.pointer (some ⟨p, 0, none⟩)] W fun e w' => e = .returned (.int .i64 L.length) ∧ W = w' := len_calls _ p b L W H.1
theorem own_at {w W : World} {p b : Nat} {L : List S53} (H : Own w W p b L) (n : Int) (hn : big n = true) : Calls Try.prog 14 #[.pointer (some ⟨p, 0, none⟩), .int .i64 n] W fun e w' => e = .returned (.tuple #[.int .i64 ((at_ L n).getD 0), .bool (at_ L n).isSome]) ∧ W = w' :=
  at_calls _ p b L n W H.1 (by have := big_iff.1 hn; exact wf_big (by omega) (by omega))
theorem Own.below {w W V : World} {p b : Nat} {L : List S53} (h : Own w W p b L) (k : Below W.heap.size W V) : Own w V p b L := ⟨h.1.below k, h.2.trans (k.mono h.2.size)⟩
theorem Own.lt {w W : World} {p b : Nat} {L : List S53} (h : Own w W p b L) : b < W.heap.size := h.1.lt.2
/-- A row of numbers of some call's own. -/
def Row (W : World) (base : Nat) (v : Value) (xs : List Int) : Prop := Kd.R (Kd.int .i64) 3 W base (fun _ => True) v xs
theorem lit_row (W : World) (xs : List Int) (h : xs.length ≤ 1000) : Kd.C (Kd.int .i64) (W.alloc (.cells (nums .i64 xs).toArray 3)) (some ⟨W.heap.size, 0, none⟩) xs.length xs := by
  have ho := own_lit W W.heap.size 3 .i64 xs (Nat.le_refl _) (by omega)
  exact (Kd.R_reads' (Kd.R_of_own (h1 := fun _ => rfl) (ok := fun _ => True) ho (fun _ _ => trivial))).2.2
theorem f1 : set [] 5 9 = (0, [⟨5, 9⟩]) := by kernel_rfl
theorem f2 : set [⟨5, 9⟩] 2 9 = (0, [⟨2, 9⟩, ⟨5, 9⟩]) := by kernel_rfl
theorem f3 : set [⟨2, 9⟩, ⟨5, 9⟩] 7 3 = (0, [⟨7, 3⟩, ⟨2, 9⟩, ⟨5, 9⟩]) := by kernel_rfl
theorem f4 : due [⟨7, 3⟩, ⟨2, 9⟩, ⟨5, 9⟩] 8 = ([7], 0, [⟨2, 9⟩, ⟨5, 9⟩]) := by kernel_rfl
theorem f5 : due [⟨2, 9⟩, ⟨5, 9⟩] 9 = ([2, 5], 0, []) := by kernel_rfl
theorem f6 : sextonplain_Ints.f 3 [7] [7] = some true := by kernel_rfl
theorem f7 : sextonplain_Ints.f 4 [2, 5] [2, 5] = some true := by kernel_rfl
set_option maxHeartbeats 2000000 in
set_option maxRecDepth 100000 in
theorem three_calls (w : World) : Calls Try.prog 8 #[] w fun e w' => e = .returned (.bool true) ∧ Below w.heap.size w w' := by
  go_enter Try.func8, Try.ntmps8
  go_wp2_with (first | (go_at_call 9; refine (own_new _).mono ?_; rintro e w0 ⟨p, b, rfl, h0⟩; have H0 := Aside0.mk h0; clear h0) | (go_at_call 10; refine (own_set H0.out 5 9 _ _ f1).mono ?_; rintro e w1 ⟨rfl, h1⟩; have H1 := Aside0.mk h1; clear h1 H0) | (go_at_call 10; refine (own_set H1.out 2 9 _ _ f2).mono ?_; rintro e w2 ⟨rfl, h2⟩; have H2 := Aside0.mk h2; clear h2 H1) | (go_at_call 10; refine (own_set H2.out 7 3 _ _ f3).mono ?_; rintro e w3 ⟨rfl, h3⟩; have H3 := Aside0.mk h3; clear h3 H2) | (go_at_call 11; refine (own_due H3.out 8 _ _ _ f4).mono ?_; rintro e w4 ⟨v4, rfl, r4, h4, _⟩; have hb4 := H3.out.lt; obtain ⟨A4, c4, rfl⟩ := Kd.R_slice r4; have H4 := Aside0.mk (And.intro h4 (And.intro r4 hb4)); clear h4 r4 hb4 H3) | (go_at_call 11; refine (own_due H4.out.1 9 _ _ _ f5).mono ?_; rintro e w5 ⟨v5, rfl, r5, h5, k5⟩; have r4 := R_kpb H4.out.2.1 k5 (fun j hj e => by have := H4.out.2.2; omega); obtain ⟨A5, c5, rfl⟩ := Kd.R_slice r5; have H5 := Aside0.mk (And.intro h5 (And.intro r5 r4)); clear h5 r5 r4 k5 H4) | (go_at_call 12; refine (sextonplain_Ints.calls 3 A4 c4 [7] (some ⟨w5.heap.size, 0, none⟩) 1 [7] true _ (Kd.C_below (Kd.R_reads' H5.out.2.2).2.2 ((Below.refl _ w5).alloc (Nat.le_refl _) _)) (Kd.R_reads' H5.out.2.2).2.1 (lit_row w5 [7] (by decide)) (by decide) f6).mono ?_; rintro e w6 ⟨rfl, hd⟩; have hb6 := ((Below.refl w5.heap.size w5).alloc (Nat.le_refl _) (.cells #[.int .i64 7] 3)).trans (hd.below.mono (by simp)); have H6 := Aside0.mk (And.intro (H5.out.1.below hb6) (Kd.R_below H5.out.2.1 hb6)); clear hd hb6 H5) | (go_at_call 12; refine (sextonplain_Ints.calls 4 A5 c5 [2, 5] (some ⟨w6.heap.size, 0, none⟩) 2 [2, 5] true _ (Kd.C_below (Kd.R_reads' H6.out.2).2.2 ((Below.refl _ w6).alloc (Nat.le_refl _) _)) (Kd.R_reads' H6.out.2).2.1 (lit_row w6 [2, 5] (by decide)) (by decide) f7).mono ?_; rintro e w7 ⟨rfl, hd⟩; have hb7 := ((Below.refl w6.heap.size w6).alloc (Nat.le_refl _) (.cells #[.int .i64 2, .int .i64 5] 3)).trans (hd.below.mono (by simp)); have H7 := Aside0.mk (H6.out.1.below hb7); clear hd hb7 H6) | (go_at_call 13; refine (own_len H7.out).mono ?_; rintro e w8 ⟨rfl, rfl⟩))
  go_ret
  exact ⟨rfl, H7.out.2⟩
end Go.Proofs.Ytnenheaijacphaa.PAlarm
