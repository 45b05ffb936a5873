/- AlarmLast's walk: it answers true, and nothing elder turns. -/
import Derived.Test.YtnenheaijacphaaThree
namespace Go.Proofs.Ytnenheaijacphaa.PAlarm
open Go Go.RowKit Go.Maps Go.Proofs.YtnenheaijacphaaW.PrintWords Go.Proofs.YtnenheaijacphaaW.PrintLast Go.Proofs.YtnenheaijacphaaW.PrintMore Go.Proofs.Ytnenheaijacphaa.Sl
set_option linter.unusedVariables false
set_option linter.unusedSimpArgs false

theorem one_set {n t : Int} (hn : big n = true) (ht : big t = true) : set [] n t = (0, [⟨n, t⟩]) := by
  unfold set
  rw [if_neg (by simp [hn, ht]), if_neg (fun h => by simp at h)]
  rfl
theorem two_set {n t u : Int} (hn : big n = true) (hu : big u = true) : set [⟨n, t⟩] n u = (0, [⟨n, u⟩]) := by
  unfold set
  rw [if_neg (by simp [hn, hu]), if_neg (fun h => by simp at h)]
  simp [put, drp, ins]
theorem bad_set {L : List S53} {n t : Int} (h : (big n && big t) = false) : set L n t = (1, L) := by unfold set; rw [if_pos h]
theorem due_before {n t : Int} (ht : big t = true) (h : 0 < t) : due [⟨n, t⟩] (t - 1) = ([], 0, [⟨n, t⟩]) := by
  have hb : big (t - 1) = true := by rw [big_iff] at ht ⊢; omega
  have e1 : decide (t ≤ t - 1) = false := by simp; omega
  have e2 : decide (t - 1 < t) = true := by simp; omega
  unfold due
  rw [if_neg (by simp [hb])]
  simp [dueL, rest, e1, e2]
theorem due_then {n t : Int} (ht : big t = true) : due [⟨n, t⟩] t = ([n], 0, []) := by
  unfold due
  rw [if_neg (by simp [ht])]
  simp [dueL, rest]
theorem stop_then {n t : Int} (hn : big n = true) : stop [⟨n, t⟩] n = (true, 0, []) := by
  unfold stop
  rw [if_neg (by simp [hn])]
  simp [at_, drp]
theorem due_none : due [] 1099511627776 = ([], 0, []) := by kernel_rfl
theorem at_one {n t : Int} : at_ [⟨n, t⟩] n = some t := by simp [at_]
theorem row_one {W : World} {base : Nat} {v : Value} {x : Int} (h : Kd.R (Kd.int .i64) 3 W base (fun _ => True) v [x]) : ∃ g c, v = .slice (some ⟨g, 0, none⟩) 1 c ∧ W.cell? ⟨g, 0, none⟩ = some (.int .i64 x) ∧ base ≤ g := by
  have hown := Kd.own_of_R h
  rcases hown.2 with ⟨hn, _⟩ | ⟨g, cap, cur, hv, hgb, hb, k1, k2, k3, k4⟩
  · exfalso
    obtain ⟨A, c, hA⟩ := Kd.R_slice h
    rw [hn] at hA
    simp at hA
  · refine ⟨g, cap, hv, ?_, hgb⟩
    subst hv
    obtain ⟨ad, e, hc⟩ := int_at h 0 (by simp)
    cases e
    simpa [add_plain] using hc
theorem len_none {W : World} {base : Nat} {v : Value} (h : Kd.R (Kd.int .i64) 3 W base (fun _ => True) v []) : ∃ A c, v = .slice A 0 c := Kd.R_slice h
set_option maxHeartbeats 4000000 in
set_option maxRecDepth 100000 in
theorem last_bad1 (n t u : Int) (w : World) (h : (big n && big t) = false) : Calls Try.prog 4 #[.int .i64 n, .int .i64 t, .int .i64 u] w fun e w' => e = .returned (.bool true) ∧ Below w.heap.size w w' := by
  have HB := Aside0.mk (bad_set (L := []) h)
  obtain ⟨r2, M2, hU⟩ : ∃ r M, set [] n u = (r, M) := ⟨_, _, rfl⟩
  have HU := Aside0.mk hU
  clear hU
  clear h
  go_enter Try.func4, Try.ntmps4
  go_wp2_with (first | (go_at_call 9; refine (own_new _).mono ?_; rintro e w0 ⟨p, b, rfl, h0⟩; have H0 := Aside0.mk h0; clear h0) | (go_at_call 10; refine (own_set H0.out n t _ _ HB.out).mono ?_; rintro e w1 ⟨rfl, h1⟩; have H1 := Aside0.mk h1; clear h1 H0) | (go_at_call 10; refine (own_set H1.out n u _ _ HU.out).mono ?_; rintro e w2 ⟨rfl, h2⟩; have H2 := Aside0.mk h2; clear h2 H1) | (go_at_call 8; refine (three_calls _).mono ?_; rintro e w3 ⟨rfl, hb⟩; have H3 := Aside0.mk (H2.out.2.trans (hb.mono H2.out.2.size)); clear hb))
  go_ret
  exact ⟨rfl, H3.out⟩
set_option maxHeartbeats 4000000 in
set_option maxRecDepth 100000 in
theorem last_bad2 (n t u : Int) (w : World) (hn : big n = true) (ht : big t = true) (h : big u = false) : Calls Try.prog 4 #[.int .i64 n, .int .i64 t, .int .i64 u] w fun e w' => e = .returned (.bool true) ∧ Below w.heap.size w w' := by
  have HB := Aside0.mk (one_set hn ht)
  have HU := Aside0.mk (bad_set (L := [⟨n, t⟩]) (n := n) (t := u) (by rw [h]; simp))
  clear h hn ht
  go_enter Try.func4, Try.ntmps4
  go_wp2_with (first | (go_at_call 9; refine (own_new _).mono ?_; rintro e w0 ⟨p, b, rfl, h0⟩; have H0 := Aside0.mk h0; clear h0) | (go_at_call 10; refine (own_set H0.out n t _ _ HB.out).mono ?_; rintro e w1 ⟨rfl, h1⟩; have H1 := Aside0.mk h1; clear h1 H0) | (go_at_call 10; refine (own_set H1.out n u _ _ HU.out).mono ?_; rintro e w2 ⟨rfl, h2⟩; have H2 := Aside0.mk h2; clear h2 H1) | (go_at_call 8; refine (three_calls _).mono ?_; rintro e w3 ⟨rfl, hb⟩; have H3 := Aside0.mk (H2.out.2.trans (hb.mono H2.out.2.size)); clear hb))
  go_ret
  exact ⟨rfl, H3.out⟩
set_option maxHeartbeats 8000000 in
set_option maxRecDepth 100000 in
theorem last_ok (n t u : Int) (w : World) (hn : big n = true) (ht : big t = true) (hu : big u = true) : Calls Try.prog 4 #[.int .i64 n, .int .i64 t, .int .i64 u] w fun e w' => e = .returned (.bool true) ∧ Below w.heap.size w w' := by
  have E1 := Aside0.mk (one_set hn ht)
  have E2 := Aside0.mk (two_set (t := t) hn hu)
  have E3 := Aside0.mk (due_then (n := n) hu)
  have E4 := Aside0.mk (stop_then (t := t) hn)
  have E5 := Aside0.mk (at_one (n := n) (t := u))
  have HN := Aside0.mk hn
  have hub := big_iff.1 hu
  have u0 : 0 ≤ u := hub.1
  have u1 : u ≤ 1099511627776 := hub.2
  by_cases hp : 0 < u
  · have E6 := Aside0.mk (due_before (n := n) hu hp)
    have d : decide (0 < u) = true := by simpa using hp
    clear hn ht hu hub hp
    go_enter Try.func4, Try.ntmps4
    go_wp2_with (first | (go_at_call 9; refine (own_new _).mono ?_; rintro e w0 ⟨p, b, rfl, h0⟩; have H0 := Aside0.mk h0; clear h0) | (go_at_call 10; refine (own_set H0.out n t _ _ E1.out).mono ?_; rintro e w1 ⟨rfl, h1⟩; have H1 := Aside0.mk h1; clear h1 H0) | (go_at_call 10; refine (own_set H1.out n u _ _ E2.out).mono ?_; rintro e w2 ⟨rfl, h2⟩; have H2 := Aside0.mk h2; clear h2 H1) | (go_at_call 14; refine (own_at H2.out n HN.out).mono ?_; rintro e w' ⟨rfl, rfl⟩; rw [E5.out]) | (go_at_call 13; refine (own_len H2.out).mono ?_; rintro e w' ⟨rfl, rfl⟩) | (go_at_call 11; refine (own_due H2.out (u - 1) _ _ _ E6.out).mono ?_; rintro e w3 ⟨v3, rfl, r3, h3, _⟩; obtain ⟨A3, c3, rfl⟩ := len_none r3; have H3 := Aside0.mk h3; clear r3 h3 H2) | (go_at_call 11; refine (own_due H3.out u _ _ _ E3.out).mono ?_; rintro e w4 ⟨v4, rfl, r4, h4, _⟩; obtain ⟨g4, c4, rfl, x4, _⟩ := row_one r4; have H4 := Aside0.mk h4; clear r4 h4 H3) | (go_at_call 13; refine (own_len H4.out).mono ?_; rintro e w' ⟨rfl, rfl⟩) | (go_at_call 10; refine (own_set H4.out n t _ _ E1.out).mono ?_; rintro e w5 ⟨rfl, h5⟩; have H5 := Aside0.mk h5; clear h5 H4) | (go_at_call 15; refine (own_stop H5.out n _ _ _ E4.out).mono ?_; rintro e w6 ⟨rfl, h6⟩; have H6 := Aside0.mk h6; clear h6 H5) | (go_at_call 11; refine (own_due H6.out 1099511627776 _ _ _ due_none).mono ?_; rintro e w7 ⟨v7, rfl, r7, h7, _⟩; obtain ⟨A7, c7, rfl⟩ := len_none r7; have H7 := Aside0.mk h7; clear r7 h7 H6) | (go_at_call 8; refine (three_calls _).mono ?_; rintro e w8 ⟨rfl, hb⟩; have H8 := Aside0.mk (H7.out.2.trans (hb.mono H7.out.2.size)); clear hb))
    go_ret
    exact ⟨rfl, H8.out⟩
  · have d : decide (0 < u) = false := by simpa using hp
    clear hn ht hu hub hp
    go_enter Try.func4, Try.ntmps4
    go_wp2_with (first | (go_at_call 9; refine (own_new _).mono ?_; rintro e w0 ⟨p, b, rfl, h0⟩; have H0 := Aside0.mk h0; clear h0) | (go_at_call 10; refine (own_set H0.out n t _ _ E1.out).mono ?_; rintro e w1 ⟨rfl, h1⟩; have H1 := Aside0.mk h1; clear h1 H0) | (go_at_call 10; refine (own_set H1.out n u _ _ E2.out).mono ?_; rintro e w2 ⟨rfl, h2⟩; have H2 := Aside0.mk h2; clear h2 H1) | (go_at_call 14; refine (own_at H2.out n HN.out).mono ?_; rintro e w' ⟨rfl, rfl⟩; rw [E5.out]) | (go_at_call 13; refine (own_len H2.out).mono ?_; rintro e w' ⟨rfl, rfl⟩) | (go_at_call 11; refine (own_due H2.out u _ _ _ E3.out).mono ?_; rintro e w4 ⟨v4, rfl, r4, h4, _⟩; obtain ⟨g4, c4, rfl, x4, _⟩ := row_one r4; have H4 := Aside0.mk h4; clear r4 h4 H2) | (go_at_call 13; refine (own_len H4.out).mono ?_; rintro e w' ⟨rfl, rfl⟩) | (go_at_call 10; refine (own_set H4.out n t _ _ E1.out).mono ?_; rintro e w5 ⟨rfl, h5⟩; have H5 := Aside0.mk h5; clear h5 H4) | (go_at_call 15; refine (own_stop H5.out n _ _ _ E4.out).mono ?_; rintro e w6 ⟨rfl, h6⟩; have H6 := Aside0.mk h6; clear h6 H5) | (go_at_call 11; refine (own_due H6.out 1099511627776 _ _ _ due_none).mono ?_; rintro e w7 ⟨v7, rfl, r7, h7, _⟩; obtain ⟨A7, c7, rfl⟩ := len_none r7; have H7 := Aside0.mk h7; clear r7 h7 H6) | (go_at_call 8; refine (three_calls _).mono ?_; rintro e w8 ⟨rfl, hb⟩; have H8 := Aside0.mk (H7.out.2.trans (hb.mono H7.out.2.size)); clear hb))
    go_ret
    exact ⟨rfl, H8.out⟩
def sextonlaw03_AlarmLast.f (a0 a1 a2 : Int) : Option Bool := some true
theorem sextonlaw03_AlarmLast.calls (a0 a1 a2 : Int) (r : Bool) (w : World) (h : sextonlaw03_AlarmLast.f a0 a1 a2 = some r) :
    Calls Try.prog 4 #[.int .i64 a0, .int .i64 a1, .int .i64 a2] w fun e w' => e = .returned (.bool r) ∧ Below w.heap.size w w' := by
  obtain rfl := Option.some.inj h
  cases h1 : (big a0 && big a1) with
  | false => exact last_bad1 a0 a1 a2 w h1
  | true =>
    rw [Bool.and_eq_true] at h1
    cases h2 : big a2 with
    | false => exact last_bad2 a0 a1 a2 w h1.1 h1.2 h2
    | true => exact last_ok a0 a1 a2 w h1.1 h1.2 h2
end Go.Proofs.Ytnenheaijacphaa.PAlarm
