/- A text of this session's own, written by a program (wip/tools). -/
import Derived.Test.YtgepphlkibnhdaaPItabx0
import Derived.Test.YtgepphlkibnhdaaPItabx22
import Derived.Test.YtgepphlkibnhdaaPItabx23
import Derived.Test.YtgepphlkibnhdaaPItabx24
import Derived.Test.YtgepphlkibnhdaaPItabx25
import Derived.Test.YtgepphlkibnhdaaPItabx31
namespace Go.Proofs.Ytgepphlkibnhdaa.PItab
open Go.RowKit Go.Proofs.YtgepphlkibnhdaaW.PrintWords Go.Proofs.YtgepphlkibnhdaaW.PrintLast Go.Proofs.YtgepphlkibnhdaaW.PrintMore
attribute [local go_sem] max2_int min2_int max_two min_two max_three min_three max_four min_four   -- for this text's walks alone
set_option linter.unusedVariables false
set_option linter.unusedSimpArgs false

attribute [local go_sem high] eqA24
/-! ### sextonlaw09_ItabRoom: function 6 -/
mutual
def sextonlaw09_ItabRoom.j0 : Nat → List Int → Int → List (S30) → Bool → Option (Bool)
  | 0, _, _, _, _ => none
  | k + 1, x0, x1, x5, x25 => if x25 = true then (if (x5.length : Int) = 1 then ((sextonlaw09_again.f k).bind fun t355 => (some t355)) else (some false)) else (sextonlaw09_ItabRoom.l0 k x1 x5 1 x0 (x0.length : Int) 0)
def sextonlaw09_ItabRoom.l0 : Nat → Int → List (S30) → Int → List Int → Int → Int → Option (Bool)
  | 0, _, _, _, _, _, _ => none
  | k + 1, x1, x5, x6, x32, x33, x34 => if x34 < x33 then (if 0 ≤ x34 then (if x34 < (x32.length : Int) then ((itab_Make.f k x5 (rd x32 x34) 0).bind fun bt357 => (if (rd x32 x34) = 1 then (sextonlaw09_ItabRoom.j2 k x1 x5 x6 bt357.1 bt357.2.2.2 x32 x33 x34 false bt357.2.1 bt357.2.2.1) else (sextonlaw09_ItabRoom.j2 k x1 x5 x6 bt357.1 bt357.2.2.2 x32 x33 x34 ((rd x32 x34) != 2) bt357.2.1 bt357.2.2.1))) else (none)) else (none)) else (if x1 < 1 then (sextonlaw09_ItabRoom.j3 k x1 x5 x6 true) else (sextonlaw09_ItabRoom.j3 k x1 x5 x6 (decide (x1 ≥ x6))))
def sextonlaw09_ItabRoom.j2 : Nat → Int → List (S30) → Int → List (S30) → Int → List Int → Int → Int → Bool → Int → Int → Option (Bool)
  | 0, _, _, _, _, _, _, _, _, _, _, _ => none
  | k + 1, x1, x5, x6, x9, x11, x32, x33, x34, x50, x364000, x364001 => if x50 = true then (if x11 = 1 then (sextonlaw09_ItabRoom.l0 k x1 x5 x6 x32 x33 (wrap64 (x34 + 1))) else (some false)) else (if x6 = 24 then (if x11 = 407 then (sextonlaw09_ItabRoom.l0 k x1 x5 x6 x32 x33 (wrap64 (x34 + 1))) else (some false)) else (if x11 = 0 then (if x364000 = x6 then (if x364001 = 1 then (sextonlaw09_ItabRoom.l0 k x1 x9 (wrap64 (x6 + 1)) x32 x33 (wrap64 (x34 + 1))) else (some false)) else (some false)) else (some false)))
def sextonlaw09_ItabRoom.j3 : Nat → Int → List (S30) → Int → Bool → Option (Bool)
  | 0, _, _, _, _ => none
  | k + 1, x1, x5, x6, x80 => if x80 = true then ((itab_Used.f k x5).bind fun t364 => (if (t364.length : Int) = x6 then ((sextonlaw09_again.f k).bind fun t367 => (some t367)) else (some false))) else ((itab_Drop.f k x5 x1 1).bind fun bt368 => ((itab_Make.f k bt368.1 1 0).bind fun bt372 => (if bt368.2 = 0 then (if bt372.2.2.2 = 0 then (if (bt372.2.1 == x1 && (bt372.2.2.1 == 2)) = true then ((itab_Used.f k bt368.1).bind fun t379 => (if (t379.length : Int) = (wrap64 (x6 - 1)) then ((sextonlaw09_again.f k).bind fun t382 => (some t382)) else (some false))) else (some false)) else (some false)) else (some false))))
end
def sextonlaw09_ItabRoom.f (k : Nat) (l0 : List Int) (a1 : Int) : Option (Bool) := (itab_New.f).bind fun t352 => (if (t352.length : Int) = 1 then (sextonlaw09_ItabRoom.j0 k l0 a1 t352 (decide ((l0.length : Int) > 200))) else (sextonlaw09_ItabRoom.j0 k l0 a1 t352 true))
theorem sextonlaw09_ItabRoom.mono_l : ∀ k, (∀ y0 y1 y2 y3, LeO (sextonlaw09_ItabRoom.j0 k y0 y1 y2 y3) (sextonlaw09_ItabRoom.j0 (k + 1) y0 y1 y2 y3)) ∧ (∀ y0 y1 y2 y3 y4 y5, LeO (sextonlaw09_ItabRoom.l0 k y0 y1 y2 y3 y4 y5) (sextonlaw09_ItabRoom.l0 (k + 1) y0 y1 y2 y3 y4 y5)) ∧ (∀ y0 y1 y2 y3 y4 y5 y6 y7 y8 y9 y10, LeO (sextonlaw09_ItabRoom.j2 k y0 y1 y2 y3 y4 y5 y6 y7 y8 y9 y10) (sextonlaw09_ItabRoom.j2 (k + 1) y0 y1 y2 y3 y4 y5 y6 y7 y8 y9 y10)) ∧ (∀ y0 y1 y2 y3, LeO (sextonlaw09_ItabRoom.j3 k y0 y1 y2 y3) (sextonlaw09_ItabRoom.j3 (k + 1) y0 y1 y2 y3))
  | 0 => ⟨fun _ _ _ _ r h => by simp [sextonlaw09_ItabRoom.j0] at h, fun _ _ _ _ _ _ r h => by simp [sextonlaw09_ItabRoom.l0] at h, fun _ _ _ _ _ _ _ _ _ _ _ r h => by simp [sextonlaw09_ItabRoom.j2] at h, fun _ _ _ _ r h => by simp [sextonlaw09_ItabRoom.j3] at h⟩
  | k + 1 => by
    obtain ⟨ih0, ih1, ih2, ih3⟩ := sextonlaw09_ItabRoom.mono_l k
    refine ⟨?_, ?_, ?_, ?_⟩
    · intro y0 y1 y2 y3
      unfold sextonlaw09_ItabRoom.j0
      repeat' first
      | (with_reducible exact ih0 _ _ _ _)
      | (with_reducible exact ih1 _ _ _ _ _ _)
      | (with_reducible exact ih2 _ _ _ _ _ _ _ _ _ _ _)
      | (with_reducible exact ih3 _ _ _ _)
      | (with_reducible exact itab_Drop.mono _ _ _ _)
      | (with_reducible exact itab_Make.mono _ _ _ _)
      | (with_reducible exact itab_Used.mono _ _)
      | (with_reducible exact sextonlaw09_again.mono _)
      | (with_reducible exact LeO.refl _)
      | (with_reducible exact LeO.none _)
      | (with_reducible refine LeO.ite ?_ ?_)
      | (with_reducible refine LeO.bind ?_ (fun _ => ?_))
      | exact ih0 _ _ _ _
      | exact ih1 _ _ _ _ _ _
      | exact ih2 _ _ _ _ _ _ _ _ _ _ _
      | exact ih3 _ _ _ _
      | exact itab_Drop.mono _ _ _ _
      | exact itab_Make.mono _ _ _ _
      | exact itab_Used.mono _ _
      | exact sextonlaw09_again.mono _
      | exact LeO.none _
      | refine LeO.ite ?_ ?_
      | refine LeO.bind ?_ (fun _ => ?_)
    · intro y0 y1 y2 y3 y4 y5
      unfold sextonlaw09_ItabRoom.l0
      repeat' first
      | (with_reducible exact ih0 _ _ _ _)
      | (with_reducible exact ih1 _ _ _ _ _ _)
      | (with_reducible exact ih2 _ _ _ _ _ _ _ _ _ _ _)
      | (with_reducible exact ih3 _ _ _ _)
      | (with_reducible exact itab_Drop.mono _ _ _ _)
      | (with_reducible exact itab_Make.mono _ _ _ _)
      | (with_reducible exact itab_Used.mono _ _)
      | (with_reducible exact sextonlaw09_again.mono _)
      | (with_reducible exact LeO.refl _)
      | (with_reducible exact LeO.none _)
      | (with_reducible refine LeO.ite ?_ ?_)
      | (with_reducible refine LeO.bind ?_ (fun _ => ?_))
      | exact ih0 _ _ _ _
      | exact ih1 _ _ _ _ _ _
      | exact ih2 _ _ _ _ _ _ _ _ _ _ _
      | exact ih3 _ _ _ _
      | exact itab_Drop.mono _ _ _ _
      | exact itab_Make.mono _ _ _ _
      | exact itab_Used.mono _ _
      | exact sextonlaw09_again.mono _
      | exact LeO.none _
      | refine LeO.ite ?_ ?_
      | refine LeO.bind ?_ (fun _ => ?_)
    · intro y0 y1 y2 y3 y4 y5 y6 y7 y8 y9 y10
      unfold sextonlaw09_ItabRoom.j2
      repeat' first
      | (with_reducible exact ih0 _ _ _ _)
      | (with_reducible exact ih1 _ _ _ _ _ _)
      | (with_reducible exact ih2 _ _ _ _ _ _ _ _ _ _ _)
      | (with_reducible exact ih3 _ _ _ _)
      | (with_reducible exact itab_Drop.mono _ _ _ _)
      | (with_reducible exact itab_Make.mono _ _ _ _)
      | (with_reducible exact itab_Used.mono _ _)
      | (with_reducible exact sextonlaw09_again.mono _)
      | (with_reducible exact LeO.refl _)
      | (with_reducible exact LeO.none _)
      | (with_reducible refine LeO.ite ?_ ?_)
      | (with_reducible refine LeO.bind ?_ (fun _ => ?_))
      | exact ih0 _ _ _ _
      | exact ih1 _ _ _ _ _ _
      | exact ih2 _ _ _ _ _ _ _ _ _ _ _
      | exact ih3 _ _ _ _
      | exact itab_Drop.mono _ _ _ _
      | exact itab_Make.mono _ _ _ _
      | exact itab_Used.mono _ _
      | exact sextonlaw09_again.mono _
      | exact LeO.none _
      | refine LeO.ite ?_ ?_
      | refine LeO.bind ?_ (fun _ => ?_)
    · intro y0 y1 y2 y3
      unfold sextonlaw09_ItabRoom.j3
      repeat' first
      | (with_reducible exact ih0 _ _ _ _)
      | (with_reducible exact ih1 _ _ _ _ _ _)
      | (with_reducible exact ih2 _ _ _ _ _ _ _ _ _ _ _)
      | (with_reducible exact ih3 _ _ _ _)
      | (with_reducible exact itab_Drop.mono _ _ _ _)
      | (with_reducible exact itab_Make.mono _ _ _ _)
      | (with_reducible exact itab_Used.mono _ _)
      | (with_reducible exact sextonlaw09_again.mono _)
      | (with_reducible exact LeO.refl _)
      | (with_reducible exact LeO.none _)
      | (with_reducible refine LeO.ite ?_ ?_)
      | (with_reducible refine LeO.bind ?_ (fun _ => ?_))
      | exact ih0 _ _ _ _
      | exact ih1 _ _ _ _ _ _
      | exact ih2 _ _ _ _ _ _ _ _ _ _ _
      | exact ih3 _ _ _ _
      | exact itab_Drop.mono _ _ _ _
      | exact itab_Make.mono _ _ _ _
      | exact itab_Used.mono _ _
      | exact sextonlaw09_again.mono _
      | exact LeO.none _
      | refine LeO.ite ?_ ?_
      | refine LeO.bind ?_ (fun _ => ?_)
theorem sextonlaw09_ItabRoom.mono : ∀ a0 a1 k, LeO (sextonlaw09_ItabRoom.f k a0 a1) (sextonlaw09_ItabRoom.f (k + 1) a0 a1) := by
  intro a0 a1 k
  obtain ⟨ih0, ih1, ih2, ih3⟩ := sextonlaw09_ItabRoom.mono_l k
  unfold sextonlaw09_ItabRoom.f
  repeat' first
      | (with_reducible exact ih0 _ _ _ _)
      | (with_reducible exact ih1 _ _ _ _ _ _)
      | (with_reducible exact ih2 _ _ _ _ _ _ _ _ _ _ _)
      | (with_reducible exact ih3 _ _ _ _)
      | (with_reducible exact itab_Drop.mono _ _ _ _)
      | (with_reducible exact itab_Make.mono _ _ _ _)
      | (with_reducible exact itab_Used.mono _ _)
      | (with_reducible exact sextonlaw09_again.mono _)
      | (with_reducible exact LeO.refl _)
      | (with_reducible exact LeO.none _)
      | (with_reducible refine LeO.ite ?_ ?_)
      | (with_reducible refine LeO.bind ?_ (fun _ => ?_))
      | exact ih0 _ _ _ _
      | exact ih1 _ _ _ _ _ _
      | exact ih2 _ _ _ _ _ _ _ _ _ _ _
      | exact ih3 _ _ _ _
      | exact itab_Drop.mono _ _ _ _
      | exact itab_Make.mono _ _ _ _
      | exact itab_Used.mono _ _
      | exact sextonlaw09_again.mono _
      | exact LeO.none _
      | refine LeO.ite ?_ ?_
      | refine LeO.bind ?_ (fun _ => ?_)
set_option maxHeartbeats 8000000 in
set_option maxRecDepth 100000 in
theorem sextonlaw09_ItabRoom.calls (k : Nat) (A0 : Option Addr) (c0 : Nat) (l0 : List Int) (a1 : Int) (w : World) (hr0 : Kd.C (Kd.int .i64) w A0 l0.length l0) (hc0 : l0.length ≤ c0) (h : sextonlaw09_ItabRoom.f k l0 a1 = some true) :
    Calls Try.prog 6 #[.slice A0 l0.length c0, .int .i64 a1] w fun e w' => e = .returned (.bool true) ∧ Below w.heap.size w w' := by
  have hu24 := Try.underlying24
  have HR0 := Aside0.mk hr0
  have HC0 := Aside0.mk hc0
  clear hr0 hc0
  have HB := Aside0.mk (Below.refl w.heap.size w)
  have H : ((itab_New.f).bind fun t352 => (if (t352.length : Int) = 1 then (sextonlaw09_ItabRoom.j0 k l0 a1 t352 (decide ((l0.length : Int) > 200))) else (sextonlaw09_ItabRoom.j0 k l0 a1 t352 true))) = some true := h
  clear h
  replace H := Option.bind_eq_some_iff.mp H
  obtain ⟨t352, A30, H⟩ := H
  replace H : (if (t352.length : Int) = 1 then (sextonlaw09_ItabRoom.j0 k l0 a1 t352 (decide ((l0.length : Int) > 200))) else (sextonlaw09_ItabRoom.j0 k l0 a1 t352 true)) = some true := H
  have A3 := Aside0.mk A30
  clear A30
  have HC4 := Aside0.mk H
  clear H
  go_enter Try.func6, Try.ntmps6
  go_upto_region 2 with (first | ((with_reducible refine gate_callee (f := 16) rfl ?_); refine goesL_ (some 17) rfl rfl Try.func16 (by kernel_rfl) rfl #[] rfl (by (try simp only [List.map_toArray, List.map_cons, List.map_nil]); first | done | rfl | (simp only [List.length_drop, List.length_take]; rfl)) ?_; (with_reducible refine (itab_New.calls  t352 _ A3.out).mono ?_); rintro e w5 ⟨v353, rfl, ho0, hb⟩; refine ⟨_, rfl, ?_⟩; have n0_ := Aside0.mk (Kd.S_lower ho0 (below_size (by repeat (first | (with_reducible first | exact HB.out | apply below_alloc | apply pw_below_drewN | apply below_drew1) | exact HB.out)))); have n1_ := Aside0.mk (below_step (by repeat (first | (with_reducible first | exact HB.out | apply below_alloc | apply pw_below_drewN | apply below_drew1) | exact HB.out)) hb); clear HB; have HO354 := n0_; have HB := n1_; clear n0_ n1_; (try clear hb); (try clear hb2); (try clear hk); (try clear hi); (try clear ho0)))
  (try simp only [Act.put, List.setIfInBounds_toArray, List.set_cons_zero, List.set_cons_succ])
  go_cut [25] (fun v25 wc => ∃ (kq : Nat) (x25_3 : Bool), v25 = .bool x25_3 ∧ Aside0 (sextonlaw09_ItabRoom.j0 kq l0 a1 t352 x25_3 = some true) ∧ Aside0 (kq ≤ k) ∧ Aside0 (Kd.S k30 30 wc w.heap.size (fun _ => True) v353 t352) ∧ Aside0 (Below w.heap.size w wc))
  case first =>
    have H := HC4.out
    clear HC4
    by_cases c6 : (t352.length : Int) = 1
    · rw [if_pos c6] at H
      have c6b0 : ((t352.length : Int) == 1) = true := beq_iff_eq.mpr c6
      have c6b1 : ((t352.length : Int) != 1) = false := bne_eq_false_iff_eq.mpr c6
      clear c6
      (first | rw [c6b0] | (simp only [i64_w, i32_w]; rw [c6b0]) | skip)
      have H' := Aside0.mk H
      clear H
      obtain ⟨Ao7, co7, eo7⟩ := Kd.S_slice HO354.out
      subst eo7
      go_wp2
      go_meet
      case rel => exact ⟨_, (decide ((l0.length : Int) > 200)), (by first | rfl | (simp; done) | (simp [*]; done)), H', ⟨by first | omega | exact Nat.le_refl _⟩, ⟨by (with_reducible repeat (first | apply Kd.S_alloc | apply Kd.S_drewN | apply Kd.S_drew)); exact HO354.out⟩, ⟨by repeat (first | (with_reducible first | exact HB.out | apply below_alloc | apply pw_below_drewN | apply below_drew1) | exact HB.out)⟩⟩
    · rw [if_neg c6] at H
      have c6b0 : ((t352.length : Int) == 1) = false := beq_eq_false_iff_ne.mpr c6
      have c6b1 : ((t352.length : Int) != 1) = true := bne_iff_ne.mpr c6
      (first | rw [c6b0] | (simp only [i64_w, i32_w]; rw [c6b0]) | skip)
      have H' := Aside0.mk H
      clear H
      obtain ⟨Ao8, co8, eo8⟩ := Kd.S_slice HO354.out
      subst eo8
      go_wp2
      go_meet
      case rel => exact ⟨_, (true), (by first | rfl | (simp; done) | (simp [*]; done)), H', ⟨by first | omega | exact Nat.le_refl _⟩, ⟨by (with_reducible repeat (first | apply Kd.S_alloc | apply Kd.S_drewN | apply Kd.S_drew)); exact HO354.out⟩, ⟨by repeat (first | (with_reducible first | exact HB.out | apply below_alloc | apply pw_below_drewN | apply below_drew1) | exact HB.out)⟩⟩
  case rest =>
    clear HC4
    try clear c1
    try clear p2
    try clear c6
    try clear c6b0
    try clear c6b1
    obtain ⟨kq, x25_3, rfl, HA, HJ3, HO_5, HB⟩ := hcut
    cases kq with
    | zero => exact absurd HA.out (by simp [sextonlaw09_ItabRoom.j0])
    | succ kj3 =>
      have H := HA.out
      clear HA
      simp only [sextonlaw09_ItabRoom.j0] at H
      by_cases c9 : x25_3 = true
      · subst c9
        have H1 : (if (t352.length : Int) = 1 then ((sextonlaw09_again.f kj3).bind fun t355 => (some t355)) else (some false)) = some true := by rw [if_pos rfl] at H; exact H
        clear H
        have H := H1
        clear H1
        by_cases c10 : (t352.length : Int) = 1
        · rw [if_pos c10] at H
          have c10b0 : ((t352.length : Int) == 1) = true := beq_iff_eq.mpr c10
          have c10b1 : ((t352.length : Int) != 1) = false := bne_eq_false_iff_eq.mpr c10
          clear c10
          replace H := Option.bind_eq_some_iff.mp H
          obtain ⟨t355, A110, H⟩ := H
          replace H : (some t355) = some true := H
          have A11 := Aside0.mk A110
          clear A110
          obtain rfl := Option.some.inj H
          obtain ⟨Ao12, co12, eo12⟩ := Kd.S_slice HO_5.out
          subst eo12
          go_wp2_with (first | (go_at_call 13; (with_reducible refine (sextonlaw09_again.calls kj3 _ A11.out).mono ?_); rintro e w13 ⟨rfl, hb⟩; have n0_ := Aside0.mk (Kd.S_below (by (with_reducible repeat (first | apply Kd.S_alloc | apply Kd.S_drewN | apply Kd.S_drew)); exact HO_5.out) hb); have n1_ := Aside0.mk (below_step (by repeat (first | (with_reducible first | exact HB.out | apply below_alloc | apply pw_below_drewN | apply below_drew1) | exact HB.out)) hb); clear HO_5; clear HB; have HO_5 := n0_; have HB := n1_; clear n0_ n1_; (try clear hb); (try clear hb2); (try clear hk); (try clear hi)))
          go_ret
          exact ⟨by first | rfl | (simp [errW_none, errW_some] <;> rfl) | (simp [*, errW_none, errW_some] <;> rfl), by repeat (first | (with_reducible first | exact HB.out | apply below_alloc | apply pw_below_drewN | apply below_drew1) | exact HB.out)⟩
        · rw [if_neg c10] at H
          have c10b0 : ((t352.length : Int) == 1) = false := beq_eq_false_iff_ne.mpr c10
          have c10b1 : ((t352.length : Int) != 1) = true := bne_iff_ne.mpr c10
          cases H
      · replace c9 := Bool.eq_false_iff.mpr c9
        subst c9
        have H1 : (sextonlaw09_ItabRoom.l0 kj3 a1 t352 1 l0 (l0.length : Int) 0) = some true := by rw [if_neg (show ¬ (false = true) by decide)] at H; exact H
        clear H
        have H := H1
        clear H1
        have H' := Aside0.mk H
        clear H
        go_wp2
        go_loopg [5, 6, 34] kj3 (fun kq v5 v6 v34 w' => ∃ (x5_2 : List (S30)) (x6_2 : Int) (x34_2 : Int), v6 = .int .i64 x6_2 ∧ v34 = .int .i64 x34_2 ∧ Aside0 (sextonlaw09_ItabRoom.l0 kq a1 x5_2 x6_2 l0 (l0.length : Int) x34_2 = some true) ∧ Aside0 (kq ≤ kj3) ∧ Aside0 (Kd.S k30 30 w' w.heap.size (fun _ => True) v5 x5_2) ∧ Aside0 (Below w.heap.size w w'))
        case atStart => exact ⟨(t352), (1), (0), (by first | rfl | (simp; done) | (simp [*]; done)), (by first | rfl | (simp; done) | (simp [*]; done)), H', ⟨Nat.le_refl _⟩, ⟨by (with_reducible repeat (first | apply Kd.S_alloc | apply Kd.S_drewN | apply Kd.S_drew)); exact HO_5.out⟩, ⟨by repeat (first | (with_reducible first | exact HB.out | apply below_alloc | apply pw_below_drewN | apply below_drew1) | exact HB.out)⟩⟩
        case round =>
          clear H'
          try clear c1
          try clear p2
          try clear c6
          try clear c6b0
          try clear c6b1
          try clear c9
          try clear c10
          try clear c10b0
          try clear c10b1
          try clear p2
          obtain ⟨x5_2, x6_2, x34_2, rfl, rfl, HA, HK2, HO_5, HB⟩ := hrel
          cases gk with
          | zero => exact absurd HA.out (by simp [sextonlaw09_ItabRoom.l0])
          | succ k2 =>
            have H := HA.out
            clear HA
            simp only [sextonlaw09_ItabRoom.l0] at H
            by_cases c15 : x34_2 < (l0.length : Int)
            · rw [if_pos c15] at H
              have c15b0 : decide (x34_2 < (l0.length : Int)) = true := decide_eq_true c15
              clear c15
              by_cases c16 : 0 ≤ x34_2
              · rw [if_pos c16] at H
                have c16b0 : decide (0 ≤ x34_2) = true := decide_eq_true c16
                clear c16
                by_cases c17 : x34_2 < (l0.length : Int)
                · rw [if_pos c17] at H
                  have c17b0 : decide (x34_2 < (l0.length : Int)) = true := decide_eq_true c17
                  clear c17
                  replace H := Option.bind_eq_some_iff.mp H
                  obtain ⟨⟨t357, t360, t361, t362⟩, A180, H⟩ := H
                  replace H : (if (rd l0 x34_2) = 1 then (sextonlaw09_ItabRoom.j2 k2 a1 x5_2 x6_2 t357 t362 l0 (l0.length : Int) x34_2 false t360 t361) else (sextonlaw09_ItabRoom.j2 k2 a1 x5_2 x6_2 t357 t362 l0 (l0.length : Int) x34_2 ((rd l0 x34_2) != 2) t360 t361)) = some true := H
                  have A18 := Aside0.mk A180
                  clear A180
                  have HC19 := Aside0.mk H
                  clear H
                  have p356 : 0 ≤ (x34_2 : Int) := of_decide_eq_true (by first | (with_reducible assumption) | assumption)
                  have q356 : x34_2 < (l0.length : Int) := of_decide_eq_true (by first | (with_reducible assumption) | assumption)
                  obtain ⟨ad356, e356, hx356_0⟩ := Kd.at_int HR0.out x34_2 p356 q356
                  cases e356
                  replace hx356_0 := (HB.out.cell (World.block_lt_of_cell? w _ hx356_0)).trans hx356_0
                  replace p356 := eq_true p356
                  replace q356 := eq_true q356
                  obtain ⟨Ao20, co20, eo20⟩ := Kd.S_slice HO_5.out
                  subst eo20
                  go_upto_region 9 with (first | ((with_reducible refine gate_callee (f := 14) rfl ?_); refine goesL_ (some 41) rfl rfl Try.func14 (by kernel_rfl) rfl #[.slice Ao20 x5_2.length co20, .int .i64 (rd l0 x34_2), .int .i64 0] rfl (by (try simp only [List.map_toArray, List.map_cons, List.map_nil]); first | done | rfl | (simp only [List.length_drop, List.length_take]; rfl)) ?_; (with_reducible refine (itab_Make.calls k2 _ _ x5_2 (rd l0 x34_2) 0 t357 t360 t361 t362 _ ?side1 ?side2 A18.out).mono ?_); (case side1 => repeat (first | exact (Kd.S_reads' HO_5.out).2.2 | (with_reducible refine Kd.C_alloc ?_ _) | (with_reducible refine Kd.C_drewN ?_ _) | (with_reducible refine Kd.C_drew ?_))); (case side2 => exact (Kd.S_reads' HO_5.out).2.1); rintro e w21 ⟨v358, rfl, ho0, hb⟩; refine ⟨_, rfl, ?_⟩; have n0_ := Aside0.mk (Kd.S_elder' (by (with_reducible repeat (first | apply Kd.S_alloc | apply Kd.S_drewN | apply Kd.S_drew)); exact HO_5.out) (Kd.S_base ho0) hb); have n1_ := Aside0.mk (Kd.S_lower (Kd.S_new' ho0 (Kd.S_lt (by (with_reducible repeat (first | apply Kd.S_alloc | apply Kd.S_drewN | apply Kd.S_drew)); exact HO_5.out))) (below_size (by repeat (first | (with_reducible first | exact HB.out | apply below_alloc | apply pw_below_drewN | apply below_drew1) | exact HB.out)))); have n2_ := Aside0.mk (below_step (by repeat (first | (with_reducible first | exact HB.out | apply below_alloc | apply pw_below_drewN | apply below_drew1) | exact HB.out)) hb); clear HO_5; clear HB; have HO_5 := n0_; have HO359 := n1_; have HB := n2_; clear n0_ n1_ n2_; (try clear hb); (try clear hb2); (try clear hk); (try clear hi); (try clear ho0)) | ((with_reducible refine gate_dst (N := 10) rfl ?_); (try (refine gate_guard (by rfl) ?_; dsimp only)); refine box_event ?hg (N := 10) ?hd (cs := #[.int .i64 0, .int .i64 0]) (t := 24) ?hr ?_; (case hd => rfl); (case hg => rfl); (case hr => first | (go_simp; done) | (go_simp; rfl)); intro gb363 hg w22 hbox hb; have n0_ := Aside0.mk (Kd.S_below (by (with_reducible repeat (first | apply Kd.S_alloc | apply Kd.S_drewN | apply Kd.S_drew)); exact HO_5.out) hb); have n1_ := Aside0.mk (Kd.S_below (by (with_reducible repeat (first | apply Kd.S_alloc | apply Kd.S_drewN | apply Kd.S_drew)); exact HO359.out) hb); have n2_ := Aside0.mk (below_step (by repeat (first | (with_reducible first | exact HB.out | apply below_alloc | apply pw_below_drewN | apply below_drew1) | exact HB.out)) hb); have n3_ := Aside0.mk (hbox); have n4_ := Aside0.mk ((by rw [hg]; exact (below_size (by repeat (first | (with_reducible first | exact HB.out | apply below_alloc | apply pw_below_drewN | apply below_drew1) | exact HB.out))) : w.heap.size ≤ gb363)); have n5_ := Aside0.mk ((by rw [hg]; exact (below_size (by repeat (first | (with_reducible first | exact HB.out | apply below_alloc | apply pw_below_drewN | apply below_drew1) | exact HB.out))) : w.heap.size ≤ gb363)); clear HO_5; clear HO359; clear HB; have HO_5 := n0_; have HO359 := n1_; have HB := n2_; have BK363 := n3_; have GW363 := n4_; have GE363 := n5_; clear n0_ n1_ n2_ n3_ n4_ n5_; clear hb hbox hg; have hcz23_0 : w22.cell? ⟨gb363, 0, none⟩ = some (.int .i64 0) := (blk_cell BK363.out 0).trans rfl; have hcz23_1 : w22.cell? ⟨gb363, 1, none⟩ = some (.int .i64 0) := (blk_cell BK363.out 1).trans rfl; have hfz23_0 := blk_frozen BK363.out 0; have hfz23_1 := blk_frozen BK363.out 1))
                  (try simp only [Act.put, List.setIfInBounds_toArray, List.set_cons_zero, List.set_cons_succ])
                  go_cut [50] (fun v50 wc => ∃ (kq : Nat) (x50_18 : Bool), v50 = .bool x50_18 ∧ Aside0 (sextonlaw09_ItabRoom.j2 kq a1 x5_2 x6_2 t357 t362 l0 (l0.length : Int) x34_2 x50_18 t360 t361 = some true) ∧ Aside0 (kq ≤ k2) ∧ Aside0 (Kd.S k30 30 wc w.heap.size (fun k_ => some k_ ≠ (v358 : Value).ownBlock) (.slice Ao20 x5_2.length co20) x5_2) ∧ Aside0 (Kd.S k30 30 wc w.heap.size (fun k_ => some k_ ≠ ((.slice Ao20 x5_2.length co20) : Value).ownBlock) v358 t357) ∧ Aside0 (wc.heap[gb363]? = some (.cells #[.int .i64 t360, .int .i64 t361] 24 (0, 0))) ∧ Aside0 (Below w.heap.size w wc))
                  case first =>
                    have H := HC19.out
                    clear HC19
                    by_cases c24 : (rd l0 x34_2) = 1
                    · rw [if_pos c24] at H
                      have c24b0 : ((rd l0 x34_2) == 1) = true := beq_iff_eq.mpr c24
                      have c24b1 : ((rd l0 x34_2) != 1) = false := bne_eq_false_iff_eq.mpr c24
                      clear c24
                      (first | rw [c24b0] | (simp only [i64_w, i32_w]; rw [c24b0]) | skip)
                      have H' := Aside0.mk H
                      clear H
                      go_wp2
                      go_meet
                      case rel => exact ⟨_, (false), (by first | rfl | (simp; done) | (simp [*]; done)), H', ⟨by have := HJ3.out; have := HK2.out; first | omega | exact Nat.le_refl _⟩, ⟨by (with_reducible repeat (first | apply Kd.S_alloc | apply Kd.S_drewN | apply Kd.S_drew)); exact Kd.S_mono (Kd.S_far (p := ⟨gb363, 1, none⟩) (Kd.S_far (p := ⟨gb363, 0, none⟩) (Kd.S_types HO_5.out BK363.out (by decide)) (fun _ hk => hk.2) (.int .i64 t360)) (fun _ hk => hk.2) (.int .i64 t361)) (fun _ hk => hk.1.2)⟩, ⟨by (with_reducible repeat (first | apply Kd.S_alloc | apply Kd.S_drewN | apply Kd.S_drew)); exact Kd.S_mono (Kd.S_far (p := ⟨gb363, 1, none⟩) (Kd.S_far (p := ⟨gb363, 0, none⟩) (Kd.S_types HO359.out BK363.out (by decide)) (fun _ hk => hk.2) (.int .i64 t360)) (fun _ hk => hk.2) (.int .i64 t361)) (fun _ hk => hk.1.2)⟩, ⟨by (with_reducible repeat (first | refine blk_drewN ?_ _ | refine blk_drew ?_ | refine blk_alloc ?_ _)); refine blk_put (cs := #[.int .i64 t360, .int .i64 0]) ?_ 1 _ rfl; (with_reducible repeat (first | refine blk_drewN ?_ _ | refine blk_drew ?_ | refine blk_alloc ?_ _)); refine blk_put (cs := #[.int .i64 0, .int .i64 0]) ?_ 0 _ rfl; (with_reducible repeat (first | refine blk_drewN ?_ _ | refine blk_drew ?_ | refine blk_alloc ?_ _)); exact BK363.out⟩, ⟨by repeat (first | (with_reducible first | exact HB.out | apply below_alloc | apply pw_below_drewN | apply below_drew1 | refine below_set ?_ GE363.out) | exact HB.out)⟩⟩
                    · rw [if_neg c24] at H
                      have c24b0 : ((rd l0 x34_2) == 1) = false := beq_eq_false_iff_ne.mpr c24
                      have c24b1 : ((rd l0 x34_2) != 1) = true := bne_iff_ne.mpr c24
                      (first | rw [c24b0] | (simp only [i64_w, i32_w]; rw [c24b0]) | skip)
                      have H' := Aside0.mk H
                      clear H
                      go_wp2
                      go_meet
                      case rel => exact ⟨_, (((rd l0 x34_2) != 2)), (by first | rfl | (simp; done) | (simp [*]; done)), H', ⟨by have := HJ3.out; have := HK2.out; first | omega | exact Nat.le_refl _⟩, ⟨by (with_reducible repeat (first | apply Kd.S_alloc | apply Kd.S_drewN | apply Kd.S_drew)); exact Kd.S_mono (Kd.S_far (p := ⟨gb363, 1, none⟩) (Kd.S_far (p := ⟨gb363, 0, none⟩) (Kd.S_types HO_5.out BK363.out (by decide)) (fun _ hk => hk.2) (.int .i64 t360)) (fun _ hk => hk.2) (.int .i64 t361)) (fun _ hk => hk.1.2)⟩, ⟨by (with_reducible repeat (first | apply Kd.S_alloc | apply Kd.S_drewN | apply Kd.S_drew)); exact Kd.S_mono (Kd.S_far (p := ⟨gb363, 1, none⟩) (Kd.S_far (p := ⟨gb363, 0, none⟩) (Kd.S_types HO359.out BK363.out (by decide)) (fun _ hk => hk.2) (.int .i64 t360)) (fun _ hk => hk.2) (.int .i64 t361)) (fun _ hk => hk.1.2)⟩, ⟨by (with_reducible repeat (first | refine blk_drewN ?_ _ | refine blk_drew ?_ | refine blk_alloc ?_ _)); refine blk_put (cs := #[.int .i64 t360, .int .i64 0]) ?_ 1 _ rfl; (with_reducible repeat (first | refine blk_drewN ?_ _ | refine blk_drew ?_ | refine blk_alloc ?_ _)); refine blk_put (cs := #[.int .i64 0, .int .i64 0]) ?_ 0 _ rfl; (with_reducible repeat (first | refine blk_drewN ?_ _ | refine blk_drew ?_ | refine blk_alloc ?_ _)); exact BK363.out⟩, ⟨by repeat (first | (with_reducible first | exact HB.out | apply below_alloc | apply pw_below_drewN | apply below_drew1 | refine below_set ?_ GE363.out) | exact HB.out)⟩⟩
                  case rest =>
                    clear HC19
                    try clear c1
                    try clear c2
                    try clear p2
                    try clear p3
                    try clear q3
                    try clear hx3
                    try clear c6
                    try clear c6b0
                    try clear c6b1
                    try clear c9
                    try clear c10
                    try clear c10b0
                    try clear c10b1
                    try clear c14
                    try clear c15
                    try clear c15b0
                    try clear c16
                    try clear c16b0
                    try clear c17
                    try clear c17b0
                    try clear c24
                    try clear c24b0
                    try clear c24b1
                    try clear hcz23_0
                    try clear hcz23_1
                    try clear hfz23_0
                    try clear hfz23_1
                    try clear hx356_0
                    try clear p2
                    try clear p356
                    try clear q356
                    obtain ⟨kq, x50_18, rfl, HA, HJ18, HO_5, HO_9, BK363, HB⟩ := hcut
                    cases kq with
                    | zero => exact absurd HA.out (by simp [sextonlaw09_ItabRoom.j2])
                    | succ kj18 =>
                      have H := HA.out
                      clear HA
                      simp only [sextonlaw09_ItabRoom.j2] at H
                      by_cases c25 : x50_18 = true
                      · subst c25
                        have H1 : (if t362 = 1 then (sextonlaw09_ItabRoom.l0 kj18 a1 x5_2 x6_2 l0 (l0.length : Int) (wrap64 (x34_2 + 1))) else (some false)) = some true := by rw [if_pos rfl] at H; exact H
                        clear H
                        have H := H1
                        clear H1
                        by_cases c26 : t362 = 1
                        · rw [if_pos c26] at H
                          have c26b0 : (t362 == 1) = true := beq_iff_eq.mpr c26
                          have c26b1 : (t362 != 1) = false := bne_eq_false_iff_eq.mpr c26
                          clear c26
                          have H' := Aside0.mk H
                          clear H
                          go_wp2
                          go_roundg kj18
                          case measure => have := HJ3.out; have := HK2.out; have := HJ18.out; omega
                          case rel => exact ⟨(x5_2), (x6_2), (wrap64 (x34_2 + 1)), (by first | rfl | (simp; done) | (simp [*]; done)), (by first | rfl | (simp; done) | (simp [*]; done)), H', ⟨by have := HJ3.out; have := HK2.out; have := HJ18.out; omega⟩, ⟨by (with_reducible repeat (first | apply Kd.S_alloc | apply Kd.S_drewN | apply Kd.S_drew)); exact Kd.S_mono HO_5.out (fun _ hk => trivial)⟩, ⟨by repeat (first | (with_reducible first | exact HB.out | apply below_alloc | apply pw_below_drewN | apply below_drew1 | refine below_set ?_ GE363.out) | exact HB.out)⟩⟩
                        · rw [if_neg c26] at H
                          have c26b0 : (t362 == 1) = false := beq_eq_false_iff_ne.mpr c26
                          have c26b1 : (t362 != 1) = true := bne_iff_ne.mpr c26
                          cases H
                      · replace c25 := Bool.eq_false_iff.mpr c25
                        subst c25
                        have H1 : (if x6_2 = 24 then (if t362 = 407 then (sextonlaw09_ItabRoom.l0 kj18 a1 x5_2 x6_2 l0 (l0.length : Int) (wrap64 (x34_2 + 1))) else (some false)) else (if t362 = 0 then (if t360 = x6_2 then (if t361 = 1 then (sextonlaw09_ItabRoom.l0 kj18 a1 t357 (wrap64 (x6_2 + 1)) l0 (l0.length : Int) (wrap64 (x34_2 + 1))) else (some false)) else (some false)) else (some false))) = some true := by rw [if_neg (show ¬ (false = true) by decide)] at H; exact H
                        clear H
                        have H := H1
                        clear H1
                        by_cases c27 : x6_2 = 24
                        · rw [if_pos c27] at H
                          have c27b0 : (x6_2 == 24) = true := beq_iff_eq.mpr c27
                          have c27b1 : (x6_2 != 24) = false := bne_eq_false_iff_eq.mpr c27
                          clear c27
                          by_cases c28 : t362 = 407
                          · rw [if_pos c28] at H
                            have c28b0 : (t362 == 407) = true := beq_iff_eq.mpr c28
                            have c28b1 : (t362 != 407) = false := bne_eq_false_iff_eq.mpr c28
                            clear c28
                            have H' := Aside0.mk H
                            clear H
                            go_wp2
                            go_roundg kj18
                            case measure => have := HJ3.out; have := HK2.out; have := HJ18.out; omega
                            case rel => exact ⟨(x5_2), (x6_2), (wrap64 (x34_2 + 1)), (by first | rfl | (simp; done) | (simp [*]; done)), (by first | rfl | (simp; done) | (simp [*]; done)), H', ⟨by have := HJ3.out; have := HK2.out; have := HJ18.out; omega⟩, ⟨by (with_reducible repeat (first | apply Kd.S_alloc | apply Kd.S_drewN | apply Kd.S_drew)); exact Kd.S_mono HO_5.out (fun _ hk => trivial)⟩, ⟨by repeat (first | (with_reducible first | exact HB.out | apply below_alloc | apply pw_below_drewN | apply below_drew1 | refine below_set ?_ GE363.out) | exact HB.out)⟩⟩
                          · rw [if_neg c28] at H
                            have c28b0 : (t362 == 407) = false := beq_eq_false_iff_ne.mpr c28
                            have c28b1 : (t362 != 407) = true := bne_iff_ne.mpr c28
                            cases H
                        · rw [if_neg c27] at H
                          have c27b0 : (x6_2 == 24) = false := beq_eq_false_iff_ne.mpr c27
                          have c27b1 : (x6_2 != 24) = true := bne_iff_ne.mpr c27
                          by_cases c29 : t362 = 0
                          · rw [if_pos c29] at H
                            have c29b0 : (t362 == 0) = true := beq_iff_eq.mpr c29
                            have c29b1 : (t362 != 0) = false := bne_eq_false_iff_eq.mpr c29
                            clear c29
                            by_cases c30 : t360 = x6_2
                            · rw [if_pos c30] at H
                              have c30b0 : (t360 == x6_2) = true := beq_iff_eq.mpr c30
                              have c30b1 : (t360 != x6_2) = false := bne_eq_false_iff_eq.mpr c30
                              clear c30
                              by_cases c31 : t361 = 1
                              · rw [if_pos c31] at H
                                have c31b0 : (t361 == 1) = true := beq_iff_eq.mpr c31
                                have c31b1 : (t361 != 1) = false := bne_eq_false_iff_eq.mpr c31
                                clear c31
                                have H' := Aside0.mk H
                                clear H
                                have hcz32_0 : wc.cell? ⟨gb363, 0, none⟩ = some (.int .i64 t360) := (blk_cell BK363.out 0).trans rfl
                                have hcz32_1 : wc.cell? ⟨gb363, 1, none⟩ = some (.int .i64 t361) := (blk_cell BK363.out 1).trans rfl
                                have hfz32_0 := blk_frozen BK363.out 0
                                have hfz32_1 := blk_frozen BK363.out 1
                                go_wp2
                                go_roundg kj18
                                case measure => have := HJ3.out; have := HK2.out; have := HJ18.out; omega
                                case rel => exact ⟨(t357), (wrap64 (x6_2 + 1)), (wrap64 (x34_2 + 1)), (by first | rfl | (simp; done) | (simp [*]; done)), (by first | rfl | (simp; done) | (simp [*]; done)), H', ⟨by have := HJ3.out; have := HK2.out; have := HJ18.out; omega⟩, ⟨by (with_reducible repeat (first | apply Kd.S_alloc | apply Kd.S_drewN | apply Kd.S_drew)); exact Kd.S_mono HO_9.out (fun _ hk => trivial)⟩, ⟨by repeat (first | (with_reducible first | exact HB.out | apply below_alloc | apply pw_below_drewN | apply below_drew1 | refine below_set ?_ GE363.out) | exact HB.out)⟩⟩
                              · rw [if_neg c31] at H
                                have c31b0 : (t361 == 1) = false := beq_eq_false_iff_ne.mpr c31
                                have c31b1 : (t361 != 1) = true := bne_iff_ne.mpr c31
                                cases H
                            · rw [if_neg c30] at H
                              have c30b0 : (t360 == x6_2) = false := beq_eq_false_iff_ne.mpr c30
                              have c30b1 : (t360 != x6_2) = true := bne_iff_ne.mpr c30
                              cases H
                          · rw [if_neg c29] at H
                            have c29b0 : (t362 == 0) = false := beq_eq_false_iff_ne.mpr c29
                            have c29b1 : (t362 != 0) = true := bne_iff_ne.mpr c29
                            cases H
                · rw [if_neg c17] at H
                  exact absurd H (by simp)
              · rw [if_neg c16] at H
                exact absurd H (by simp)
            · rw [if_neg c15] at H
              have c15b0 : decide (x34_2 < (l0.length : Int)) = false := decide_eq_false c15
              clear c15
              have HC35 := Aside0.mk H
              clear H
              go_upto_region 20 with (fail)
              go_cut [80] (fun v80 wc => ∃ (kq : Nat) (x80_34 : Bool), v80 = .bool x80_34 ∧ Aside0 (sextonlaw09_ItabRoom.j3 kq a1 x5_2 x6_2 x80_34 = some true) ∧ Aside0 (kq ≤ k2) ∧ Aside0 (Kd.S k30 30 wc w.heap.size (fun _ => True) u5 x5_2) ∧ Aside0 (Below w.heap.size w wc))
              case first =>
                have H := HC35.out
                clear HC35
                by_cases c36 : a1 < 1
                · rw [if_pos c36] at H
                  have c36b0 : decide (a1 < 1) = true := decide_eq_true c36
                  clear c36
                  (first | rw [c36b0] | (simp only [i64_w, i32_w]; rw [c36b0]) | skip)
                  have H' := Aside0.mk H
                  clear H
                  go_wp2
                  go_meet
                  case rel => exact ⟨_, (true), (by first | rfl | (simp; done) | (simp [*]; done)), H', ⟨by have := HJ3.out; have := HK2.out; first | omega | exact Nat.le_refl _⟩, ⟨by (with_reducible repeat (first | apply Kd.S_alloc | apply Kd.S_drewN | apply Kd.S_drew)); exact HO_5.out⟩, ⟨by repeat (first | (with_reducible first | exact HB.out | apply below_alloc | apply pw_below_drewN | apply below_drew1) | exact HB.out)⟩⟩
                · rw [if_neg c36] at H
                  have c36b0 : decide (a1 < 1) = false := decide_eq_false c36
                  clear c36
                  (first | rw [c36b0] | (simp only [i64_w, i32_w]; rw [c36b0]) | skip)
                  have H' := Aside0.mk H
                  clear H
                  go_wp2
                  go_meet
                  case rel => exact ⟨_, (decide (a1 ≥ x6_2)), (by first | rfl | (simp; done) | (simp [*]; done)), H', ⟨by have := HJ3.out; have := HK2.out; first | omega | exact Nat.le_refl _⟩, ⟨by (with_reducible repeat (first | apply Kd.S_alloc | apply Kd.S_drewN | apply Kd.S_drew)); exact HO_5.out⟩, ⟨by repeat (first | (with_reducible first | exact HB.out | apply below_alloc | apply pw_below_drewN | apply below_drew1) | exact HB.out)⟩⟩
              case rest =>
                clear HC35
                try clear c1
                try clear c2
                try clear p2
                try clear c3
                try clear p3
                try clear q3
                try clear hx3
                try clear c6
                try clear c6b0
                try clear c6b1
                try clear p6
                try clear c9
                try clear c10
                try clear c10b0
                try clear c10b1
                try clear c14
                try clear c15
                try clear c15b0
                try clear c16
                try clear c16b0
                try clear c17
                try clear c17b0
                try clear c24
                try clear c24b0
                try clear c24b1
                try clear c25
                try clear c26
                try clear c26b0
                try clear c26b1
                try clear c27
                try clear c27b0
                try clear c27b1
                try clear c28
                try clear c28b0
                try clear c28b1
                try clear c29
                try clear c29b0
                try clear c29b1
                try clear c30
                try clear c30b0
                try clear c30b1
                try clear c31
                try clear c31b0
                try clear c31b1
                try clear p35
                try clear q35
                try clear hx35
                try clear c36
                try clear c36b0
                try clear hcz23_0
                try clear hcz23_1
                try clear hcz32_0
                try clear hcz32_1
                try clear hcz33_0
                try clear hcz33_1
                try clear hcz34_0
                try clear hcz34_1
                try clear hfz23_0
                try clear hfz23_1
                try clear hfz32_0
                try clear hfz32_1
                try clear hfz33_0
                try clear hfz33_1
                try clear hfz34_0
                try clear hfz34_1
                try clear hx356_0
                try clear p2
                try clear p3
                try clear p356
                try clear q3
                try clear q356
                obtain ⟨kq, x80_34, rfl, HA, HJ34, HO_5, HB⟩ := hcut
                cases kq with
                | zero => exact absurd HA.out (by simp [sextonlaw09_ItabRoom.j3])
                | succ kj34 =>
                  have H := HA.out
                  clear HA
                  simp only [sextonlaw09_ItabRoom.j3] at H
                  by_cases c37 : x80_34 = true
                  · subst c37
                    have H1 : ((itab_Used.f kj34 x5_2).bind fun t364 => (if (t364.length : Int) = x6_2 then ((sextonlaw09_again.f kj34).bind fun t367 => (some t367)) else (some false))) = some true := by rw [if_pos rfl] at H; exact H
                    clear H
                    have H := H1
                    clear H1
                    replace H := Option.bind_eq_some_iff.mp H
                    obtain ⟨t364, A380, H⟩ := H
                    replace H : (if (t364.length : Int) = x6_2 then ((sextonlaw09_again.f kj34).bind fun t367 => (some t367)) else (some false)) = some true := H
                    have A38 := Aside0.mk A380
                    clear A380
                    by_cases c39 : (t364.length : Int) = x6_2
                    · rw [if_pos c39] at H
                      have c39b0 : ((t364.length : Int) == x6_2) = true := beq_iff_eq.mpr c39
                      have c39b1 : ((t364.length : Int) != x6_2) = false := bne_eq_false_iff_eq.mpr c39
                      clear c39
                      replace H := Option.bind_eq_some_iff.mp H
                      obtain ⟨t367, A400, H⟩ := H
                      replace H : (some t367) = some true := H
                      have A40 := Aside0.mk A400
                      clear A400
                      obtain rfl := Option.some.inj H
                      obtain ⟨Ao41, co41, eo41⟩ := Kd.S_slice HO_5.out
                      subst eo41
                      go_wp2_with (first | ((with_reducible refine gate_callee (f := 18) rfl ?_); refine goesL_ (some 82) rfl rfl Try.func18 (by kernel_rfl) rfl #[.slice Ao41 x5_2.length co41] rfl (by (try simp only [List.map_toArray, List.map_cons, List.map_nil]); first | done | rfl | (simp only [List.length_drop, List.length_take]; rfl)) ?_; (with_reducible refine (itab_Used.calls kj34 _ _ x5_2 t364 _ ?side1 ?side2 A38.out).mono ?_); (case side1 => repeat (first | exact (Kd.S_reads' HO_5.out).2.2 | (with_reducible refine Kd.C_alloc ?_ _) | (with_reducible refine Kd.C_drewN ?_ _) | (with_reducible refine Kd.C_drew ?_))); (case side2 => exact (Kd.S_reads' HO_5.out).2.1); rintro e w42 ⟨v365, rfl, ho0, hb⟩; refine ⟨_, rfl, ?_⟩; have n0_ := Aside0.mk (Kd.S_below (by (with_reducible repeat (first | apply Kd.S_alloc | apply Kd.S_drewN | apply Kd.S_drew)); exact HO_5.out) hb); have n1_ := Aside0.mk (Kd.R_lower ho0 (below_size (by repeat (first | (with_reducible first | exact HB.out | apply below_alloc | apply pw_below_drewN | apply below_drew1) | exact HB.out)))); have n2_ := Aside0.mk (below_step (by repeat (first | (with_reducible first | exact HB.out | apply below_alloc | apply pw_below_drewN | apply below_drew1) | exact HB.out)) hb); clear HO_5; clear HB; have HO_5 := n0_; have HO366 := n1_; have HB := n2_; clear n0_ n1_ n2_; (try clear hb); (try clear hb2); (try clear hk); (try clear hi); (try clear ho0); obtain ⟨Ao43, co43, eo43⟩ := Kd.R_slice HO366.out; subst eo43) | (go_at_call 13; (with_reducible refine (sextonlaw09_again.calls kj34 _ A40.out).mono ?_); rintro e w44 ⟨rfl, hb⟩; have n0_ := Aside0.mk (Kd.S_below (by (with_reducible repeat (first | apply Kd.S_alloc | apply Kd.S_drewN | apply Kd.S_drew)); exact HO_5.out) hb); have n1_ := Aside0.mk (Kd.R_below (by (with_reducible repeat (first | apply Kd.R_alloc | apply Kd.R_drewN | apply Kd.R_drew)); exact HO366.out) hb); have n2_ := Aside0.mk (below_step (by repeat (first | (with_reducible first | exact HB.out | apply below_alloc | apply pw_below_drewN | apply below_drew1) | exact HB.out)) hb); clear HO_5; clear HO366; clear HB; have HO_5 := n0_; have HO366 := n1_; have HB := n2_; clear n0_ n1_ n2_; (try clear hb); (try clear hb2); (try clear hk); (try clear hi)))
                      go_ret
                      exact ⟨by first | rfl | (simp [errW_none, errW_some] <;> rfl) | (simp [*, errW_none, errW_some] <;> rfl), by repeat (first | (with_reducible first | exact HB.out | apply below_alloc | apply pw_below_drewN | apply below_drew1) | exact HB.out)⟩
                    · rw [if_neg c39] at H
                      have c39b0 : ((t364.length : Int) == x6_2) = false := beq_eq_false_iff_ne.mpr c39
                      have c39b1 : ((t364.length : Int) != x6_2) = true := bne_iff_ne.mpr c39
                      cases H
                  · replace c37 := Bool.eq_false_iff.mpr c37
                    subst c37
                    have H1 : ((itab_Drop.f kj34 x5_2 a1 1).bind fun bt368 => ((itab_Make.f kj34 bt368.1 1 0).bind fun bt372 => (if bt368.2 = 0 then (if bt372.2.2.2 = 0 then (if (bt372.2.1 == a1 && (bt372.2.2.1 == 2)) = true then ((itab_Used.f kj34 bt368.1).bind fun t379 => (if (t379.length : Int) = (wrap64 (x6_2 - 1)) then ((sextonlaw09_again.f kj34).bind fun t382 => (some t382)) else (some false))) else (some false)) else (some false)) else (some false)))) = some true := by rw [if_neg (show ¬ (false = true) by decide)] at H; exact H
                    clear H
                    have H := H1
                    clear H1
                    replace H := Option.bind_eq_some_iff.mp H
                    obtain ⟨⟨t368, t371⟩, A480, H⟩ := H
                    replace H : ((itab_Make.f kj34 t368 1 0).bind fun bt372 => (if t371 = 0 then (if bt372.2.2.2 = 0 then (if (bt372.2.1 == a1 && (bt372.2.2.1 == 2)) = true then ((itab_Used.f kj34 t368).bind fun t379 => (if (t379.length : Int) = (wrap64 (x6_2 - 1)) then ((sextonlaw09_again.f kj34).bind fun t382 => (some t382)) else (some false))) else (some false)) else (some false)) else (some false))) = some true := H
                    have A48 := Aside0.mk A480
                    clear A480
                    replace H := Option.bind_eq_some_iff.mp H
                    obtain ⟨⟨t372, t375, t376, t377⟩, A490, H⟩ := H
                    replace H : (if t371 = 0 then (if t377 = 0 then (if (t375 == a1 && (t376 == 2)) = true then ((itab_Used.f kj34 t368).bind fun t379 => (if (t379.length : Int) = (wrap64 (x6_2 - 1)) then ((sextonlaw09_again.f kj34).bind fun t382 => (some t382)) else (some false))) else (some false)) else (some false)) else (some false)) = some true := H
                    have A49 := Aside0.mk A490
                    clear A490
                    by_cases c50 : t371 = 0
                    · rw [if_pos c50] at H
                      have c50b0 : (t371 == 0) = true := beq_iff_eq.mpr c50
                      have c50b1 : (t371 != 0) = false := bne_eq_false_iff_eq.mpr c50
                      clear c50
                      by_cases c51 : t377 = 0
                      · rw [if_pos c51] at H
                        have c51b0 : (t377 == 0) = true := beq_iff_eq.mpr c51
                        have c51b1 : (t377 != 0) = false := bne_eq_false_iff_eq.mpr c51
                        clear c51
                        by_cases c52 : (t375 == a1 && (t376 == 2)) = true
                        · rw [if_pos c52] at H
                          have c52b0 : (t375 == a1 && (t376 == 2)) = true := c52
                          (try (have c52b1 : decide (t375 = a1 && (t376 == 2)) = true := by simpa using c52))
                          (try (have c52b2 : (t375 == a1 && (t376 == 2)) = true := by simpa using c52))
                          clear c52
                          replace H := Option.bind_eq_some_iff.mp H
                          obtain ⟨t379, A530, H⟩ := H
                          replace H : (if (t379.length : Int) = (wrap64 (x6_2 - 1)) then ((sextonlaw09_again.f kj34).bind fun t382 => (some t382)) else (some false)) = some true := H
                          have A53 := Aside0.mk A530
                          clear A530
                          by_cases c54 : (t379.length : Int) = (wrap64 (x6_2 - 1))
                          · rw [if_pos c54] at H
                            have c54b0 : ((t379.length : Int) == (wrap64 (x6_2 - 1))) = true := beq_iff_eq.mpr c54
                            have c54b1 : ((t379.length : Int) != (wrap64 (x6_2 - 1))) = false := bne_eq_false_iff_eq.mpr c54
                            clear c54
                            replace H := Option.bind_eq_some_iff.mp H
                            obtain ⟨t382, A550, H⟩ := H
                            replace H : (some t382) = some true := H
                            have A55 := Aside0.mk A550
                            clear A550
                            obtain rfl := Option.some.inj H
                            obtain ⟨Ao56, co56, eo56⟩ := Kd.S_slice HO_5.out
                            subst eo56
                            go_wp2_with (first | ((with_reducible refine gate_callee (f := 17) rfl ?_); refine goesL_ (some 93) rfl rfl Try.func17 (by kernel_rfl) rfl #[.slice Ao56 x5_2.length co56, .agg #[.int .i64 a1, .int .i64 1]] rfl (by (try simp only [List.map_toArray, List.map_cons, List.map_nil]); first | done | rfl | (simp only [List.length_drop, List.length_take]; rfl)) ?_; (with_reducible refine (itab_Drop.calls kj34 _ _ x5_2 a1 1 t368 t371 _ ?side1 ?side2 A48.out).mono ?_); (case side1 => repeat (first | exact (Kd.S_reads' HO_5.out).2.2 | (with_reducible refine Kd.C_alloc ?_ _) | (with_reducible refine Kd.C_drewN ?_ _) | (with_reducible refine Kd.C_drew ?_))); (case side2 => exact (Kd.S_reads' HO_5.out).2.1); rintro e w57 ⟨v369, rfl, ho0, hb⟩; refine ⟨_, rfl, ?_⟩; have n0_ := Aside0.mk (Kd.S_elder' (by (with_reducible repeat (first | apply Kd.S_alloc | apply Kd.S_drewN | apply Kd.S_drew)); exact HO_5.out) (Kd.S_base ho0) hb); have n1_ := Aside0.mk (Kd.S_lower (Kd.S_new' ho0 (Kd.S_lt (by (with_reducible repeat (first | apply Kd.S_alloc | apply Kd.S_drewN | apply Kd.S_drew)); exact HO_5.out))) (below_size (by repeat (first | (with_reducible first | exact HB.out | apply below_alloc | apply pw_below_drewN | apply below_drew1) | exact HB.out)))); have n2_ := Aside0.mk (below_step (by repeat (first | (with_reducible first | exact HB.out | apply below_alloc | apply pw_below_drewN | apply below_drew1) | exact HB.out)) hb); clear HO_5; clear HB; have HO_5 := n0_; have HO370 := n1_; have HB := n2_; clear n0_ n1_ n2_; (try clear hb); (try clear hb2); (try clear hk); (try clear hi); (try clear ho0); obtain ⟨Ao58, co58, eo58⟩ := Kd.S_slice HO370.out; subst eo58) | ((with_reducible refine gate_callee (f := 14) rfl ?_); refine goesL_ (some 98) rfl rfl Try.func14 (by kernel_rfl) rfl #[.slice Ao58 t368.length co58, .int .i64 1, .int .i64 0] rfl (by (try simp only [List.map_toArray, List.map_cons, List.map_nil]); first | done | rfl | (simp only [List.length_drop, List.length_take]; rfl)) ?_; (with_reducible refine (itab_Make.calls kj34 _ _ t368 1 0 t372 t375 t376 t377 _ ?side1 ?side2 A49.out).mono ?_); (case side1 => repeat (first | exact (Kd.S_reads' HO370.out).2.2 | (with_reducible refine Kd.C_alloc ?_ _) | (with_reducible refine Kd.C_drewN ?_ _) | (with_reducible refine Kd.C_drew ?_))); (case side2 => exact (Kd.S_reads' HO370.out).2.1); rintro e w59 ⟨v373, rfl, ho0, hb⟩; refine ⟨_, rfl, ?_⟩; have n0_ := Aside0.mk (Kd.S_elder' (by (with_reducible repeat (first | apply Kd.S_alloc | apply Kd.S_drewN | apply Kd.S_drew)); exact HO_5.out) (Kd.S_base ho0) hb); have n1_ := Aside0.mk (Kd.S_elder' (by (with_reducible repeat (first | apply Kd.S_alloc | apply Kd.S_drewN | apply Kd.S_drew)); exact HO370.out) (Kd.S_base ho0) hb); have n2_ := Aside0.mk (Kd.S_lower (Kd.S_new' (Kd.S_new' ho0 (Kd.S_lt (by (with_reducible repeat (first | apply Kd.S_alloc | apply Kd.S_drewN | apply Kd.S_drew)); exact HO_5.out))) (Kd.S_lt (by (with_reducible repeat (first | apply Kd.S_alloc | apply Kd.S_drewN | apply Kd.S_drew)); exact HO370.out))) (below_size (by repeat (first | (with_reducible first | exact HB.out | apply below_alloc | apply pw_below_drewN | apply below_drew1) | exact HB.out)))); have n3_ := Aside0.mk (below_step (by repeat (first | (with_reducible first | exact HB.out | apply below_alloc | apply pw_below_drewN | apply below_drew1) | exact HB.out)) hb); clear HO_5; clear HO370; clear HB; have HO_5 := n0_; have HO370 := n1_; have HO374 := n2_; have HB := n3_; clear n0_ n1_ n2_ n3_; (try clear hb); (try clear hb2); (try clear hk); (try clear hi); (try clear ho0)) | ((with_reducible refine gate_dst (N := 15) rfl ?_); (try (refine gate_guard (by rfl) ?_; dsimp only)); refine box_event ?hg (N := 15) ?hd (cs := #[.int .i64 0, .int .i64 0]) (t := 24) ?hr ?_; (case hd => rfl); (case hg => rfl); (case hr => first | (go_simp; done) | (go_simp; rfl)); intro gb378 hg w60 hbox hb; have n0_ := Aside0.mk (Kd.S_below (by (with_reducible repeat (first | apply Kd.S_alloc | apply Kd.S_drewN | apply Kd.S_drew)); exact HO_5.out) hb); have n1_ := Aside0.mk (Kd.S_below (by (with_reducible repeat (first | apply Kd.S_alloc | apply Kd.S_drewN | apply Kd.S_drew)); exact HO370.out) hb); have n2_ := Aside0.mk (Kd.S_below (by (with_reducible repeat (first | apply Kd.S_alloc | apply Kd.S_drewN | apply Kd.S_drew)); exact HO374.out) hb); have n3_ := Aside0.mk (below_step (by repeat (first | (with_reducible first | exact HB.out | apply below_alloc | apply pw_below_drewN | apply below_drew1) | exact HB.out)) hb); have n4_ := Aside0.mk (hbox); have n5_ := Aside0.mk ((by rw [hg]; exact (below_size (by repeat (first | (with_reducible first | exact HB.out | apply below_alloc | apply pw_below_drewN | apply below_drew1) | exact HB.out))) : w.heap.size ≤ gb378)); have n6_ := Aside0.mk ((by rw [hg]; exact (below_size (by repeat (first | (with_reducible first | exact HB.out | apply below_alloc | apply pw_below_drewN | apply below_drew1) | exact HB.out))) : w.heap.size ≤ gb378)); clear HO_5; clear HO370; clear HO374; clear HB; have HO_5 := n0_; have HO370 := n1_; have HO374 := n2_; have HB := n3_; have BK378 := n4_; have GW378 := n5_; have GE378 := n6_; clear n0_ n1_ n2_ n3_ n4_ n5_ n6_; clear hb hbox hg; have hcz61_0 : w60.cell? ⟨gb378, 0, none⟩ = some (.int .i64 0) := (blk_cell BK378.out 0).trans rfl; have hcz61_1 : w60.cell? ⟨gb378, 1, none⟩ = some (.int .i64 0) := (blk_cell BK378.out 1).trans rfl; have hfz61_0 := blk_frozen BK378.out 0; have hfz61_1 := blk_frozen BK378.out 1) | (go_at_call 18; (with_reducible refine (itab_Used.calls kj34 _ _ t368 t379 _ ?side1 ?side2 A53.out).mono ?_); (case side1 => refine (Kd.S_reads' (e := 30) (base := w.heap.size) (ok := fun k_ => ((True ∧ some k_ ≠ (.slice Ao56 x5_2.length co56 : Value).ownBlock) ∧ some k_ ≠ (v373 : Value).ownBlock)) (n := t368.length) (c := co58) ?_).2.2; exact (by (with_reducible repeat (first | apply Kd.S_alloc | apply Kd.S_drewN | apply Kd.S_drew)); exact (Kd.S_mono (Kd.S_far (p := ⟨gb378, 1, none⟩) (Kd.S_far (p := ⟨gb378, 0, none⟩) (Kd.S_types HO370.out BK378.out (by decide)) (fun _ hk => hk.2) (.int .i64 t375)) (fun _ hk => hk.2) (.int .i64 t376)) (fun _ h_ => h_.1)))); (case side2 => exact (Kd.S_reads' HO370.out).2.1); rintro e w62 ⟨v380, rfl, ho0, hb⟩; have n0_ := Aside0.mk (Kd.S_below (by (with_reducible repeat (first | apply Kd.S_alloc | apply Kd.S_drewN | apply Kd.S_drew)); exact (Kd.S_mono (Kd.S_far (p := ⟨gb378, 1, none⟩) (Kd.S_far (p := ⟨gb378, 0, none⟩) (Kd.S_types HO_5.out BK378.out (by decide)) (fun _ hk => hk.2) (.int .i64 t375)) (fun _ hk => hk.2) (.int .i64 t376)) (fun _ h_ => h_.1))) hb); have n1_ := Aside0.mk (Kd.S_below (by (with_reducible repeat (first | apply Kd.S_alloc | apply Kd.S_drewN | apply Kd.S_drew)); exact (Kd.S_mono (Kd.S_far (p := ⟨gb378, 1, none⟩) (Kd.S_far (p := ⟨gb378, 0, none⟩) (Kd.S_types HO370.out BK378.out (by decide)) (fun _ hk => hk.2) (.int .i64 t375)) (fun _ hk => hk.2) (.int .i64 t376)) (fun _ h_ => h_.1))) hb); have n2_ := Aside0.mk (Kd.S_below (by (with_reducible repeat (first | apply Kd.S_alloc | apply Kd.S_drewN | apply Kd.S_drew)); exact (Kd.S_mono (Kd.S_far (p := ⟨gb378, 1, none⟩) (Kd.S_far (p := ⟨gb378, 0, none⟩) (Kd.S_types HO374.out BK378.out (by decide)) (fun _ hk => hk.2) (.int .i64 t375)) (fun _ hk => hk.2) (.int .i64 t376)) (fun _ h_ => h_.1))) hb); have n3_ := Aside0.mk (Kd.R_lower (Kd.R_newB ho0 (g := gb378) (o := .cells #[.int .i64 t375, .int .i64 t376] 24 (0, 0)) (by (with_reducible repeat (first | refine blk_drewN ?_ _ | refine blk_drew ?_ | refine blk_alloc ?_ _)); refine blk_put (cs := #[.int .i64 t375, .int .i64 0]) ?_ 1 _ rfl; (with_reducible repeat (first | refine blk_drewN ?_ _ | refine blk_drew ?_ | refine blk_alloc ?_ _)); refine blk_put (cs := #[.int .i64 0, .int .i64 0]) ?_ 0 _ rfl; (with_reducible repeat (first | refine blk_drewN ?_ _ | refine blk_drew ?_ | refine blk_alloc ?_ _)); exact BK378.out)) (below_size (by repeat (first | (with_reducible first | exact HB.out | apply below_alloc | apply pw_below_drewN | apply below_drew1 | refine below_set ?_ GE378.out) | exact HB.out)))); have n4_ := Aside0.mk (blk_below (g := gb378) (o := .cells #[.int .i64 t375, .int .i64 t376] 24 (0, 0)) (by (with_reducible repeat (first | refine blk_drewN ?_ _ | refine blk_drew ?_ | refine blk_alloc ?_ _)); refine blk_put (cs := #[.int .i64 t375, .int .i64 0]) ?_ 1 _ rfl; (with_reducible repeat (first | refine blk_drewN ?_ _ | refine blk_drew ?_ | refine blk_alloc ?_ _)); refine blk_put (cs := #[.int .i64 0, .int .i64 0]) ?_ 0 _ rfl; (with_reducible repeat (first | refine blk_drewN ?_ _ | refine blk_drew ?_ | refine blk_alloc ?_ _)); exact BK378.out) hb); have n5_ := Aside0.mk (below_step (by repeat (first | (with_reducible first | exact HB.out | apply below_alloc | apply pw_below_drewN | apply below_drew1 | refine below_set ?_ GE378.out) | exact HB.out)) hb); clear HO_5; clear HO370; clear HO374; clear BK378; clear HB; have HO_5 := n0_; have HO370 := n1_; have HO374 := n2_; have HO381 := n3_; have BK378 := n4_; have HB := n5_; clear n0_ n1_ n2_ n3_ n4_ n5_; (try clear hb); (try clear hb2); (try clear hk); (try clear hi); (try clear ho0); obtain ⟨Ao63, co63, eo63⟩ := Kd.R_slice HO381.out; subst eo63) | (go_at_call 13; (with_reducible refine (sextonlaw09_again.calls kj34 _ A55.out).mono ?_); rintro e w64 ⟨rfl, hb⟩; have n0_ := Aside0.mk (Kd.S_below (by (with_reducible repeat (first | apply Kd.S_alloc | apply Kd.S_drewN | apply Kd.S_drew)); exact HO_5.out) hb); have n1_ := Aside0.mk (Kd.S_below (by (with_reducible repeat (first | apply Kd.S_alloc | apply Kd.S_drewN | apply Kd.S_drew)); exact HO370.out) hb); have n2_ := Aside0.mk (Kd.S_below (by (with_reducible repeat (first | apply Kd.S_alloc | apply Kd.S_drewN | apply Kd.S_drew)); exact HO374.out) hb); have n3_ := Aside0.mk (Kd.R_below (by (with_reducible repeat (first | apply Kd.R_alloc | apply Kd.R_drewN | apply Kd.R_drew)); exact HO381.out) hb); have n4_ := Aside0.mk (blk_below (g := gb378) (o := .cells #[.int .i64 t375, .int .i64 t376] 24 (0, 0)) (by (with_reducible repeat (first | refine blk_drewN ?_ _ | refine blk_drew ?_ | refine blk_alloc ?_ _)); exact BK378.out) hb); have n5_ := Aside0.mk (below_step (by repeat (first | (with_reducible first | exact HB.out | apply below_alloc | apply pw_below_drewN | apply below_drew1 | refine below_set ?_ GE378.out) | exact HB.out)) hb); clear HO_5; clear HO370; clear HO374; clear HO381; clear BK378; clear HB; have HO_5 := n0_; have HO370 := n1_; have HO374 := n2_; have HO381 := n3_; have BK378 := n4_; have HB := n5_; clear n0_ n1_ n2_ n3_ n4_ n5_; (try clear hb); (try clear hb2); (try clear hk); (try clear hi)))
                            go_ret
                            exact ⟨by first | rfl | (simp [errW_none, errW_some] <;> rfl) | (simp [*, errW_none, errW_some] <;> rfl), by repeat (first | (with_reducible first | exact HB.out | apply below_alloc | apply pw_below_drewN | apply below_drew1 | refine below_set ?_ GE378.out) | exact HB.out)⟩
                          · rw [if_neg c54] at H
                            have c54b0 : ((t379.length : Int) == (wrap64 (x6_2 - 1))) = false := beq_eq_false_iff_ne.mpr c54
                            have c54b1 : ((t379.length : Int) != (wrap64 (x6_2 - 1))) = true := bne_iff_ne.mpr c54
                            cases H
                        · rw [if_neg c52] at H
                          have c52b0 : (t375 == a1 && (t376 == 2)) = false := by simpa using c52
                          (try (have c52b1 : decide (t375 = a1 && (t376 == 2)) = false := by simpa using c52))
                          (try (have c52b2 : (t375 == a1 && (t376 == 2)) = false := by simpa using c52))
                          (try (have c52b3 : ¬ (t375 = a1 && (t376 == 2)) := by simpa using c52))
                          clear c52
                          cases H
                      · rw [if_neg c51] at H
                        have c51b0 : (t377 == 0) = false := beq_eq_false_iff_ne.mpr c51
                        have c51b1 : (t377 != 0) = true := bne_iff_ne.mpr c51
                        cases H
                    · rw [if_neg c50] at H
                      have c50b0 : (t371 == 0) = false := beq_eq_false_iff_ne.mpr c50
                      have c50b1 : (t371 != 0) = true := bne_iff_ne.mpr c50
                      cases H
/-- THE ONE PURE STATEMENT of sextonlaw09_ItabRoom: yours. -/
def sextonlaw09_ItabRoom.Pure : Prop := ∀ (l0 : List Int) (a1 : Int), l0.length ≤ maxLen → l0.length * 8 ≤ 140737488351232 → (∀ x ∈ l0, (Lit.int .i64 x).wf = true) → (Lit.int .i64 a1).wf = true → ∃ k, sextonlaw09_ItabRoom.f k l0 a1 = some true
theorem sextonlaw09_ItabRoom.walk (P : sextonlaw09_ItabRoom.Pure) (a0 : Option Addr) (len0 cap0 : Nat) (z0 : List Int) (a1 : Int) (w : World) (w0 : (a0 = none ∧ len0 = 0 ∧ cap0 = 0 ∧ z0 = []) ∨ ∃ x, a0 = some x ∧ len0 ≤ cap0 ∧ cap0 ≤ maxLen ∧ z0.length = cap0 ∧ (∀ i, i < z0.length → w.cell? (x.add i) = some (.int .i64 (z0.getD i 0))) ∧ ∀ n ∈ z0, (Lit.int .i64 n).wf = true) (y0 : len0 * 8 ≤ 140737488351232) (w1 : (Lit.int .i64 a1).wf = true) :
    Calls Try.prog 6 #[.slice a0 len0 cap0, .int .i64 a1] w fun e w' => e = .returned (.bool true) ∧ Below w.heap.size w w' := by
  obtain ⟨l0, rfl, hr0, hm0, hw0, hc0⟩ := ReadsInt.ofRowC w0
  obtain ⟨k, h⟩ := P l0 a1 hm0 y0 hw0 w1
  refine (sextonlaw09_ItabRoom.calls k _ _ l0 a1 w (Kd.C_of_reads (d := (0 : Int)) (h1 := fun _ => rfl) hr0) hc0 h).mono ?_
  rintro e w' ⟨rfl, hd⟩
  exact ⟨rfl, hd⟩

end Go.Proofs.Ytgepphlkibnhdaa.PItab
