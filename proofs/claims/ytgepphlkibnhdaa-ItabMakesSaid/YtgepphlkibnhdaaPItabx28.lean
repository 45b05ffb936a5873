/- A text of this session's own, written by a program (wip/tools). -/
import Derived.Test.YtgepphlkibnhdaaPItabx0
import Derived.Test.YtgepphlkibnhdaaPItabx19
import Derived.Test.YtgepphlkibnhdaaPItabx27
namespace Go.Proofs.Ytgepphlkibnhdaa.PItab
open Go.RowKit Go.Proofs.YtgepphlkibnhdaaW.PrintWords Go.Proofs.YtgepphlkibnhdaaW.PrintLast Go.Proofs.YtgepphlkibnhdaaW.PrintMore
attribute [local go_sem] max2_int min2_int max_two min_two max_three min_three max_four min_four   -- for this text's walks alone
set_option linter.unusedVariables false
set_option linter.unusedSimpArgs false

/-! ### sextonref09_Make: function 15 -/
mutual
def sextonref09_Make.j0 : Nat → List (S30) → Int → Int → Bool → Option ((List (S30)) × Int × Int × Int)
 | 0, _, _, _, _ => none
 | k + 1, x0, x1, x2, x30 => if x30 = true then (some (([] : List (S30)), 0, 0, 1)) else (sextonref09_Make.l0 k x0 x1 x2 (-1) 1 (wrap64 ((x0.length : Int) - 1)))
def sextonref09_Make.l0 : Nat → List (S30) → Int → Int → Int → Int → Int → Option ((List (S30)) × Int × Int × Int)
 | 0, _, _, _, _, _, _ => none
 | k + 1, x0, x1, x2, x9, x10, x11 => if x11 ≥ 0 then (if 0 ≤ x11 then (if x11 < (x0.length : Int) then (if ((rd_T30 x0 x11).f1.f0) = 0 then (if ((rd_T30 x0 x11).f0) < 1099511627776 then (sextonref09_Make.l0 k x0 x1 x2 x11 (wrap64 (((rd_T30 x0 x11).f0) + 1)) (wrap64 (x11 - 1))) else (sextonref09_Make.l0 k x0 x1 x2 x9 x10 (wrap64 (x11 - 1)))) else (sextonref09_Make.l0 k x0 x1 x2 x9 x10 (wrap64 (x11 - 1)))) else (none)) else (none)) else (if x9 < 0 then (if (x0.length : Int) = 24 then (some (([] : List (S30)), 0, 0, 407)) else ((sextonref09_with.f k x0 (x0.length : Int) x10 x1 1 0 x2 ([] : List (S73)) ([] : List (S75)) 0).bind fun t279 => (some (t279, (x0.length : Int), x10, 0)))) else ((sextonref09_with.f k x0 x9 x10 x1 1 0 x2 ([] : List (S73)) ([] : List (S75)) 0).bind fun t283 => (some (t283, x9, x10, 0))))
end
def sextonref09_Make.f (k : Nat) (l0 : List (S30)) (a1 : Int) (a2 : Int) : Option ((List (S30)) × Int × Int × Int) := (sextonref09_Right.f k l0).bind fun t274 => (if t274 = true then (if a1 < 1 then (sextonref09_Make.j0 k l0 a1 a2 true) else (if a1 > 2 then (sextonref09_Make.j0 k l0 a1 a2 true) else (if a2 < 0 then (sextonref09_Make.j0 k l0 a1 a2 true) else (sextonref09_Make.j0 k l0 a1 a2 (decide (a2 > 1099511627776)))))) else (some (([] : List (S30)), 0, 0, 4)))
theorem sextonref09_Make.mono_l : ∀ k, (∀ y0 y1 y2 y3, LeO (sextonref09_Make.j0 k y0 y1 y2 y3) (sextonref09_Make.j0 (k + 1) y0 y1 y2 y3)) ∧ (∀ y0 y1 y2 y3 y4 y5, LeO (sextonref09_Make.l0 k y0 y1 y2 y3 y4 y5) (sextonref09_Make.l0 (k + 1) y0 y1 y2 y3 y4 y5))
 | 0 => ⟨fun _ _ _ _ r h => by simp [sextonref09_Make.j0] at h, fun _ _ _ _ _ _ r h => by simp [sextonref09_Make.l0] at h⟩
 | k + 1 => by
  obtain ⟨ih0, ih1⟩ := sextonref09_Make.mono_l k
  refine ⟨?_, ?_⟩
  ·
   intro y0 y1 y2 y3
   unfold sextonref09_Make.j0
   repeat' first
   | (with_reducible exact ih0 _ _ _ _)
   | (with_reducible exact ih1 _ _ _ _ _ _)
   | (with_reducible exact sextonref09_Right.mono _ _)
   | (with_reducible exact sextonref09_with.mono _ _ _ _ _ _ _ _ _ _ _)
   | (with_reducible exact LeO.refl _)
   | (with_reducible exact LeO.none _)
   | (with_reducible refine LeO.ite ?_ ?_)
   | (with_reducible refine LeO.bind ?_ (fun _ => ?_))
   | exact ih0 _ _ _ _
   | exact ih1 _ _ _ _ _ _
   | exact sextonref09_Right.mono _ _
   | exact sextonref09_with.mono _ _ _ _ _ _ _ _ _ _ _
   | exact LeO.none _
   | refine LeO.ite ?_ ?_
   | refine LeO.bind ?_ (fun _ => ?_)
  ·
   intro y0 y1 y2 y3 y4 y5
   unfold sextonref09_Make.l0
   repeat' first
   | (with_reducible exact ih0 _ _ _ _)
   | (with_reducible exact ih1 _ _ _ _ _ _)
   | (with_reducible exact sextonref09_Right.mono _ _)
   | (with_reducible exact sextonref09_with.mono _ _ _ _ _ _ _ _ _ _ _)
   | (with_reducible exact LeO.refl _)
   | (with_reducible exact LeO.none _)
   | (with_reducible refine LeO.ite ?_ ?_)
   | (with_reducible refine LeO.bind ?_ (fun _ => ?_))
   | exact ih0 _ _ _ _
   | exact ih1 _ _ _ _ _ _
   | exact sextonref09_Right.mono _ _
   | exact sextonref09_with.mono _ _ _ _ _ _ _ _ _ _ _
   | exact LeO.none _
   | refine LeO.ite ?_ ?_
   | refine LeO.bind ?_ (fun _ => ?_)
theorem sextonref09_Make.mono : ∀ a0 a1 a2 k, LeO (sextonref09_Make.f k a0 a1 a2) (sextonref09_Make.f (k + 1) a0 a1 a2) := by
 intro a0 a1 a2 k
 obtain ⟨ih0, ih1⟩ := sextonref09_Make.mono_l k
 unfold sextonref09_Make.f
 repeat' first
   | (with_reducible exact ih0 _ _ _ _)
   | (with_reducible exact ih1 _ _ _ _ _ _)
   | (with_reducible exact sextonref09_Right.mono _ _)
   | (with_reducible exact sextonref09_with.mono _ _ _ _ _ _ _ _ _ _ _)
   | (with_reducible exact LeO.refl _)
   | (with_reducible exact LeO.none _)
   | (with_reducible refine LeO.ite ?_ ?_)
   | (with_reducible refine LeO.bind ?_ (fun _ => ?_))
   | exact ih0 _ _ _ _
   | exact ih1 _ _ _ _ _ _
   | exact sextonref09_Right.mono _ _
   | exact sextonref09_with.mono _ _ _ _ _ _ _ _ _ _ _
   | exact LeO.none _
   | refine LeO.ite ?_ ?_
   | refine LeO.bind ?_ (fun _ => ?_)
set_option maxHeartbeats 8000000 in
set_option maxRecDepth 100000 in
theorem sextonref09_Make.calls (k : Nat) (P0_ : Nat → Prop) (A0 : Option Addr) (c0 : Nat) (l0 : List (S30)) (a1 : Int) (a2 : Int) (r1 : List (S30)) (r2 : Int) (r3 : Int) (r4 : Int) (w : World) (hs0 : Kd.V k30 30 w w.heap.size (fun k_ => P0_ k_) (.slice A0 l0.length c0) l0) (h : sextonref09_Make.f k l0 a1 a2 = some (r1, r2, r3, r4)) :
  Calls Try.prog 15 #[.slice A0 l0.length c0, .int .i64 a1, .int .i64 a2] w fun e w' => ∃ v0_ : Value, e = .returned (.tuple #[v0_, .agg #[.int .i64 r2, .int .i64 r3], .int .i64 r4]) ∧ Kd.N k30 30 w' w.heap.size (fun k_ => (P0_ k_ ∨ w.heap.size ≤ k_)) v0_ r1 ∧ Below w.heap.size w w' := by
 have hu24 := Try.underlying24
 have hu26 := Try.underlying26
 have hu30 := Try.underlying30
 have HO0 := Aside0.mk (show Kd.V k30 30 w w.heap.size (fun k_ => (P0_ k_ ∨ w.heap.size ≤ k_)) (.slice A0 l0.length c0) l0 from Kd.V_mono hs0 (fun k_ hk => .inl hk))
 have HB := Aside0.mk (Below.refl w.heap.size w)
 have H : ((sextonref09_Right.f k l0).bind fun t274 => (if t274 = true then (if a1 < 1 then (sextonref09_Make.j0 k l0 a1 a2 true) else (if a1 > 2 then (sextonref09_Make.j0 k l0 a1 a2 true) else (if a2 < 0 then (sextonref09_Make.j0 k l0 a1 a2 true) else (sextonref09_Make.j0 k l0 a1 a2 (decide (a2 > 1099511627776)))))) else (some (([] : List (S30)), 0, 0, 4)))) = some (r1, r2, r3, r4) := h
 clear h
 replace H := Option.bind_eq_some_iff.mp H
 obtain ⟨t274, A40, H⟩ := H
 replace H : (if t274 = true then (if a1 < 1 then (sextonref09_Make.j0 k l0 a1 a2 true) else (if a1 > 2 then (sextonref09_Make.j0 k l0 a1 a2 true) else (if a2 < 0 then (sextonref09_Make.j0 k l0 a1 a2 true) else (sextonref09_Make.j0 k l0 a1 a2 (decide (a2 > 1099511627776)))))) else (some (([] : List (S30)), 0, 0, 4))) = some (r1, r2, r3, r4) := H
 have A4 := Aside0.mk A40
 clear A40
 by_cases c5 : t274 = true
 ·
  subst c5
  have H1 : (if a1 < 1 then (sextonref09_Make.j0 k l0 a1 a2 true) else (if a1 > 2 then (sextonref09_Make.j0 k l0 a1 a2 true) else (if a2 < 0 then (sextonref09_Make.j0 k l0 a1 a2 true) else (sextonref09_Make.j0 k l0 a1 a2 (decide (a2 > 1099511627776)))))) = some (r1, r2, r3, r4) := by rw [if_pos rfl] at H; exact H
  clear H
  have H := H1
  clear H1
  have HC6 := Aside0.mk H
  clear H
  go_enter Try.func15, Try.ntmps15
  go_upto_region 3 with (first | ((with_reducible refine gate_dst (N := 7) rfl ?_); refine box_event ?hg (N := 7) ?hd (cs := #[.int .i64 0, .int .i64 0]) (t := 24) ?hr ?_; (case hd => rfl); (case hg => rfl); (case hr => first | (go_simp; done) | (go_simp; rfl)); intro gb273 hg w7 hbox hb; have n0_ := Aside0.mk (Kd.V_below (Kd.V_elderB (by (with_reducible repeat (first | apply Kd.V_alloc | apply Kd.V_drewN | apply Kd.V_drew)); exact HO0.out) gb273 (Nat.le_of_eq hg.symm)) hb); have n1_ := Aside0.mk (below_step (by repeat (first | (with_reducible first | exact HB.out | apply below_alloc | apply pw_below_drewN | apply below_drew1) | exact HB.out)) hb); have n2_ := Aside0.mk (hbox); have n3_ := Aside0.mk ((by rw [hg]; exact (below_size (by repeat (first | (with_reducible first | exact HB.out | apply below_alloc | apply pw_below_drewN | apply below_drew1) | exact HB.out))) : w.heap.size ≤ gb273)); have n4_ := Aside0.mk ((by rw [hg]; exact (below_size (by repeat (first | (with_reducible first | exact HB.out | apply below_alloc | apply pw_below_drewN | apply below_drew1) | exact HB.out))) : w.heap.size ≤ gb273)); clear HO0; clear HB; have HO0 := n0_; have HB := n1_; have BK273 := n2_; have GW273 := n3_; have GE273 := n4_; clear n0_ n1_ n2_ n3_ n4_; clear hb hbox hg) | ((with_reducible refine gate_callee (f := 23) rfl ?_); refine goesL_ (some 14) rfl rfl Try.func23 (by kernel_rfl) rfl #[.slice A0 l0.length c0] rfl (by (try simp only [List.map_toArray, List.map_cons, List.map_nil]); first | done | rfl | (simp only [List.length_drop, List.length_take]; rfl)) ?_; (with_reducible refine (sextonref09_Right.calls k _ _ l0 true _ ?side1 ?side2 A4.out).mono ?_); (case side1 => repeat (first | exact (Kd.V_reads' HO0.out).2.2 | (with_reducible refine Kd.C_alloc ?_ _) | (with_reducible refine Kd.C_drewN ?_ _) | (with_reducible refine Kd.C_drew ?_))); (case side2 => exact (Kd.V_reads' HO0.out).2.1); rintro e w8 ⟨rfl, hb⟩; refine ⟨_, rfl, ?_⟩; have n0_ := Aside0.mk (Kd.V_below (by (with_reducible repeat (first | apply Kd.V_alloc | apply Kd.V_drewN | apply Kd.V_drew)); exact HO0.out) hb); have n1_ := Aside0.mk (blk_below (g := gb273) (o := .cells #[.int .i64 0, .int .i64 0] 24 (0, 0)) (by (with_reducible repeat (first | refine blk_drewN ?_ _ | refine blk_drew ?_ | refine blk_alloc ?_ _)); exact BK273.out) hb); have n2_ := Aside0.mk (below_step (by repeat (first | (with_reducible first | exact HB.out | apply below_alloc | apply pw_below_drewN | apply below_drew1 | refine below_set ?_ GE273.out) | exact HB.out)) hb); clear HO0; clear BK273; clear HB; have HO0 := n0_; have BK273 := n1_; have HB := n2_; clear n0_ n1_ n2_; (try clear hb); (try clear hb2); (try clear hk); (try clear hi)))
  (try simp only [Act.put, List.setIfInBounds_toArray, List.set_cons_zero, List.set_cons_succ])
  go_cut [30] (fun v30 wc => ∃ (kq : Nat) (x30_5 : Bool), v30 = .bool x30_5 ∧ Aside0 (sextonref09_Make.j0 kq l0 a1 a2 x30_5 = some (r1, r2, r3, r4)) ∧ Aside0 (kq ≤ k) ∧ Aside0 (Kd.V k30 30 wc w.heap.size (fun k_ => (P0_ k_ ∨ w.heap.size ≤ k_) ∧ k_ ≠ gb273) (.slice A0 l0.length c0) l0) ∧ Aside0 (wc.heap[gb273]? = some (.cells #[.int .i64 0, .int .i64 0] 24 (0, 0))) ∧ Aside0 (Below w.heap.size w wc))
  case first =>
   have H := HC6.out
   clear HC6
   by_cases c9 : a1 < 1
   ·
    rw [if_pos c9] at H
    have c9b0 : decide (a1 < 1) = true := decide_eq_true c9
    clear c9
    (first | rw [c9b0] | (simp only [i64_w, i32_w]; rw [c9b0]) | skip)
    have H' := Aside0.mk H
    clear H
    go_wp2
    go_meet
    case rel => exact ⟨_, (true), (by first | rfl | (simp; done) | (simp [*]; done)), H', ⟨by first | omega | exact Nat.le_refl _⟩, ⟨by (with_reducible repeat (first | apply Kd.V_alloc | apply Kd.V_drewN | apply Kd.V_drew)); exact HO0.out⟩, ⟨by (with_reducible repeat (first | refine blk_drewN ?_ _ | refine blk_drew ?_ | refine blk_alloc ?_ _)); exact BK273.out⟩, ⟨by repeat (first | (with_reducible first | exact HB.out | apply below_alloc | apply pw_below_drewN | apply below_drew1 | refine below_set ?_ GE273.out) | exact HB.out)⟩⟩
   ·
    rw [if_neg c9] at H
    have c9b0 : decide (a1 < 1) = false := decide_eq_false c9
    clear c9
    (first | rw [c9b0] | (simp only [i64_w, i32_w]; rw [c9b0]) | skip)
    by_cases c10 : a1 > 2
    ·
     rw [if_pos c10] at H
     have c10b0 : decide (2 < a1) = true := decide_eq_true c10
     clear c10
     have H' := Aside0.mk H
     clear H
     go_wp2
     go_meet
     case rel => exact ⟨_, (true), (by first | rfl | (simp; done) | (simp [*]; done)), H', ⟨by first | omega | exact Nat.le_refl _⟩, ⟨by (with_reducible repeat (first | apply Kd.V_alloc | apply Kd.V_drewN | apply Kd.V_drew)); exact HO0.out⟩, ⟨by (with_reducible repeat (first | refine blk_drewN ?_ _ | refine blk_drew ?_ | refine blk_alloc ?_ _)); exact BK273.out⟩, ⟨by repeat (first | (with_reducible first | exact HB.out | apply below_alloc | apply pw_below_drewN | apply below_drew1 | refine below_set ?_ GE273.out) | exact HB.out)⟩⟩
    ·
     rw [if_neg c10] at H
     have c10b0 : decide (2 < a1) = false := decide_eq_false c10
     clear c10
     by_cases c11 : a2 < 0
     ·
      rw [if_pos c11] at H
      have c11b0 : decide (a2 < 0) = true := decide_eq_true c11
      clear c11
      have H' := Aside0.mk H
      clear H
      go_wp2
      go_meet
      case rel => exact ⟨_, (true), (by first | rfl | (simp; done) | (simp [*]; done)), H', ⟨by first | omega | exact Nat.le_refl _⟩, ⟨by (with_reducible repeat (first | apply Kd.V_alloc | apply Kd.V_drewN | apply Kd.V_drew)); exact HO0.out⟩, ⟨by (with_reducible repeat (first | refine blk_drewN ?_ _ | refine blk_drew ?_ | refine blk_alloc ?_ _)); exact BK273.out⟩, ⟨by repeat (first | (with_reducible first | exact HB.out | apply below_alloc | apply pw_below_drewN | apply below_drew1 | refine below_set ?_ GE273.out) | exact HB.out)⟩⟩
     ·
      rw [if_neg c11] at H
      have c11b0 : decide (a2 < 0) = false := decide_eq_false c11
      clear c11
      have H' := Aside0.mk H
      clear H
      go_wp2
      go_meet
      case rel => exact ⟨_, (decide (a2 > 1099511627776)), (by first | rfl | (simp; done) | (simp [*]; done)), H', ⟨by first | omega | exact Nat.le_refl _⟩, ⟨by (with_reducible repeat (first | apply Kd.V_alloc | apply Kd.V_drewN | apply Kd.V_drew)); exact HO0.out⟩, ⟨by (with_reducible repeat (first | refine blk_drewN ?_ _ | refine blk_drew ?_ | refine blk_alloc ?_ _)); exact BK273.out⟩, ⟨by repeat (first | (with_reducible first | exact HB.out | apply below_alloc | apply pw_below_drewN | apply below_drew1 | refine below_set ?_ GE273.out) | exact HB.out)⟩⟩
  case rest =>
   clear HC6
   try clear c1
   try clear c2
   try clear p2
   try clear c5
   try clear c9
   try clear c9b0
   try clear c10
   try clear c10b0
   try clear c11
   try clear c11b0
   obtain ⟨kq, x30_5, rfl, HA, HJ5, HO_0, BK273, HB⟩ := hcut
   cases kq with
   | zero => exact absurd HA.out (by simp [sextonref09_Make.j0])
   | succ kj5 =>
    have H := HA.out
    clear HA
    simp only [sextonref09_Make.j0] at H
    by_cases c12 : x30_5 = true
    ·
     subst c12
     have H1 : (some (([] : List (S30)), 0, 0, 1)) = some (r1, r2, r3, r4) := by rw [if_pos rfl] at H; exact H
     clear H
     have H := H1
     clear H1
     simp only [Option.some.injEq, Prod.mk.injEq] at H
     obtain ⟨rfl, rfl, rfl, rfl⟩ := H
     have hcz13_0 : wc.cell? ⟨gb273, 0, none⟩ = some (.int .i64 0) := (blk_cell BK273.out 0).trans rfl
     have hcz13_1 : wc.cell? ⟨gb273, 1, none⟩ = some (.int .i64 0) := (blk_cell BK273.out 1).trans rfl
     have hfz13_0 := blk_frozen BK273.out 0
     have hfz13_1 := blk_frozen BK273.out 1
     go_wp2
     refine bodyPost_ret (results_list (rs := [.tmp 6, .cell 7 24, .tmp 8]) rfl (by simp) (.tmp (.cell gb273 24 #[.int .i64 0, .int .i64 0] (0, 0) _ rfl (by (with_reducible repeat (first | refine blk_drewN ?_ _ | refine blk_drew ?_ | refine blk_alloc ?_ _)); refine blk_put (cs := #[.int .i64 0, .int .i64 0]) ?_ 1 _ rfl; (with_reducible repeat (first | refine blk_drewN ?_ _ | refine blk_drew ?_ | refine blk_alloc ?_ _)); refine blk_put (cs := #[.int .i64 0, .int .i64 0]) ?_ 0 _ rfl; (with_reducible repeat (first | refine blk_drewN ?_ _ | refine blk_drew ?_ | refine blk_alloc ?_ _)); exact BK273.out) Try.underlying24 rfl (by kernel_rfl) (.tmp .nil)))) rfl ?_
     exact ⟨_, by first | rfl | (simp [errW_none, errW_some] <;> rfl) | (simp [*, errW_none, errW_some] <;> rfl), by first | exact Kd.S_nil _ _ _ _ _ | exact Kd.N_nil _ _ _ _ _ | exact Kd.V_nil _ _ _ _ _ | exact Kd.Q_nil _ _ _ _ _ | exact Kd.R_nil _ _ _ _ _, by repeat (first | (with_reducible first | exact HB.out | apply below_alloc | apply pw_below_drewN | apply below_drew1 | refine below_set ?_ GE273.out) | exact HB.out)⟩
    ·
     replace c12 := Bool.eq_false_iff.mpr c12
     subst c12
     have H1 : (sextonref09_Make.l0 kj5 l0 a1 a2 (-1) 1 (wrap64 ((l0.length : Int) - 1))) = some (r1, r2, r3, r4) := by rw [if_neg (show ¬ (false = true) by decide)] at H; exact H
     clear H
     have H := H1
     clear H1
     have H' := Aside0.mk H
     clear H
     go_wp2
     go_loopg [9, 10, 11] kj5 (fun kq v9 v10 v11 w' => ∃ (x9_2 : Int) (x10_2 : Int) (x11_2 : Int), v9 = .int .i64 x9_2 ∧ v10 = .int .i64 x10_2 ∧ v11 = .int .i64 x11_2 ∧ Aside0 (sextonref09_Make.l0 kq l0 a1 a2 x9_2 x10_2 x11_2 = some (r1, r2, r3, r4)) ∧ Aside0 (kq ≤ kj5) ∧ Aside0 (Kd.V k30 30 w' w.heap.size (fun k_ => (P0_ k_ ∨ w.heap.size ≤ k_) ∧ k_ ≠ gb273) (.slice A0 l0.length c0) l0) ∧ Aside0 (w'.heap[gb273]? = some (.cells #[.int .i64 0, .int .i64 0] 24 (0, 0))) ∧ Aside0 (Below w.heap.size w w'))
     case atStart => exact ⟨((-1)), (1), (wrap64 ((l0.length : Int) - 1)), (by first | rfl | (simp; done) | (simp [*]; done)), (by first | rfl | (simp; done) | (simp [*]; done)), (by first | rfl | (simp; done) | (simp [*]; done)), H', ⟨Nat.le_refl _⟩, ⟨by (with_reducible repeat (first | apply Kd.V_alloc | apply Kd.V_drewN | apply Kd.V_drew)); exact HO_0.out⟩, ⟨by (with_reducible repeat (first | refine blk_drewN ?_ _ | refine blk_drew ?_ | refine blk_alloc ?_ _)); exact BK273.out⟩, ⟨by repeat (first | (with_reducible first | exact HB.out | apply below_alloc | apply pw_below_drewN | apply below_drew1 | refine below_set ?_ GE273.out) | exact HB.out)⟩⟩
     case round =>
      clear H'
      try clear c1
      try clear c2
      try clear p2
      try clear c5
      try clear p6
      try clear c9
      try clear c9b0
      try clear c10
      try clear c10b0
      try clear c11
      try clear c11b0
      try clear c12
      try clear hcz13_0
      try clear hcz13_1
      try clear hfz13_0
      try clear hfz13_1
      try clear p2
      obtain ⟨x9_2, x10_2, x11_2, rfl, rfl, rfl, HA, HK2, HO_0, BK273, HB⟩ := hrel
      cases gk with
      | zero => exact absurd HA.out (by simp [sextonref09_Make.l0])
      | succ k2 =>
       have H := HA.out
       clear HA
       simp only [sextonref09_Make.l0] at H
       by_cases c14 : x11_2 ≥ 0
       ·
        rw [if_pos c14] at H
        have c14b0 : decide (0 ≤ x11_2) = true := decide_eq_true c14
        clear c14
        by_cases c15 : 0 ≤ x11_2
        ·
         rw [if_pos c15] at H
         have c15b0 : decide (0 ≤ x11_2) = true := decide_eq_true c15
         clear c15
         by_cases c16 : x11_2 < (l0.length : Int)
         ·
          rw [if_pos c16] at H
          have c16b0 : decide (x11_2 < (l0.length : Int)) = true := decide_eq_true c16
          clear c16
          by_cases c17 : ((rd_T30 l0 x11_2).f1.f0) = 0
          ·
           rw [if_pos c17] at H
           have c17b0 : (((rd_T30 l0 x11_2).f1.f0) == 0) = true := beq_iff_eq.mpr c17
           have c17b1 : (((rd_T30 l0 x11_2).f1.f0) != 0) = false := bne_eq_false_iff_eq.mpr c17
           clear c17
           by_cases c18 : ((rd_T30 l0 x11_2).f0) < 1099511627776
           ·
            rw [if_pos c18] at H
            have c18b0 : decide (((rd_T30 l0 x11_2).f0) < 1099511627776) = true := decide_eq_true c18
            clear c18
            have H' := Aside0.mk H
            clear H
            have p275 : 0 ≤ (x11_2 : Int) := of_decide_eq_true (by first | (with_reducible assumption) | assumption)
            have q275 : x11_2 < (l0.length : Int) := of_decide_eq_true (by first | (with_reducible assumption) | assumption)
            obtain ⟨ad275, A275_5, c275_5, A275_6, c275_6, e275, hx275_0, hx275_1, hx275_2, hx275_3, hx275_4, hx275_5, hx275_6, hx275_7, hl275_5, hi275_5, hl275_6, hi275_6⟩ := at_T30 (Kd.V_reads' HO_0.out).2.2 x11_2 p275 q275
            cases e275
            obtain ⟨ce275, hce275, hMe275, hcc275⟩ := Kd.V_get HO_0.out z30 x11_2 p275 (by first | exact q275 | exact of_decide_eq_true (by first | (with_reducible assumption) | assumption) | (have e_ := (Kd.V_reads' HO_0.out).1; omega))
            obtain ⟨ua275_5, uc275_5, ua275_6, uc275_6, rfl, ul275_5, ge275_5, ul275_6, ge275_6⟩ := k30_openF hMe275
            have hv275_5 := hcc275 5 _ rfl
            rw [add_field _ _ 5 (by omega)] at hv275_5
            replace hv275_5 := Option.some.inj (hv275_5.symm.trans hx275_5)
            injection hv275_5 with hva_ hvn_ hvc_
            rw [hva_] at ge275_5
            rw [hvc_] at ul275_5
            have HL275_5 := Aside0.mk (show Kd.V k73 73 _ w.heap.size _ _ ((rd_T30 l0 x11_2).f2) from Kd.V_mk ul275_5 ge275_5)
            clear hva_ hvn_ hvc_ ge275_5 ul275_5
            have hv275_6 := hcc275 6 _ rfl
            rw [add_field _ _ 6 (by omega)] at hv275_6
            replace hv275_6 := Option.some.inj (hv275_6.symm.trans hx275_6)
            injection hv275_6 with hva_ hvn_ hvc_
            rw [hva_] at ge275_6
            rw [hvc_] at ul275_6
            have HL275_6 := Aside0.mk (show Kd.V k75 75 _ w.heap.size _ _ ((rd_T30 l0 x11_2).f3) from Kd.V_mk ul275_6 ge275_6)
            clear hva_ hvn_ hvc_ ge275_6 ul275_6
            clear hcc275 hce275
            have HR275_5 := Aside0.mk hi275_5
            have HC275_5 := Aside0.mk hl275_5
            clear hi275_5 hl275_5
            have HR275_6 := Aside0.mk hi275_6
            have HC275_6 := Aside0.mk hl275_6
            clear hi275_6 hl275_6
            replace p275 := eq_true p275
            replace q275 := eq_true q275
            have p276 : 0 ≤ (x11_2 : Int) := of_decide_eq_true (by first | (with_reducible assumption) | assumption)
            have q276 : x11_2 < (l0.length : Int) := of_decide_eq_true (by first | (with_reducible assumption) | assumption)
            obtain ⟨ad276, A276_5, c276_5, A276_6, c276_6, e276, hx276_0, hx276_1, hx276_2, hx276_3, hx276_4, hx276_5, hx276_6, hx276_7, hl276_5, hi276_5, hl276_6, hi276_6⟩ := at_T30 (Kd.V_reads' HO_0.out).2.2 x11_2 p276 q276
            obtain rfl : ad275 = ad276 := (by injection e276)
            obtain ⟨ce276, hce276, hMe276, hcc276⟩ := Kd.V_get HO_0.out z30 x11_2 p276 (by first | exact q276 | exact of_decide_eq_true (by first | (with_reducible assumption) | assumption) | (have e_ := (Kd.V_reads' HO_0.out).1; omega))
            obtain ⟨ua276_5, uc276_5, ua276_6, uc276_6, rfl, ul276_5, ge276_5, ul276_6, ge276_6⟩ := k30_openF hMe276
            have hv276_5 := hcc276 5 _ rfl
            rw [add_field _ _ 5 (by omega)] at hv276_5
            replace hv276_5 := Option.some.inj (hv276_5.symm.trans hx276_5)
            injection hv276_5 with hva_ hvn_ hvc_
            rw [hva_] at ge276_5
            rw [hvc_] at ul276_5
            have HL276_5 := Aside0.mk (show Kd.V k73 73 _ w.heap.size _ _ ((rd_T30 l0 x11_2).f2) from Kd.V_mk ul276_5 ge276_5)
            clear hva_ hvn_ hvc_ ge276_5 ul276_5
            have hv276_6 := hcc276 6 _ rfl
            rw [add_field _ _ 6 (by omega)] at hv276_6
            replace hv276_6 := Option.some.inj (hv276_6.symm.trans hx276_6)
            injection hv276_6 with hva_ hvn_ hvc_
            rw [hva_] at ge276_6
            rw [hvc_] at ul276_6
            have HL276_6 := Aside0.mk (show Kd.V k75 75 _ w.heap.size _ _ ((rd_T30 l0 x11_2).f3) from Kd.V_mk ul276_6 ge276_6)
            clear hva_ hvn_ hvc_ ge276_6 ul276_6
            clear hcc276 hce276
            have HR276_5 := Aside0.mk hi276_5
            have HC276_5 := Aside0.mk hl276_5
            clear hi276_5 hl276_5
            have HR276_6 := Aside0.mk hi276_6
            have HC276_6 := Aside0.mk hl276_6
            clear hi276_6 hl276_6
            replace p276 := eq_true p276
            replace q276 := eq_true q276
            have ea_ := Option.some.inj (hx275_5.symm.trans hx276_5)
            injection ea_ with ea_ en_ ec_
            subst ea_
            subst ec_
            clear en_
            have ea_ := Option.some.inj (hx275_6.symm.trans hx276_6)
            injection ea_ with ea_ en_ ec_
            subst ea_
            subst ec_
            clear en_
            have p277 : 0 ≤ (x11_2 : Int) := of_decide_eq_true (by first | (with_reducible assumption) | assumption)
            have q277 : x11_2 < (l0.length : Int) := of_decide_eq_true (by first | (with_reducible assumption) | assumption)
            obtain ⟨ad277, A277_5, c277_5, A277_6, c277_6, e277, hx277_0, hx277_1, hx277_2, hx277_3, hx277_4, hx277_5, hx277_6, hx277_7, hl277_5, hi277_5, hl277_6, hi277_6⟩ := at_T30 (Kd.V_reads' HO_0.out).2.2 x11_2 p277 q277
            obtain rfl : ad275 = ad277 := (by injection e277)
            obtain ⟨ce277, hce277, hMe277, hcc277⟩ := Kd.V_get HO_0.out z30 x11_2 p277 (by first | exact q277 | exact of_decide_eq_true (by first | (with_reducible assumption) | assumption) | (have e_ := (Kd.V_reads' HO_0.out).1; omega))
            obtain ⟨ua277_5, uc277_5, ua277_6, uc277_6, rfl, ul277_5, ge277_5, ul277_6, ge277_6⟩ := k30_openF hMe277
            have hv277_5 := hcc277 5 _ rfl
            rw [add_field _ _ 5 (by omega)] at hv277_5
            replace hv277_5 := Option.some.inj (hv277_5.symm.trans hx277_5)
            injection hv277_5 with hva_ hvn_ hvc_
            rw [hva_] at ge277_5
            rw [hvc_] at ul277_5
            have HL277_5 := Aside0.mk (show Kd.V k73 73 _ w.heap.size _ _ ((rd_T30 l0 x11_2).f2) from Kd.V_mk ul277_5 ge277_5)
            clear hva_ hvn_ hvc_ ge277_5 ul277_5
            have hv277_6 := hcc277 6 _ rfl
            rw [add_field _ _ 6 (by omega)] at hv277_6
            replace hv277_6 := Option.some.inj (hv277_6.symm.trans hx277_6)
            injection hv277_6 with hva_ hvn_ hvc_
            rw [hva_] at ge277_6
            rw [hvc_] at ul277_6
            have HL277_6 := Aside0.mk (show Kd.V k75 75 _ w.heap.size _ _ ((rd_T30 l0 x11_2).f3) from Kd.V_mk ul277_6 ge277_6)
            clear hva_ hvn_ hvc_ ge277_6 ul277_6
            clear hcc277 hce277
            have HR277_5 := Aside0.mk hi277_5
            have HC277_5 := Aside0.mk hl277_5
            clear hi277_5 hl277_5
            have HR277_6 := Aside0.mk hi277_6
            have HC277_6 := Aside0.mk hl277_6
            clear hi277_6 hl277_6
            replace p277 := eq_true p277
            replace q277 := eq_true q277
            have ea_ := Option.some.inj (hx275_5.symm.trans hx277_5)
            injection ea_ with ea_ en_ ec_
            subst ea_
            subst ec_
            clear en_
            have ea_ := Option.some.inj (hx275_6.symm.trans hx277_6)
            injection ea_ with ea_ en_ ec_
            subst ea_
            subst ec_
            clear en_
            go_wp2
            go_roundg k2
            case measure => have := HJ5.out; have := HK2.out; omega
            case rel => exact ⟨(x11_2), (wrap64 (((rd_T30 l0 x11_2).f0) + 1)), (wrap64 (x11_2 - 1)), (by first | rfl | (simp; done) | (simp [*]; done)), (by first | rfl | (simp; done) | (simp [*]; done)), (by first | rfl | (simp; done) | (simp [*]; done)), H', ⟨by have := HJ5.out; have := HK2.out; omega⟩, ⟨by (with_reducible repeat (first | apply Kd.V_alloc | apply Kd.V_drewN | apply Kd.V_drew)); exact HO_0.out⟩, ⟨by (with_reducible repeat (first | refine blk_drewN ?_ _ | refine blk_drew ?_ | refine blk_alloc ?_ _)); exact BK273.out⟩, ⟨by repeat (first | (with_reducible first | exact HB.out | apply below_alloc | apply pw_below_drewN | apply below_drew1 | refine below_set ?_ GE273.out) | exact HB.out)⟩⟩
           ·
            rw [if_neg c18] at H
            have c18b0 : decide (((rd_T30 l0 x11_2).f0) < 1099511627776) = false := decide_eq_false c18
            clear c18
            have H' := Aside0.mk H
            clear H
            have p275 : 0 ≤ (x11_2 : Int) := of_decide_eq_true (by first | (with_reducible assumption) | assumption)
            have q275 : x11_2 < (l0.length : Int) := of_decide_eq_true (by first | (with_reducible assumption) | assumption)
            obtain ⟨ad275, A275_5, c275_5, A275_6, c275_6, e275, hx275_0, hx275_1, hx275_2, hx275_3, hx275_4, hx275_5, hx275_6, hx275_7, hl275_5, hi275_5, hl275_6, hi275_6⟩ := at_T30 (Kd.V_reads' HO_0.out).2.2 x11_2 p275 q275
            cases e275
            obtain ⟨ce275, hce275, hMe275, hcc275⟩ := Kd.V_get HO_0.out z30 x11_2 p275 (by first | exact q275 | exact of_decide_eq_true (by first | (with_reducible assumption) | assumption) | (have e_ := (Kd.V_reads' HO_0.out).1; omega))
            obtain ⟨ua275_5, uc275_5, ua275_6, uc275_6, rfl, ul275_5, ge275_5, ul275_6, ge275_6⟩ := k30_openF hMe275
            have hv275_5 := hcc275 5 _ rfl
            rw [add_field _ _ 5 (by omega)] at hv275_5
            replace hv275_5 := Option.some.inj (hv275_5.symm.trans hx275_5)
            injection hv275_5 with hva_ hvn_ hvc_
            rw [hva_] at ge275_5
            rw [hvc_] at ul275_5
            have HL275_5 := Aside0.mk (show Kd.V k73 73 _ w.heap.size _ _ ((rd_T30 l0 x11_2).f2) from Kd.V_mk ul275_5 ge275_5)
            clear hva_ hvn_ hvc_ ge275_5 ul275_5
            have hv275_6 := hcc275 6 _ rfl
            rw [add_field _ _ 6 (by omega)] at hv275_6
            replace hv275_6 := Option.some.inj (hv275_6.symm.trans hx275_6)
            injection hv275_6 with hva_ hvn_ hvc_
            rw [hva_] at ge275_6
            rw [hvc_] at ul275_6
            have HL275_6 := Aside0.mk (show Kd.V k75 75 _ w.heap.size _ _ ((rd_T30 l0 x11_2).f3) from Kd.V_mk ul275_6 ge275_6)
            clear hva_ hvn_ hvc_ ge275_6 ul275_6
            clear hcc275 hce275
            have HR275_5 := Aside0.mk hi275_5
            have HC275_5 := Aside0.mk hl275_5
            clear hi275_5 hl275_5
            have HR275_6 := Aside0.mk hi275_6
            have HC275_6 := Aside0.mk hl275_6
            clear hi275_6 hl275_6
            replace p275 := eq_true p275
            replace q275 := eq_true q275
            have p276 : 0 ≤ (x11_2 : Int) := of_decide_eq_true (by first | (with_reducible assumption) | assumption)
            have q276 : x11_2 < (l0.length : Int) := of_decide_eq_true (by first | (with_reducible assumption) | assumption)
            obtain ⟨ad276, A276_5, c276_5, A276_6, c276_6, e276, hx276_0, hx276_1, hx276_2, hx276_3, hx276_4, hx276_5, hx276_6, hx276_7, hl276_5, hi276_5, hl276_6, hi276_6⟩ := at_T30 (Kd.V_reads' HO_0.out).2.2 x11_2 p276 q276
            obtain rfl : ad275 = ad276 := (by injection e276)
            obtain ⟨ce276, hce276, hMe276, hcc276⟩ := Kd.V_get HO_0.out z30 x11_2 p276 (by first | exact q276 | exact of_decide_eq_true (by first | (with_reducible assumption) | assumption) | (have e_ := (Kd.V_reads' HO_0.out).1; omega))
            obtain ⟨ua276_5, uc276_5, ua276_6, uc276_6, rfl, ul276_5, ge276_5, ul276_6, ge276_6⟩ := k30_openF hMe276
            have hv276_5 := hcc276 5 _ rfl
            rw [add_field _ _ 5 (by omega)] at hv276_5
            replace hv276_5 := Option.some.inj (hv276_5.symm.trans hx276_5)
            injection hv276_5 with hva_ hvn_ hvc_
            rw [hva_] at ge276_5
            rw [hvc_] at ul276_5
            have HL276_5 := Aside0.mk (show Kd.V k73 73 _ w.heap.size _ _ ((rd_T30 l0 x11_2).f2) from Kd.V_mk ul276_5 ge276_5)
            clear hva_ hvn_ hvc_ ge276_5 ul276_5
            have hv276_6 := hcc276 6 _ rfl
            rw [add_field _ _ 6 (by omega)] at hv276_6
            replace hv276_6 := Option.some.inj (hv276_6.symm.trans hx276_6)
            injection hv276_6 with hva_ hvn_ hvc_
            rw [hva_] at ge276_6
            rw [hvc_] at ul276_6
            have HL276_6 := Aside0.mk (show Kd.V k75 75 _ w.heap.size _ _ ((rd_T30 l0 x11_2).f3) from Kd.V_mk ul276_6 ge276_6)
            clear hva_ hvn_ hvc_ ge276_6 ul276_6
            clear hcc276 hce276
            have HR276_5 := Aside0.mk hi276_5
            have HC276_5 := Aside0.mk hl276_5
            clear hi276_5 hl276_5
            have HR276_6 := Aside0.mk hi276_6
            have HC276_6 := Aside0.mk hl276_6
            clear hi276_6 hl276_6
            replace p276 := eq_true p276
            replace q276 := eq_true q276
            have ea_ := Option.some.inj (hx275_5.symm.trans hx276_5)
            injection ea_ with ea_ en_ ec_
            subst ea_
            subst ec_
            clear en_
            have ea_ := Option.some.inj (hx275_6.symm.trans hx276_6)
            injection ea_ with ea_ en_ ec_
            subst ea_
            subst ec_
            clear en_
            go_wp2
            go_roundg k2
            case measure => have := HJ5.out; have := HK2.out; omega
            case rel => exact ⟨(x9_2), (x10_2), (wrap64 (x11_2 - 1)), (by first | rfl | (simp; done) | (simp [*]; done)), (by first | rfl | (simp; done) | (simp [*]; done)), (by first | rfl | (simp; done) | (simp [*]; done)), H', ⟨by have := HJ5.out; have := HK2.out; omega⟩, ⟨by (with_reducible repeat (first | apply Kd.V_alloc | apply Kd.V_drewN | apply Kd.V_drew)); exact HO_0.out⟩, ⟨by (with_reducible repeat (first | refine blk_drewN ?_ _ | refine blk_drew ?_ | refine blk_alloc ?_ _)); exact BK273.out⟩, ⟨by repeat (first | (with_reducible first | exact HB.out | apply below_alloc | apply pw_below_drewN | apply below_drew1 | refine below_set ?_ GE273.out) | exact HB.out)⟩⟩
          ·
           rw [if_neg c17] at H
           have c17b0 : (((rd_T30 l0 x11_2).f1.f0) == 0) = false := beq_eq_false_iff_ne.mpr c17
           have c17b1 : (((rd_T30 l0 x11_2).f1.f0) != 0) = true := bne_iff_ne.mpr c17
           have H' := Aside0.mk H
           clear H
           have p275 : 0 ≤ (x11_2 : Int) := of_decide_eq_true (by first | (with_reducible assumption) | assumption)
           have q275 : x11_2 < (l0.length : Int) := of_decide_eq_true (by first | (with_reducible assumption) | assumption)
           obtain ⟨ad275, A275_5, c275_5, A275_6, c275_6, e275, hx275_0, hx275_1, hx275_2, hx275_3, hx275_4, hx275_5, hx275_6, hx275_7, hl275_5, hi275_5, hl275_6, hi275_6⟩ := at_T30 (Kd.V_reads' HO_0.out).2.2 x11_2 p275 q275
           cases e275
           obtain ⟨ce275, hce275, hMe275, hcc275⟩ := Kd.V_get HO_0.out z30 x11_2 p275 (by first | exact q275 | exact of_decide_eq_true (by first | (with_reducible assumption) | assumption) | (have e_ := (Kd.V_reads' HO_0.out).1; omega))
           obtain ⟨ua275_5, uc275_5, ua275_6, uc275_6, rfl, ul275_5, ge275_5, ul275_6, ge275_6⟩ := k30_openF hMe275
           have hv275_5 := hcc275 5 _ rfl
           rw [add_field _ _ 5 (by omega)] at hv275_5
           replace hv275_5 := Option.some.inj (hv275_5.symm.trans hx275_5)
           injection hv275_5 with hva_ hvn_ hvc_
           rw [hva_] at ge275_5
           rw [hvc_] at ul275_5
           have HL275_5 := Aside0.mk (show Kd.V k73 73 _ w.heap.size _ _ ((rd_T30 l0 x11_2).f2) from Kd.V_mk ul275_5 ge275_5)
           clear hva_ hvn_ hvc_ ge275_5 ul275_5
           have hv275_6 := hcc275 6 _ rfl
           rw [add_field _ _ 6 (by omega)] at hv275_6
           replace hv275_6 := Option.some.inj (hv275_6.symm.trans hx275_6)
           injection hv275_6 with hva_ hvn_ hvc_
           rw [hva_] at ge275_6
           rw [hvc_] at ul275_6
           have HL275_6 := Aside0.mk (show Kd.V k75 75 _ w.heap.size _ _ ((rd_T30 l0 x11_2).f3) from Kd.V_mk ul275_6 ge275_6)
           clear hva_ hvn_ hvc_ ge275_6 ul275_6
           clear hcc275 hce275
           have HR275_5 := Aside0.mk hi275_5
           have HC275_5 := Aside0.mk hl275_5
           clear hi275_5 hl275_5
           have HR275_6 := Aside0.mk hi275_6
           have HC275_6 := Aside0.mk hl275_6
           clear hi275_6 hl275_6
           replace p275 := eq_true p275
           replace q275 := eq_true q275
           go_wp2
           go_roundg k2
           case measure => have := HJ5.out; have := HK2.out; omega
           case rel => exact ⟨(x9_2), (x10_2), (wrap64 (x11_2 - 1)), (by first | rfl | (simp; done) | (simp [*]; done)), (by first | rfl | (simp; done) | (simp [*]; done)), (by first | rfl | (simp; done) | (simp [*]; done)), H', ⟨by have := HJ5.out; have := HK2.out; omega⟩, ⟨by (with_reducible repeat (first | apply Kd.V_alloc | apply Kd.V_drewN | apply Kd.V_drew)); exact HO_0.out⟩, ⟨by (with_reducible repeat (first | refine blk_drewN ?_ _ | refine blk_drew ?_ | refine blk_alloc ?_ _)); exact BK273.out⟩, ⟨by repeat (first | (with_reducible first | exact HB.out | apply below_alloc | apply pw_below_drewN | apply below_drew1 | refine below_set ?_ GE273.out) | exact HB.out)⟩⟩
         ·
          rw [if_neg c16] at H
          exact absurd H (by simp)
        ·
         rw [if_neg c15] at H
         exact absurd H (by simp)
       ·
        rw [if_neg c14] at H
        have c14b0 : decide (0 ≤ x11_2) = false := decide_eq_false c14
        clear c14
        by_cases c19 : x9_2 < 0
        ·
         rw [if_pos c19] at H
         have c19b0 : decide (x9_2 < 0) = true := decide_eq_true c19
         clear c19
         by_cases c20 : (l0.length : Int) = 24
         ·
          rw [if_pos c20] at H
          have c20b0 : ((l0.length : Int) == 24) = true := beq_iff_eq.mpr c20
          have c20b1 : ((l0.length : Int) != 24) = false := bne_eq_false_iff_eq.mpr c20
          clear c20
          simp only [Option.some.injEq, Prod.mk.injEq] at H
          obtain ⟨rfl, rfl, rfl, rfl⟩ := H
          have hcz21_0 : wr.cell? ⟨gb273, 0, none⟩ = some (.int .i64 0) := (blk_cell BK273.out 0).trans rfl
          have hcz21_1 : wr.cell? ⟨gb273, 1, none⟩ = some (.int .i64 0) := (blk_cell BK273.out 1).trans rfl
          have hfz21_0 := blk_frozen BK273.out 0
          have hfz21_1 := blk_frozen BK273.out 1
          go_wp2
          refine bodyPost_ret (results_list (rs := [.tmp 6, .cell 7 24, .tmp 8]) rfl (by simp) (.tmp (.cell gb273 24 #[.int .i64 0, .int .i64 0] (0, 0) _ rfl (by (with_reducible repeat (first | refine blk_drewN ?_ _ | refine blk_drew ?_ | refine blk_alloc ?_ _)); refine blk_put (cs := #[.int .i64 0, .int .i64 0]) ?_ 1 _ rfl; (with_reducible repeat (first | refine blk_drewN ?_ _ | refine blk_drew ?_ | refine blk_alloc ?_ _)); refine blk_put (cs := #[.int .i64 0, .int .i64 0]) ?_ 0 _ rfl; (with_reducible repeat (first | refine blk_drewN ?_ _ | refine blk_drew ?_ | refine blk_alloc ?_ _)); exact BK273.out) Try.underlying24 rfl (by kernel_rfl) (.tmp .nil)))) rfl ?_
          exact ⟨_, by first | rfl | (simp [errW_none, errW_some] <;> rfl) | (simp [*, errW_none, errW_some] <;> rfl), by first | exact Kd.S_nil _ _ _ _ _ | exact Kd.N_nil _ _ _ _ _ | exact Kd.V_nil _ _ _ _ _ | exact Kd.Q_nil _ _ _ _ _ | exact Kd.R_nil _ _ _ _ _, by repeat (first | (with_reducible first | exact HB.out | apply below_alloc | apply pw_below_drewN | apply below_drew1 | refine below_set ?_ GE273.out) | exact HB.out)⟩
         ·
          rw [if_neg c20] at H
          have c20b0 : ((l0.length : Int) == 24) = false := beq_eq_false_iff_ne.mpr c20
          have c20b1 : ((l0.length : Int) != 24) = true := bne_iff_ne.mpr c20
          replace H := Option.bind_eq_some_iff.mp H
          obtain ⟨t279, A220, H⟩ := H
          replace H : (some (t279, (l0.length : Int), x10_2, 0)) = some (r1, r2, r3, r4) := H
          have A22 := Aside0.mk A220
          clear A220
          simp only [Option.some.injEq, Prod.mk.injEq] at H
          obtain ⟨rfl, rfl, rfl, rfl⟩ := H
          go_wp2_with (first | ((with_reducible refine gate_dst (N := 12) rfl ?_); refine box_event ?hg (N := 12) ?hd (cs := #[.int .i64 0, .int .i64 0, .int .i64 0, .int .i64 0, .int .i64 0, .slice none 0 0, .slice none 0 0, .int .i64 0]) (t := 30) ?hr ?_; (case hd => rfl); (case hg => rfl); (case hr => first | (go_simp; done) | (go_simp; rfl)); intro gb278 hg w23 hbox hb; have n0_ := Aside0.mk (Kd.V_below (Kd.V_elderB (by (with_reducible repeat (first | apply Kd.V_alloc | apply Kd.V_drewN | apply Kd.V_drew)); exact HO_0.out) gb278 (Nat.le_of_eq hg.symm)) hb); have n1_ := Aside0.mk (blk_below (g := gb273) (o := .cells #[.int .i64 0, .int .i64 0] 24 (0, 0)) (by (with_reducible repeat (first | refine blk_drewN ?_ _ | refine blk_drew ?_ | refine blk_alloc ?_ _)); exact BK273.out) hb); have n2_ := Aside0.mk (below_step (by repeat (first | (with_reducible first | exact HB.out | apply below_alloc | apply pw_below_drewN | apply below_drew1 | refine below_set ?_ GE273.out) | exact HB.out)) hb); have n3_ := Aside0.mk (hbox); have n4_ := Aside0.mk ((by rw [hg]; exact (below_size (by repeat (first | (with_reducible first | exact HB.out | apply below_alloc | apply pw_below_drewN | apply below_drew1 | refine below_set ?_ GE273.out) | exact HB.out))) : w.heap.size ≤ gb278)); have n5_ := Aside0.mk ((by rw [hg]; exact (below_size (by repeat (first | (with_reducible first | exact HB.out | apply below_alloc | apply pw_below_drewN | apply below_drew1 | refine below_set ?_ GE273.out) | exact HB.out))) : w.heap.size ≤ gb278)); have n6_ := Aside0.mk ((by rw [hg]; exact Nat.ne_of_lt (blk_lt (g := gb273) (o := .cells #[.int .i64 0, .int .i64 0] 24 (0, 0)) (by (with_reducible repeat (first | refine blk_drewN ?_ _ | refine blk_drew ?_ | refine blk_alloc ?_ _)); exact BK273.out)) : gb273 ≠ gb278)); have n7_ := Aside0.mk ((by rw [hg]; exact Nat.ne_of_gt (blk_lt (g := gb273) (o := .cells #[.int .i64 0, .int .i64 0] 24 (0, 0)) (by (with_reducible repeat (first | refine blk_drewN ?_ _ | refine blk_drew ?_ | refine blk_alloc ?_ _)); exact BK273.out)) : gb278 ≠ gb273)); clear HO_0; clear BK273; clear HB; have HO_0 := n0_; have BK273 := n1_; have HB := n2_; have BK278 := n3_; have GW278 := n4_; have GE278 := n5_; have NB273_278 := n6_; have NB278_273 := n7_; clear n0_ n1_ n2_ n3_ n4_ n5_ n6_ n7_; clear hb hbox hg; have hnb24 := NB278_273.out; have hnc24 := NB273_278.out; have hcz25_0 : w23.cell? ⟨gb278, 0, none⟩ = some (.int .i64 0) := (blk_cell BK278.out 0).trans rfl; have hcz25_1 : w23.cell? ⟨gb278, 1, none⟩ = some (.int .i64 0) := (blk_cell BK278.out 1).trans rfl; have hcz25_2 : w23.cell? ⟨gb278, 2, none⟩ = some (.int .i64 0) := (blk_cell BK278.out 2).trans rfl; have hcz25_3 : w23.cell? ⟨gb278, 3, none⟩ = some (.int .i64 0) := (blk_cell BK278.out 3).trans rfl; have hcz25_4 : w23.cell? ⟨gb278, 4, none⟩ = some (.int .i64 0) := (blk_cell BK278.out 4).trans rfl; have hcz25_5 : w23.cell? ⟨gb278, 5, none⟩ = some (.slice none 0 0) := (blk_cell BK278.out 5).trans rfl; have hcz25_6 : w23.cell? ⟨gb278, 6, none⟩ = some (.slice none 0 0) := (blk_cell BK278.out 6).trans rfl; have hcz25_7 : w23.cell? ⟨gb278, 7, none⟩ = some (.int .i64 0) := (blk_cell BK278.out 7).trans rfl; have hfz25_0 := blk_frozen BK278.out 0; have hfz25_1 := blk_frozen BK278.out 1; have hfz25_2 := blk_frozen BK278.out 2; have hfz25_3 := blk_frozen BK278.out 3; have hfz25_4 := blk_frozen BK278.out 4; have hfz25_5 := blk_frozen BK278.out 5; have hfz25_6 := blk_frozen BK278.out 6; have hfz25_7 := blk_frozen BK278.out 7) | ((with_reducible refine gate_store (t := 30) (p := 12) rfl ?_); refine store_event (t := 30) (p := 12) (v := ?vo_w26) (w1 := ((((((((w23.setCell ⟨gb278, 0, none⟩ (.int .i64 x10_2)).setCell ⟨gb278, 1, none⟩ (.int .i64 a1)).setCell ⟨gb278, 2, none⟩ (.int .i64 1)).setCell ⟨gb278, 3, none⟩ (.int .i64 0)).setCell ⟨gb278, 4, none⟩ (.int .i64 a2)).setCell ⟨gb278, 5, none⟩ (.slice none 0 0)).setCell ⟨gb278, 6, none⟩ (.slice none 0 0)).setCell ⟨gb278, 7, none⟩ (.int .i64 0))) ?hg ?ho ?hn ?hr ?_; (case ho => rfl); (case hg => rfl); (case hn => rfl); (case hr => first | (go_simp; done) | (go_simp; rfl)); intro w26 hw; have n0_ : Aside0 (Kd.V k30 30 w26 w.heap.size (fun k_ => (P0_ k_ ∨ w.heap.size ≤ k_) ∧ k_ ≠ gb273 ∧ k_ ≠ gb278) (.slice A0 l0.length c0) l0) := ⟨(by rw [hw]; exact (by (with_reducible repeat (first | apply Kd.V_alloc | apply Kd.V_drewN | apply Kd.V_drew)); exact Kd.V_mono (Kd.V_far (p := ⟨gb278, 7, none⟩) (Kd.V_far (p := ⟨gb278, 6, none⟩) (Kd.V_far (p := ⟨gb278, 5, none⟩) (Kd.V_far (p := ⟨gb278, 4, none⟩) (Kd.V_far (p := ⟨gb278, 3, none⟩) (Kd.V_far (p := ⟨gb278, 2, none⟩) (Kd.V_far (p := ⟨gb278, 1, none⟩) (Kd.V_far (p := ⟨gb278, 0, none⟩) (Kd.V_mono HO_0.out (fun k_ hk => (⟨hk, hk.2⟩ : _ ∧ k_ ≠ gb278))) (fun _ hk => hk.2) (.int .i64 x10_2)) (fun _ hk => hk.2) (.int .i64 a1)) (fun _ hk => hk.2) (.int .i64 1)) (fun _ hk => hk.2) (.int .i64 0)) (fun _ hk => hk.2) (.int .i64 a2)) (fun _ hk => hk.2) (.slice none 0 0)) (fun _ hk => hk.2) (.slice none 0 0)) (fun _ hk => hk.2) (.int .i64 0)) (fun _ hk => ⟨hk.1.1.1, ⟨hk.1.1.2, hk.1.2⟩⟩)))⟩; have n1_ : Aside0 (w26.heap[gb273]? = some (.cells #[.int .i64 0, .int .i64 0] 24 (0, 0))) := ⟨(by rw [hw]; exact (by (with_reducible repeat (first | refine blk_drewN ?_ _ | refine blk_drew ?_ | refine blk_alloc ?_ _)); refine blk_far ?_ NB273_278.out _; (with_reducible repeat (first | refine blk_drewN ?_ _ | refine blk_drew ?_ | refine blk_alloc ?_ _)); refine blk_far ?_ NB273_278.out _; (with_reducible repeat (first | refine blk_drewN ?_ _ | refine blk_drew ?_ | refine blk_alloc ?_ _)); refine blk_far ?_ NB273_278.out _; (with_reducible repeat (first | refine blk_drewN ?_ _ | refine blk_drew ?_ | refine blk_alloc ?_ _)); refine blk_far ?_ NB273_278.out _; (with_reducible repeat (first | refine blk_drewN ?_ _ | refine blk_drew ?_ | refine blk_alloc ?_ _)); refine blk_far ?_ NB273_278.out _; (with_reducible repeat (first | refine blk_drewN ?_ _ | refine blk_drew ?_ | refine blk_alloc ?_ _)); refine blk_far ?_ NB273_278.out _; (with_reducible repeat (first | refine blk_drewN ?_ _ | refine blk_drew ?_ | refine blk_alloc ?_ _)); refine blk_far ?_ NB273_278.out _; (with_reducible repeat (first | refine blk_drewN ?_ _ | refine blk_drew ?_ | refine blk_alloc ?_ _)); refine blk_far ?_ NB273_278.out _; (with_reducible repeat (first | refine blk_drewN ?_ _ | refine blk_drew ?_ | refine blk_alloc ?_ _)); exact BK273.out))⟩; have n2_ : Aside0 (w26.heap[gb278]? = some (.cells #[.int .i64 x10_2, .int .i64 a1, .int .i64 1, .int .i64 0, .int .i64 a2, .slice none 0 0, .slice none 0 0, .int .i64 0] 30 (0, 0))) := ⟨(by rw [hw]; exact (by (with_reducible repeat (first | refine blk_drewN ?_ _ | refine blk_drew ?_ | refine blk_alloc ?_ _)); refine blk_put (cs := #[.int .i64 x10_2, .int .i64 a1, .int .i64 1, .int .i64 0, .int .i64 a2, .slice none 0 0, .slice none 0 0, .int .i64 0]) ?_ 7 _ rfl; (with_reducible repeat (first | refine blk_drewN ?_ _ | refine blk_drew ?_ | refine blk_alloc ?_ _)); refine blk_put (cs := #[.int .i64 x10_2, .int .i64 a1, .int .i64 1, .int .i64 0, .int .i64 a2, .slice none 0 0, .slice none 0 0, .int .i64 0]) ?_ 6 _ rfl; (with_reducible repeat (first | refine blk_drewN ?_ _ | refine blk_drew ?_ | refine blk_alloc ?_ _)); refine blk_put (cs := #[.int .i64 x10_2, .int .i64 a1, .int .i64 1, .int .i64 0, .int .i64 a2, .slice none 0 0, .slice none 0 0, .int .i64 0]) ?_ 5 _ rfl; (with_reducible repeat (first | refine blk_drewN ?_ _ | refine blk_drew ?_ | refine blk_alloc ?_ _)); refine blk_put (cs := #[.int .i64 x10_2, .int .i64 a1, .int .i64 1, .int .i64 0, .int .i64 0, .slice none 0 0, .slice none 0 0, .int .i64 0]) ?_ 4 _ rfl; (with_reducible repeat (first | refine blk_drewN ?_ _ | refine blk_drew ?_ | refine blk_alloc ?_ _)); refine blk_put (cs := #[.int .i64 x10_2, .int .i64 a1, .int .i64 1, .int .i64 0, .int .i64 0, .slice none 0 0, .slice none 0 0, .int .i64 0]) ?_ 3 _ rfl; (with_reducible repeat (first | refine blk_drewN ?_ _ | refine blk_drew ?_ | refine blk_alloc ?_ _)); refine blk_put (cs := #[.int .i64 x10_2, .int .i64 a1, .int .i64 0, .int .i64 0, .int .i64 0, .slice none 0 0, .slice none 0 0, .int .i64 0]) ?_ 2 _ rfl; (with_reducible repeat (first | refine blk_drewN ?_ _ | refine blk_drew ?_ | refine blk_alloc ?_ _)); refine blk_put (cs := #[.int .i64 x10_2, .int .i64 0, .int .i64 0, .int .i64 0, .int .i64 0, .slice none 0 0, .slice none 0 0, .int .i64 0]) ?_ 1 _ rfl; (with_reducible repeat (first | refine blk_drewN ?_ _ | refine blk_drew ?_ | refine blk_alloc ?_ _)); refine blk_put (cs := #[.int .i64 0, .int .i64 0, .int .i64 0, .int .i64 0, .int .i64 0, .slice none 0 0, .slice none 0 0, .int .i64 0]) ?_ 0 _ rfl; (with_reducible repeat (first | refine blk_drewN ?_ _ | refine blk_drew ?_ | refine blk_alloc ?_ _)); exact BK278.out))⟩; have n3_ : Aside0 (Below w.heap.size w w26) := ⟨(by rw [hw]; exact (by repeat (first | (with_reducible first | exact HB.out | apply below_alloc | apply pw_below_drewN | apply below_drew1 | refine below_set ?_ GE273.out | refine below_set ?_ GE278.out) | exact HB.out)))⟩; clear hw; clear HO_0; clear BK273; clear BK278; clear HB; have HO_0 := n0_; have BK273 := n1_; have BK278 := n2_; have HB := n3_; clear n0_ n1_ n2_ n3_; have hcz27_0 : w26.cell? ⟨gb278, 0, none⟩ = some (.int .i64 x10_2) := (blk_cell BK278.out 0).trans rfl; have hcz27_1 : w26.cell? ⟨gb278, 1, none⟩ = some (.int .i64 a1) := (blk_cell BK278.out 1).trans rfl; have hcz27_2 : w26.cell? ⟨gb278, 2, none⟩ = some (.int .i64 1) := (blk_cell BK278.out 2).trans rfl; have hcz27_3 : w26.cell? ⟨gb278, 3, none⟩ = some (.int .i64 0) := (blk_cell BK278.out 3).trans rfl; have hcz27_4 : w26.cell? ⟨gb278, 4, none⟩ = some (.int .i64 a2) := (blk_cell BK278.out 4).trans rfl; have hcz27_5 : w26.cell? ⟨gb278, 5, none⟩ = some (.slice none 0 0) := (blk_cell BK278.out 5).trans rfl; have hcz27_6 : w26.cell? ⟨gb278, 6, none⟩ = some (.slice none 0 0) := (blk_cell BK278.out 6).trans rfl; have hcz27_7 : w26.cell? ⟨gb278, 7, none⟩ = some (.int .i64 0) := (blk_cell BK278.out 7).trans rfl; have hfz27_0 := blk_frozen BK278.out 0; have hfz27_1 := blk_frozen BK278.out 1; have hfz27_2 := blk_frozen BK278.out 2; have hfz27_3 := blk_frozen BK278.out 3; have hfz27_4 := blk_frozen BK278.out 4; have hfz27_5 := blk_frozen BK278.out 5; have hfz27_6 := blk_frozen BK278.out 6; have hfz27_7 := blk_frozen BK278.out 7) | ((with_reducible refine gate_callee (f := 33) rfl ?_); refine goesL_ (some 77) rfl rfl Try.func33 (by kernel_rfl) rfl #[.slice A0 l0.length c0, .int .i64 (l0.length : Int), .agg #[.int .i64 x10_2, .int .i64 a1, .int .i64 1, .int .i64 0, .int .i64 a2, .slice none 0 0, .slice none 0 0, .int .i64 0]] rfl (by (try simp only [List.map_toArray, List.map_cons, List.map_nil]); first | done | rfl | (simp only [List.length_drop, List.length_take]; rfl)) ?_; (refine (sextonref09_with.calls k2 (fun k_ => ((P0_ k_ ∨ w.heap.size ≤ k_) ∧ (k_ ≠ gb273 ∧ k_ ≠ gb278))) _ _ l0 (l0.length : Int) x10_2 a1 1 0 a2 (fun k_ => False) _ _ ([] : List (S73)) (fun k_ => False) _ _ ([] : List (S75)) 0 t279 _ ?side1 ?side2 ?side3 A22.out).mono ?_); (case side1 => exact HO_0.out); (case side2 => exact Kd.V_nil _ _ _ _ _); (case side3 => exact Kd.V_nil _ _ _ _ _); rintro e w28 ⟨v280, rfl, ho0, hb⟩; refine ⟨_, rfl, ?_⟩; have n0_ := Aside0.mk (Kd.V_elder' (by (with_reducible repeat (first | apply Kd.V_alloc | apply Kd.V_drewN | apply Kd.V_drew)); exact HO_0.out) (Kd.N_base ho0) hb); have n1_ := Aside0.mk (Kd.N_lower (Kd.N_mono (ok' := fun k_ => (P0_ k_ ∨ w.heap.size ≤ k_) ∧ k_ ≠ gb273 ∧ k_ ≠ gb278) ho0 (fun k_ hk_ => ⟨Or.elim hk_ (fun hs_ => Or.elim hs_ (fun hs_ => hs_.1) (fun hs_ => Or.elim hs_ (fun hs_ => (hs_).elim) (fun hs_ => (hs_).elim))) (fun hn_ => (.inr (Nat.le_trans (below_size (by repeat (first | (with_reducible first | exact HB.out | apply below_alloc | apply pw_below_drewN | apply below_drew1 | refine below_set ?_ GE273.out | refine below_set ?_ GE278.out) | exact HB.out))) hn_))), Or.elim hk_ (fun hs_ => Or.elim hs_ (fun hs_ => hs_.2.1) (fun hs_ => Or.elim hs_ (fun hs_ => (hs_).elim) (fun hs_ => (hs_).elim))) (fun hn_ => (Kd.freshB (g := gb273) (o := .cells #[.int .i64 0, .int .i64 0] 24 (0, 0)) (by (with_reducible repeat (first | refine blk_drewN ?_ _ | refine blk_drew ?_ | refine blk_alloc ?_ _)); exact BK273.out) k_ hn_)), Or.elim hk_ (fun hs_ => Or.elim hs_ (fun hs_ => hs_.2.2) (fun hs_ => Or.elim hs_ (fun hs_ => (hs_).elim) (fun hs_ => (hs_).elim))) (fun hn_ => (Kd.freshB (g := gb278) (o := .cells #[.int .i64 x10_2, .int .i64 a1, .int .i64 1, .int .i64 0, .int .i64 a2, .slice none 0 0, .slice none 0 0, .int .i64 0] 30 (0, 0)) (by (with_reducible repeat (first | refine blk_drewN ?_ _ | refine blk_drew ?_ | refine blk_alloc ?_ _)); exact BK278.out) k_ hn_))⟩)) (below_size (by repeat (first | (with_reducible first | exact HB.out | apply below_alloc | apply pw_below_drewN | apply below_drew1 | refine below_set ?_ GE273.out | refine below_set ?_ GE278.out) | exact HB.out)))); have n2_ := Aside0.mk (blk_below (g := gb273) (o := .cells #[.int .i64 0, .int .i64 0] 24 (0, 0)) (by (with_reducible repeat (first | refine blk_drewN ?_ _ | refine blk_drew ?_ | refine blk_alloc ?_ _)); exact BK273.out) hb); have n3_ := Aside0.mk (blk_below (g := gb278) (o := .cells #[.int .i64 x10_2, .int .i64 a1, .int .i64 1, .int .i64 0, .int .i64 a2, .slice none 0 0, .slice none 0 0, .int .i64 0] 30 (0, 0)) (by (with_reducible repeat (first | refine blk_drewN ?_ _ | refine blk_drew ?_ | refine blk_alloc ?_ _)); exact BK278.out) hb); have n4_ := Aside0.mk (below_step (by repeat (first | (with_reducible first | exact HB.out | apply below_alloc | apply pw_below_drewN | apply below_drew1 | refine below_set ?_ GE273.out | refine below_set ?_ GE278.out) | exact HB.out)) hb); clear HO_0; clear BK273; clear BK278; clear HB; have HO_0 := n0_; have HO281 := n1_; have BK273 := n2_; have BK278 := n3_; have HB := n4_; clear n0_ n1_ n2_ n3_ n4_; (try clear hb); (try clear hb2); (try clear hk); (try clear hi); (try clear ho0); have hcz29_0 : w28.cell? ⟨gb273, 0, none⟩ = some (.int .i64 0) := (blk_cell BK273.out 0).trans rfl; have hcz29_1 : w28.cell? ⟨gb273, 1, none⟩ = some (.int .i64 0) := (blk_cell BK273.out 1).trans rfl; have hfz29_0 := blk_frozen BK273.out 0; have hfz29_1 := blk_frozen BK273.out 1))
          refine bodyPost_ret (results_list (rs := [.tmp 6, .cell 7 24, .tmp 8]) rfl (by simp) (.tmp (.cell gb273 24 #[.int .i64 (l0.length : Int), .int .i64 x10_2] (0, 0) _ rfl (by (with_reducible repeat (first | refine blk_drewN ?_ _ | refine blk_drew ?_ | refine blk_alloc ?_ _)); refine blk_put (cs := #[.int .i64 (l0.length : Int), .int .i64 0]) ?_ 1 _ rfl; (with_reducible repeat (first | refine blk_drewN ?_ _ | refine blk_drew ?_ | refine blk_alloc ?_ _)); refine blk_put (cs := #[.int .i64 0, .int .i64 0]) ?_ 0 _ rfl; (with_reducible repeat (first | refine blk_drewN ?_ _ | refine blk_drew ?_ | refine blk_alloc ?_ _)); exact BK273.out) Try.underlying24 rfl (by kernel_rfl) (.tmp .nil)))) rfl ?_
          exact ⟨_, by first | rfl | (simp [errW_none, errW_some] <;> rfl) | (simp [*, errW_none, errW_some] <;> rfl), by (with_reducible repeat (first | apply Kd.N_alloc | apply Kd.N_drewN | apply Kd.N_drew)); exact Kd.N_mono (Kd.N_far (p := ⟨gb273, 1, none⟩) (Kd.N_far (p := ⟨gb273, 0, none⟩) (Kd.N_mono HO281.out (fun k_ hk => (⟨hk, hk.2.1⟩ : _ ∧ k_ ≠ gb273))) (fun _ hk => hk.2) (.int .i64 (l0.length : Int))) (fun _ hk => hk.2) (.int .i64 x10_2)) (fun _ hk => hk.1.1), by repeat (first | (with_reducible first | exact HB.out | apply below_alloc | apply pw_below_drewN | apply below_drew1 | refine below_set ?_ GE273.out | refine below_set ?_ GE278.out) | exact HB.out)⟩
        ·
         rw [if_neg c19] at H
         have c19b0 : decide (x9_2 < 0) = false := decide_eq_false c19
         clear c19
         replace H := Option.bind_eq_some_iff.mp H
         obtain ⟨t283, A300, H⟩ := H
         replace H : (some (t283, x9_2, x10_2, 0)) = some (r1, r2, r3, r4) := H
         have A30 := Aside0.mk A300
         clear A300
         simp only [Option.some.injEq, Prod.mk.injEq] at H
         obtain ⟨rfl, rfl, rfl, rfl⟩ := H
         go_wp2_with (first | ((with_reducible refine gate_dst (N := 12) rfl ?_); refine box_event ?hg (N := 12) ?hd (cs := #[.int .i64 0, .int .i64 0, .int .i64 0, .int .i64 0, .int .i64 0, .slice none 0 0, .slice none 0 0, .int .i64 0]) (t := 30) ?hr ?_; (case hd => rfl); (case hg => rfl); (case hr => first | (go_simp; done) | (go_simp; rfl)); intro gb282 hg w31 hbox hb; have n0_ := Aside0.mk (Kd.V_below (Kd.V_elderB (by (with_reducible repeat (first | apply Kd.V_alloc | apply Kd.V_drewN | apply Kd.V_drew)); exact HO_0.out) gb282 (Nat.le_of_eq hg.symm)) hb); have n1_ := Aside0.mk (blk_below (g := gb273) (o := .cells #[.int .i64 0, .int .i64 0] 24 (0, 0)) (by (with_reducible repeat (first | refine blk_drewN ?_ _ | refine blk_drew ?_ | refine blk_alloc ?_ _)); exact BK273.out) hb); have n2_ := Aside0.mk (below_step (by repeat (first | (with_reducible first | exact HB.out | apply below_alloc | apply pw_below_drewN | apply below_drew1 | refine below_set ?_ GE273.out) | exact HB.out)) hb); have n3_ := Aside0.mk (hbox); have n4_ := Aside0.mk ((by rw [hg]; exact (below_size (by repeat (first | (with_reducible first | exact HB.out | apply below_alloc | apply pw_below_drewN | apply below_drew1 | refine below_set ?_ GE273.out) | exact HB.out))) : w.heap.size ≤ gb282)); have n5_ := Aside0.mk ((by rw [hg]; exact (below_size (by repeat (first | (with_reducible first | exact HB.out | apply below_alloc | apply pw_below_drewN | apply below_drew1 | refine below_set ?_ GE273.out) | exact HB.out))) : w.heap.size ≤ gb282)); have n6_ := Aside0.mk ((by rw [hg]; exact Nat.ne_of_lt (blk_lt (g := gb273) (o := .cells #[.int .i64 0, .int .i64 0] 24 (0, 0)) (by (with_reducible repeat (first | refine blk_drewN ?_ _ | refine blk_drew ?_ | refine blk_alloc ?_ _)); exact BK273.out)) : gb273 ≠ gb282)); have n7_ := Aside0.mk ((by rw [hg]; exact Nat.ne_of_gt (blk_lt (g := gb273) (o := .cells #[.int .i64 0, .int .i64 0] 24 (0, 0)) (by (with_reducible repeat (first | refine blk_drewN ?_ _ | refine blk_drew ?_ | refine blk_alloc ?_ _)); exact BK273.out)) : gb282 ≠ gb273)); clear HO_0; clear BK273; clear HB; have HO_0 := n0_; have BK273 := n1_; have HB := n2_; have BK282 := n3_; have GW282 := n4_; have GE282 := n5_; have NB273_282 := n6_; have NB282_273 := n7_; clear n0_ n1_ n2_ n3_ n4_ n5_ n6_ n7_; clear hb hbox hg; have hnb32 := NB282_273.out; have hnc32 := NB273_282.out; have hcz33_0 : w31.cell? ⟨gb282, 0, none⟩ = some (.int .i64 0) := (blk_cell BK282.out 0).trans rfl; have hcz33_1 : w31.cell? ⟨gb282, 1, none⟩ = some (.int .i64 0) := (blk_cell BK282.out 1).trans rfl; have hcz33_2 : w31.cell? ⟨gb282, 2, none⟩ = some (.int .i64 0) := (blk_cell BK282.out 2).trans rfl; have hcz33_3 : w31.cell? ⟨gb282, 3, none⟩ = some (.int .i64 0) := (blk_cell BK282.out 3).trans rfl; have hcz33_4 : w31.cell? ⟨gb282, 4, none⟩ = some (.int .i64 0) := (blk_cell BK282.out 4).trans rfl; have hcz33_5 : w31.cell? ⟨gb282, 5, none⟩ = some (.slice none 0 0) := (blk_cell BK282.out 5).trans rfl; have hcz33_6 : w31.cell? ⟨gb282, 6, none⟩ = some (.slice none 0 0) := (blk_cell BK282.out 6).trans rfl; have hcz33_7 : w31.cell? ⟨gb282, 7, none⟩ = some (.int .i64 0) := (blk_cell BK282.out 7).trans rfl; have hfz33_0 := blk_frozen BK282.out 0; have hfz33_1 := blk_frozen BK282.out 1; have hfz33_2 := blk_frozen BK282.out 2; have hfz33_3 := blk_frozen BK282.out 3; have hfz33_4 := blk_frozen BK282.out 4; have hfz33_5 := blk_frozen BK282.out 5; have hfz33_6 := blk_frozen BK282.out 6; have hfz33_7 := blk_frozen BK282.out 7) | ((with_reducible refine gate_store (t := 30) (p := 12) rfl ?_); refine store_event (t := 30) (p := 12) (v := ?vo_w34) (w1 := ((((((((w31.setCell ⟨gb282, 0, none⟩ (.int .i64 x10_2)).setCell ⟨gb282, 1, none⟩ (.int .i64 a1)).setCell ⟨gb282, 2, none⟩ (.int .i64 1)).setCell ⟨gb282, 3, none⟩ (.int .i64 0)).setCell ⟨gb282, 4, none⟩ (.int .i64 a2)).setCell ⟨gb282, 5, none⟩ (.slice none 0 0)).setCell ⟨gb282, 6, none⟩ (.slice none 0 0)).setCell ⟨gb282, 7, none⟩ (.int .i64 0))) ?hg ?ho ?hn ?hr ?_; (case ho => rfl); (case hg => rfl); (case hn => rfl); (case hr => first | (go_simp; done) | (go_simp; rfl)); intro w34 hw; have n0_ : Aside0 (Kd.V k30 30 w34 w.heap.size (fun k_ => (P0_ k_ ∨ w.heap.size ≤ k_) ∧ k_ ≠ gb273 ∧ k_ ≠ gb282) (.slice A0 l0.length c0) l0) := ⟨(by rw [hw]; exact (by (with_reducible repeat (first | apply Kd.V_alloc | apply Kd.V_drewN | apply Kd.V_drew)); exact Kd.V_mono (Kd.V_far (p := ⟨gb282, 7, none⟩) (Kd.V_far (p := ⟨gb282, 6, none⟩) (Kd.V_far (p := ⟨gb282, 5, none⟩) (Kd.V_far (p := ⟨gb282, 4, none⟩) (Kd.V_far (p := ⟨gb282, 3, none⟩) (Kd.V_far (p := ⟨gb282, 2, none⟩) (Kd.V_far (p := ⟨gb282, 1, none⟩) (Kd.V_far (p := ⟨gb282, 0, none⟩) (Kd.V_mono HO_0.out (fun k_ hk => (⟨hk, hk.2⟩ : _ ∧ k_ ≠ gb282))) (fun _ hk => hk.2) (.int .i64 x10_2)) (fun _ hk => hk.2) (.int .i64 a1)) (fun _ hk => hk.2) (.int .i64 1)) (fun _ hk => hk.2) (.int .i64 0)) (fun _ hk => hk.2) (.int .i64 a2)) (fun _ hk => hk.2) (.slice none 0 0)) (fun _ hk => hk.2) (.slice none 0 0)) (fun _ hk => hk.2) (.int .i64 0)) (fun _ hk => ⟨hk.1.1.1, ⟨hk.1.1.2, hk.1.2⟩⟩)))⟩; have n1_ : Aside0 (w34.heap[gb273]? = some (.cells #[.int .i64 0, .int .i64 0] 24 (0, 0))) := ⟨(by rw [hw]; exact (by (with_reducible repeat (first | refine blk_drewN ?_ _ | refine blk_drew ?_ | refine blk_alloc ?_ _)); refine blk_far ?_ NB273_282.out _; (with_reducible repeat (first | refine blk_drewN ?_ _ | refine blk_drew ?_ | refine blk_alloc ?_ _)); refine blk_far ?_ NB273_282.out _; (with_reducible repeat (first | refine blk_drewN ?_ _ | refine blk_drew ?_ | refine blk_alloc ?_ _)); refine blk_far ?_ NB273_282.out _; (with_reducible repeat (first | refine blk_drewN ?_ _ | refine blk_drew ?_ | refine blk_alloc ?_ _)); refine blk_far ?_ NB273_282.out _; (with_reducible repeat (first | refine blk_drewN ?_ _ | refine blk_drew ?_ | refine blk_alloc ?_ _)); refine blk_far ?_ NB273_282.out _; (with_reducible repeat (first | refine blk_drewN ?_ _ | refine blk_drew ?_ | refine blk_alloc ?_ _)); refine blk_far ?_ NB273_282.out _; (with_reducible repeat (first | refine blk_drewN ?_ _ | refine blk_drew ?_ | refine blk_alloc ?_ _)); refine blk_far ?_ NB273_282.out _; (with_reducible repeat (first | refine blk_drewN ?_ _ | refine blk_drew ?_ | refine blk_alloc ?_ _)); refine blk_far ?_ NB273_282.out _; (with_reducible repeat (first | refine blk_drewN ?_ _ | refine blk_drew ?_ | refine blk_alloc ?_ _)); exact BK273.out))⟩; have n2_ : Aside0 (w34.heap[gb282]? = some (.cells #[.int .i64 x10_2, .int .i64 a1, .int .i64 1, .int .i64 0, .int .i64 a2, .slice none 0 0, .slice none 0 0, .int .i64 0] 30 (0, 0))) := ⟨(by rw [hw]; exact (by (with_reducible repeat (first | refine blk_drewN ?_ _ | refine blk_drew ?_ | refine blk_alloc ?_ _)); refine blk_put (cs := #[.int .i64 x10_2, .int .i64 a1, .int .i64 1, .int .i64 0, .int .i64 a2, .slice none 0 0, .slice none 0 0, .int .i64 0]) ?_ 7 _ rfl; (with_reducible repeat (first | refine blk_drewN ?_ _ | refine blk_drew ?_ | refine blk_alloc ?_ _)); refine blk_put (cs := #[.int .i64 x10_2, .int .i64 a1, .int .i64 1, .int .i64 0, .int .i64 a2, .slice none 0 0, .slice none 0 0, .int .i64 0]) ?_ 6 _ rfl; (with_reducible repeat (first | refine blk_drewN ?_ _ | refine blk_drew ?_ | refine blk_alloc ?_ _)); refine blk_put (cs := #[.int .i64 x10_2, .int .i64 a1, .int .i64 1, .int .i64 0, .int .i64 a2, .slice none 0 0, .slice none 0 0, .int .i64 0]) ?_ 5 _ rfl; (with_reducible repeat (first | refine blk_drewN ?_ _ | refine blk_drew ?_ | refine blk_alloc ?_ _)); refine blk_put (cs := #[.int .i64 x10_2, .int .i64 a1, .int .i64 1, .int .i64 0, .int .i64 0, .slice none 0 0, .slice none 0 0, .int .i64 0]) ?_ 4 _ rfl; (with_reducible repeat (first | refine blk_drewN ?_ _ | refine blk_drew ?_ | refine blk_alloc ?_ _)); refine blk_put (cs := #[.int .i64 x10_2, .int .i64 a1, .int .i64 1, .int .i64 0, .int .i64 0, .slice none 0 0, .slice none 0 0, .int .i64 0]) ?_ 3 _ rfl; (with_reducible repeat (first | refine blk_drewN ?_ _ | refine blk_drew ?_ | refine blk_alloc ?_ _)); refine blk_put (cs := #[.int .i64 x10_2, .int .i64 a1, .int .i64 0, .int .i64 0, .int .i64 0, .slice none 0 0, .slice none 0 0, .int .i64 0]) ?_ 2 _ rfl; (with_reducible repeat (first | refine blk_drewN ?_ _ | refine blk_drew ?_ | refine blk_alloc ?_ _)); refine blk_put (cs := #[.int .i64 x10_2, .int .i64 0, .int .i64 0, .int .i64 0, .int .i64 0, .slice none 0 0, .slice none 0 0, .int .i64 0]) ?_ 1 _ rfl; (with_reducible repeat (first | refine blk_drewN ?_ _ | refine blk_drew ?_ | refine blk_alloc ?_ _)); refine blk_put (cs := #[.int .i64 0, .int .i64 0, .int .i64 0, .int .i64 0, .int .i64 0, .slice none 0 0, .slice none 0 0, .int .i64 0]) ?_ 0 _ rfl; (with_reducible repeat (first | refine blk_drewN ?_ _ | refine blk_drew ?_ | refine blk_alloc ?_ _)); exact BK282.out))⟩; have n3_ : Aside0 (Below w.heap.size w w34) := ⟨(by rw [hw]; exact (by repeat (first | (with_reducible first | exact HB.out | apply below_alloc | apply pw_below_drewN | apply below_drew1 | refine below_set ?_ GE273.out | refine below_set ?_ GE282.out) | exact HB.out)))⟩; clear hw; clear HO_0; clear BK273; clear BK282; clear HB; have HO_0 := n0_; have BK273 := n1_; have BK282 := n2_; have HB := n3_; clear n0_ n1_ n2_ n3_; have hcz35_0 : w34.cell? ⟨gb282, 0, none⟩ = some (.int .i64 x10_2) := (blk_cell BK282.out 0).trans rfl; have hcz35_1 : w34.cell? ⟨gb282, 1, none⟩ = some (.int .i64 a1) := (blk_cell BK282.out 1).trans rfl; have hcz35_2 : w34.cell? ⟨gb282, 2, none⟩ = some (.int .i64 1) := (blk_cell BK282.out 2).trans rfl; have hcz35_3 : w34.cell? ⟨gb282, 3, none⟩ = some (.int .i64 0) := (blk_cell BK282.out 3).trans rfl; have hcz35_4 : w34.cell? ⟨gb282, 4, none⟩ = some (.int .i64 a2) := (blk_cell BK282.out 4).trans rfl; have hcz35_5 : w34.cell? ⟨gb282, 5, none⟩ = some (.slice none 0 0) := (blk_cell BK282.out 5).trans rfl; have hcz35_6 : w34.cell? ⟨gb282, 6, none⟩ = some (.slice none 0 0) := (blk_cell BK282.out 6).trans rfl; have hcz35_7 : w34.cell? ⟨gb282, 7, none⟩ = some (.int .i64 0) := (blk_cell BK282.out 7).trans rfl; have hfz35_0 := blk_frozen BK282.out 0; have hfz35_1 := blk_frozen BK282.out 1; have hfz35_2 := blk_frozen BK282.out 2; have hfz35_3 := blk_frozen BK282.out 3; have hfz35_4 := blk_frozen BK282.out 4; have hfz35_5 := blk_frozen BK282.out 5; have hfz35_6 := blk_frozen BK282.out 6; have hfz35_7 := blk_frozen BK282.out 7) | ((with_reducible refine gate_callee (f := 33) rfl ?_); refine goesL_ (some 77) rfl rfl Try.func33 (by kernel_rfl) rfl #[.slice A0 l0.length c0, .int .i64 x9_2, .agg #[.int .i64 x10_2, .int .i64 a1, .int .i64 1, .int .i64 0, .int .i64 a2, .slice none 0 0, .slice none 0 0, .int .i64 0]] rfl (by (try simp only [List.map_toArray, List.map_cons, List.map_nil]); first | done | rfl | (simp only [List.length_drop, List.length_take]; rfl)) ?_; (refine (sextonref09_with.calls k2 (fun k_ => ((P0_ k_ ∨ w.heap.size ≤ k_) ∧ (k_ ≠ gb273 ∧ k_ ≠ gb282))) _ _ l0 x9_2 x10_2 a1 1 0 a2 (fun k_ => False) _ _ ([] : List (S73)) (fun k_ => False) _ _ ([] : List (S75)) 0 t283 _ ?side1 ?side2 ?side3 A30.out).mono ?_); (case side1 => exact HO_0.out); (case side2 => exact Kd.V_nil _ _ _ _ _); (case side3 => exact Kd.V_nil _ _ _ _ _); rintro e w36 ⟨v284, rfl, ho0, hb⟩; refine ⟨_, rfl, ?_⟩; have n0_ := Aside0.mk (Kd.V_elder' (by (with_reducible repeat (first | apply Kd.V_alloc | apply Kd.V_drewN | apply Kd.V_drew)); exact HO_0.out) (Kd.N_base ho0) hb); have n1_ := Aside0.mk (Kd.N_lower (Kd.N_mono (ok' := fun k_ => (P0_ k_ ∨ w.heap.size ≤ k_) ∧ k_ ≠ gb273 ∧ k_ ≠ gb282) ho0 (fun k_ hk_ => ⟨Or.elim hk_ (fun hs_ => Or.elim hs_ (fun hs_ => hs_.1) (fun hs_ => Or.elim hs_ (fun hs_ => (hs_).elim) (fun hs_ => (hs_).elim))) (fun hn_ => (.inr (Nat.le_trans (below_size (by repeat (first | (with_reducible first | exact HB.out | apply below_alloc | apply pw_below_drewN | apply below_drew1 | refine below_set ?_ GE273.out | refine below_set ?_ GE282.out) | exact HB.out))) hn_))), Or.elim hk_ (fun hs_ => Or.elim hs_ (fun hs_ => hs_.2.1) (fun hs_ => Or.elim hs_ (fun hs_ => (hs_).elim) (fun hs_ => (hs_).elim))) (fun hn_ => (Kd.freshB (g := gb273) (o := .cells #[.int .i64 0, .int .i64 0] 24 (0, 0)) (by (with_reducible repeat (first | refine blk_drewN ?_ _ | refine blk_drew ?_ | refine blk_alloc ?_ _)); exact BK273.out) k_ hn_)), Or.elim hk_ (fun hs_ => Or.elim hs_ (fun hs_ => hs_.2.2) (fun hs_ => Or.elim hs_ (fun hs_ => (hs_).elim) (fun hs_ => (hs_).elim))) (fun hn_ => (Kd.freshB (g := gb282) (o := .cells #[.int .i64 x10_2, .int .i64 a1, .int .i64 1, .int .i64 0, .int .i64 a2, .slice none 0 0, .slice none 0 0, .int .i64 0] 30 (0, 0)) (by (with_reducible repeat (first | refine blk_drewN ?_ _ | refine blk_drew ?_ | refine blk_alloc ?_ _)); exact BK282.out) k_ hn_))⟩)) (below_size (by repeat (first | (with_reducible first | exact HB.out | apply below_alloc | apply pw_below_drewN | apply below_drew1 | refine below_set ?_ GE273.out | refine below_set ?_ GE282.out) | exact HB.out)))); have n2_ := Aside0.mk (blk_below (g := gb273) (o := .cells #[.int .i64 0, .int .i64 0] 24 (0, 0)) (by (with_reducible repeat (first | refine blk_drewN ?_ _ | refine blk_drew ?_ | refine blk_alloc ?_ _)); exact BK273.out) hb); have n3_ := Aside0.mk (blk_below (g := gb282) (o := .cells #[.int .i64 x10_2, .int .i64 a1, .int .i64 1, .int .i64 0, .int .i64 a2, .slice none 0 0, .slice none 0 0, .int .i64 0] 30 (0, 0)) (by (with_reducible repeat (first | refine blk_drewN ?_ _ | refine blk_drew ?_ | refine blk_alloc ?_ _)); exact BK282.out) hb); have n4_ := Aside0.mk (below_step (by repeat (first | (with_reducible first | exact HB.out | apply below_alloc | apply pw_below_drewN | apply below_drew1 | refine below_set ?_ GE273.out | refine below_set ?_ GE282.out) | exact HB.out)) hb); clear HO_0; clear BK273; clear BK282; clear HB; have HO_0 := n0_; have HO285 := n1_; have BK273 := n2_; have BK282 := n3_; have HB := n4_; clear n0_ n1_ n2_ n3_ n4_; (try clear hb); (try clear hb2); (try clear hk); (try clear hi); (try clear ho0); have hcz37_0 : w36.cell? ⟨gb273, 0, none⟩ = some (.int .i64 0) := (blk_cell BK273.out 0).trans rfl; have hcz37_1 : w36.cell? ⟨gb273, 1, none⟩ = some (.int .i64 0) := (blk_cell BK273.out 1).trans rfl; have hfz37_0 := blk_frozen BK273.out 0; have hfz37_1 := blk_frozen BK273.out 1))
         refine bodyPost_ret (results_list (rs := [.tmp 6, .cell 7 24, .tmp 8]) rfl (by simp) (.tmp (.cell gb273 24 #[.int .i64 x9_2, .int .i64 x10_2] (0, 0) _ rfl (by (with_reducible repeat (first | refine blk_drewN ?_ _ | refine blk_drew ?_ | refine blk_alloc ?_ _)); refine blk_put (cs := #[.int .i64 x9_2, .int .i64 0]) ?_ 1 _ rfl; (with_reducible repeat (first | refine blk_drewN ?_ _ | refine blk_drew ?_ | refine blk_alloc ?_ _)); refine blk_put (cs := #[.int .i64 0, .int .i64 0]) ?_ 0 _ rfl; (with_reducible repeat (first | refine blk_drewN ?_ _ | refine blk_drew ?_ | refine blk_alloc ?_ _)); exact BK273.out) Try.underlying24 rfl (by kernel_rfl) (.tmp .nil)))) rfl ?_
         exact ⟨_, by first | rfl | (simp [errW_none, errW_some] <;> rfl) | (simp [*, errW_none, errW_some] <;> rfl), by (with_reducible repeat (first | apply Kd.N_alloc | apply Kd.N_drewN | apply Kd.N_drew)); exact Kd.N_mono (Kd.N_far (p := ⟨gb273, 1, none⟩) (Kd.N_far (p := ⟨gb273, 0, none⟩) (Kd.N_mono HO285.out (fun k_ hk => (⟨hk, hk.2.1⟩ : _ ∧ k_ ≠ gb273))) (fun _ hk => hk.2) (.int .i64 x9_2)) (fun _ hk => hk.2) (.int .i64 x10_2)) (fun _ hk => hk.1.1), by repeat (first | (with_reducible first | exact HB.out | apply below_alloc | apply pw_below_drewN | apply below_drew1 | refine below_set ?_ GE273.out | refine below_set ?_ GE282.out) | exact HB.out)⟩
 ·
  replace c5 := Bool.eq_false_iff.mpr c5
  subst c5
  have H1 : (some (([] : List (S30)), 0, 0, 4)) = some (r1, r2, r3, r4) := by rw [if_neg (show ¬ (false = true) by decide)] at H; exact H
  clear H
  have H := H1
  clear H1
  simp only [Option.some.injEq, Prod.mk.injEq] at H
  obtain ⟨rfl, rfl, rfl, rfl⟩ := H
  go_enter Try.func15, Try.ntmps15
  go_wp2_with (first | ((with_reducible refine gate_dst (N := 7) rfl ?_); refine box_event ?hg (N := 7) ?hd (cs := #[.int .i64 0, .int .i64 0]) (t := 24) ?hr ?_; (case hd => rfl); (case hg => rfl); (case hr => first | (go_simp; done) | (go_simp; rfl)); intro gb273 hg w38 hbox hb; have n0_ := Aside0.mk (Kd.V_below (Kd.V_elderB (by (with_reducible repeat (first | apply Kd.V_alloc | apply Kd.V_drewN | apply Kd.V_drew)); exact HO0.out) gb273 (Nat.le_of_eq hg.symm)) hb); have n1_ := Aside0.mk (below_step (by repeat (first | (with_reducible first | exact HB.out | apply below_alloc | apply pw_below_drewN | apply below_drew1) | exact HB.out)) hb); have n2_ := Aside0.mk (hbox); have n3_ := Aside0.mk ((by rw [hg]; exact (below_size (by repeat (first | (with_reducible first | exact HB.out | apply below_alloc | apply pw_below_drewN | apply below_drew1) | exact HB.out))) : w.heap.size ≤ gb273)); have n4_ := Aside0.mk ((by rw [hg]; exact (below_size (by repeat (first | (with_reducible first | exact HB.out | apply below_alloc | apply pw_below_drewN | apply below_drew1) | exact HB.out))) : w.heap.size ≤ gb273)); clear HO0; clear HB; have HO0 := n0_; have HB := n1_; have BK273 := n2_; have GW273 := n3_; have GE273 := n4_; clear n0_ n1_ n2_ n3_ n4_; clear hb hbox hg) | ((with_reducible refine gate_callee (f := 23) rfl ?_); refine goesL_ (some 14) rfl rfl Try.func23 (by kernel_rfl) rfl #[.slice A0 l0.length c0] rfl (by (try simp only [List.map_toArray, List.map_cons, List.map_nil]); first | done | rfl | (simp only [List.length_drop, List.length_take]; rfl)) ?_; (with_reducible refine (sextonref09_Right.calls k _ _ l0 false _ ?side1 ?side2 A4.out).mono ?_); (case side1 => repeat (first | exact (Kd.V_reads' HO0.out).2.2 | (with_reducible refine Kd.C_alloc ?_ _) | (with_reducible refine Kd.C_drewN ?_ _) | (with_reducible refine Kd.C_drew ?_))); (case side2 => exact (Kd.V_reads' HO0.out).2.1); rintro e w39 ⟨rfl, hb⟩; refine ⟨_, rfl, ?_⟩; have n0_ := Aside0.mk (Kd.V_below (by (with_reducible repeat (first | apply Kd.V_alloc | apply Kd.V_drewN | apply Kd.V_drew)); exact HO0.out) hb); have n1_ := Aside0.mk (blk_below (g := gb273) (o := .cells #[.int .i64 0, .int .i64 0] 24 (0, 0)) (by (with_reducible repeat (first | refine blk_drewN ?_ _ | refine blk_drew ?_ | refine blk_alloc ?_ _)); exact BK273.out) hb); have n2_ := Aside0.mk (below_step (by repeat (first | (with_reducible first | exact HB.out | apply below_alloc | apply pw_below_drewN | apply below_drew1 | refine below_set ?_ GE273.out) | exact HB.out)) hb); clear HO0; clear BK273; clear HB; have HO0 := n0_; have BK273 := n1_; have HB := n2_; clear n0_ n1_ n2_; (try clear hb); (try clear hb2); (try clear hk); (try clear hi); have hcz40_0 : w39.cell? ⟨gb273, 0, none⟩ = some (.int .i64 0) := (blk_cell BK273.out 0).trans rfl; have hcz40_1 : w39.cell? ⟨gb273, 1, none⟩ = some (.int .i64 0) := (blk_cell BK273.out 1).trans rfl; have hfz40_0 := blk_frozen BK273.out 0; have hfz40_1 := blk_frozen BK273.out 1))
  refine bodyPost_ret (results_list (rs := [.tmp 6, .cell 7 24, .tmp 8]) rfl (by simp) (.tmp (.cell gb273 24 #[.int .i64 0, .int .i64 0] (0, 0) _ rfl (by (with_reducible repeat (first | refine blk_drewN ?_ _ | refine blk_drew ?_ | refine blk_alloc ?_ _)); refine blk_put (cs := #[.int .i64 0, .int .i64 0]) ?_ 1 _ rfl; (with_reducible repeat (first | refine blk_drewN ?_ _ | refine blk_drew ?_ | refine blk_alloc ?_ _)); refine blk_put (cs := #[.int .i64 0, .int .i64 0]) ?_ 0 _ rfl; (with_reducible repeat (first | refine blk_drewN ?_ _ | refine blk_drew ?_ | refine blk_alloc ?_ _)); exact BK273.out) Try.underlying24 rfl (by kernel_rfl) (.tmp .nil)))) rfl ?_
  exact ⟨_, by first | rfl | (simp [errW_none, errW_some] <;> rfl) | (simp [*, errW_none, errW_some] <;> rfl), by first | exact Kd.S_nil _ _ _ _ _ | exact Kd.N_nil _ _ _ _ _ | exact Kd.V_nil _ _ _ _ _ | exact Kd.Q_nil _ _ _ _ _ | exact Kd.R_nil _ _ _ _ _, by repeat (first | (with_reducible first | exact HB.out | apply below_alloc | apply pw_below_drewN | apply below_drew1 | refine below_set ?_ GE273.out) | exact HB.out)⟩

end Go.Proofs.Ytgepphlkibnhdaa.PItab
