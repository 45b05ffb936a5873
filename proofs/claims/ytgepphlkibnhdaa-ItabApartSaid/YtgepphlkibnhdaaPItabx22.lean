/- A text of this session's own, written by a program (wip/tools). -/
import Derived.Test.YtgepphlkibnhdaaPItabx0
import Derived.Test.YtgepphlkibnhdaaPItabx13
import Derived.Test.YtgepphlkibnhdaaOwned
namespace Go.Proofs.Ytgepphlkibnhdaa.PItab
open Go.RowKit Go.Proofs.YtgepphlkibnhdaaW.PrintWords Go.Proofs.YtgepphlkibnhdaaW.PrintLast Go.Proofs.YtgepphlkibnhdaaW.PrintMore
attribute [local go_sem] max2_int min2_int max_two min_two max_three min_three max_four min_four   -- for this text's walks alone
set_option linter.unusedVariables false
set_option linter.unusedSimpArgs false

/-! ### itab_Make: function 14 -/
mutual
def itab_Make.j0 : Nat → List (S30) → Int → Int → Bool → Option ((List (S30)) × Int × Int × Int)
 | 0, _, _, _, _ => none
 | k + 1, x0, x1, x2, x32 => if x32 = true then (some (([] : List (S30)), 0, 0, 1)) else (itab_Make.l0 k x0 x1 x2 0)
def itab_Make.j2 : Nat → List (S30) → Int → Int → Int → Option ((List (S30)) × Int × Int × Int)
 | 0, _, _, _, _ => none
 | k + 1, x0, x1, x2, x10 => (itab_copied.f x0).bind fun t170 => (if x10 = (x0.length : Int) then (if x10 = 24 then (some (([] : List (S30)), 0, 0, 407)) else (if t170.length < 1466015503701 then ((some (t170 ++ [(⟨0, (⟨0, 0, 0, 0⟩ : S26), ([] : List (S73)), ([] : List (S75)), 0⟩ : S30)] : List (S30))).bind fun y173 => (if 0 ≤ x10 then (if x10 < (y173.length : Int) then (some ((y173.set (x10 : Int).toNat (⟨wrap64 (((rd_T30 y173 x10).f0) + 1), (⟨x1, 1, 0, x2⟩ : S26), ([] : List (S73)), ([] : List (S75)), 0⟩ : S30)), x10, wrap64 (((rd_T30 y173 x10).f0) + 1), 0)) else (none)) else (none))) else (none))) else (if 0 ≤ x10 then (if x10 < (t170.length : Int) then (some ((t170.set (x10 : Int).toNat (⟨wrap64 (((rd_T30 t170 x10).f0) + 1), (⟨x1, 1, 0, x2⟩ : S26), ([] : List (S73)), ([] : List (S75)), 0⟩ : S30)), x10, wrap64 (((rd_T30 t170 x10).f0) + 1), 0)) else (none)) else (none)))
def itab_Make.l0 : Nat → List (S30) → Int → Int → Int → Option ((List (S30)) × Int × Int × Int)
 | 0, _, _, _, _ => none
 | k + 1, x0, x1, x2, x10 => if x10 < (x0.length : Int) then (if 0 ≤ x10 then (if ((rd_T30 x0 x10).f1.f0) = 0 then (if ((rd_T30 x0 x10).f0) = 1099511627776 then (itab_Make.l0 k x0 x1 x2 (wrap64 (x10 + 1))) else (itab_Make.j2 k x0 x1 x2 x10)) else (itab_Make.l0 k x0 x1 x2 (wrap64 (x10 + 1)))) else (none)) else (itab_Make.j2 k x0 x1 x2 x10)
end
def itab_Make.f (k : Nat) (l0 : List (S30)) (a1 : Int) (a2 : Int) : Option ((List (S30)) × Int × Int × Int) := (itab_Check.f k l0).bind fun t167 => (if t167 = 0 then (if a1 = 1 then (if a2 < 0 then (itab_Make.j0 k l0 a1 a2 true) else (itab_Make.j0 k l0 a1 a2 (decide (a2 > 1099511627776)))) else (if a1 = 2 then (if a2 < 0 then (itab_Make.j0 k l0 a1 a2 true) else (itab_Make.j0 k l0 a1 a2 (decide (a2 > 1099511627776)))) else (itab_Make.j0 k l0 a1 a2 true))) else (some (([] : List (S30)), 0, 0, t167)))
theorem itab_Make.mono_l : ∀ k, (∀ y0 y1 y2 y3, LeO (itab_Make.j0 k y0 y1 y2 y3) (itab_Make.j0 (k + 1) y0 y1 y2 y3)) ∧ (∀ y0 y1 y2 y3, LeO (itab_Make.j2 k y0 y1 y2 y3) (itab_Make.j2 (k + 1) y0 y1 y2 y3)) ∧ (∀ y0 y1 y2 y3, LeO (itab_Make.l0 k y0 y1 y2 y3) (itab_Make.l0 (k + 1) y0 y1 y2 y3))
 | 0 => ⟨fun _ _ _ _ r h => by simp [itab_Make.j0] at h, fun _ _ _ _ r h => by simp [itab_Make.j2] at h, fun _ _ _ _ r h => by simp [itab_Make.l0] at h⟩
 | k + 1 => by
  obtain ⟨ih0, ih1, ih2⟩ := itab_Make.mono_l k
  refine ⟨?_, ?_, ?_⟩
  ·
   intro y0 y1 y2 y3
   unfold itab_Make.j0
   repeat' first
   | (with_reducible exact ih0 _ _ _ _)
   | (with_reducible exact ih1 _ _ _ _)
   | (with_reducible exact ih2 _ _ _ _)
   | (with_reducible exact itab_Check.mono _ _)
   | (with_reducible exact LeO.refl _)
   | (with_reducible exact LeO.none _)
   | (with_reducible refine LeO.ite ?_ ?_)
   | (with_reducible refine LeO.bind ?_ (fun _ => ?_))
   | exact ih0 _ _ _ _
   | exact ih1 _ _ _ _
   | exact ih2 _ _ _ _
   | exact itab_Check.mono _ _
   | exact LeO.none _
   | refine LeO.ite ?_ ?_
   | refine LeO.bind ?_ (fun _ => ?_)
  ·
   intro y0 y1 y2 y3
   unfold itab_Make.j2
   repeat' first
   | (with_reducible exact ih0 _ _ _ _)
   | (with_reducible exact ih1 _ _ _ _)
   | (with_reducible exact ih2 _ _ _ _)
   | (with_reducible exact itab_Check.mono _ _)
   | (with_reducible exact LeO.refl _)
   | (with_reducible exact LeO.none _)
   | (with_reducible refine LeO.ite ?_ ?_)
   | (with_reducible refine LeO.bind ?_ (fun _ => ?_))
   | exact ih0 _ _ _ _
   | exact ih1 _ _ _ _
   | exact ih2 _ _ _ _
   | exact itab_Check.mono _ _
   | exact LeO.none _
   | refine LeO.ite ?_ ?_
   | refine LeO.bind ?_ (fun _ => ?_)
  ·
   intro y0 y1 y2 y3
   unfold itab_Make.l0
   repeat' first
   | (with_reducible exact ih0 _ _ _ _)
   | (with_reducible exact ih1 _ _ _ _)
   | (with_reducible exact ih2 _ _ _ _)
   | (with_reducible exact itab_Check.mono _ _)
   | (with_reducible exact LeO.refl _)
   | (with_reducible exact LeO.none _)
   | (with_reducible refine LeO.ite ?_ ?_)
   | (with_reducible refine LeO.bind ?_ (fun _ => ?_))
   | exact ih0 _ _ _ _
   | exact ih1 _ _ _ _
   | exact ih2 _ _ _ _
   | exact itab_Check.mono _ _
   | exact LeO.none _
   | refine LeO.ite ?_ ?_
   | refine LeO.bind ?_ (fun _ => ?_)
theorem itab_Make.mono : ∀ a0 a1 a2 k, LeO (itab_Make.f k a0 a1 a2) (itab_Make.f (k + 1) a0 a1 a2) := by
 intro a0 a1 a2 k
 obtain ⟨ih0, ih1, ih2⟩ := itab_Make.mono_l k
 unfold itab_Make.f
 repeat' first
   | (with_reducible exact ih0 _ _ _ _)
   | (with_reducible exact ih1 _ _ _ _)
   | (with_reducible exact ih2 _ _ _ _)
   | (with_reducible exact itab_Check.mono _ _)
   | (with_reducible exact LeO.refl _)
   | (with_reducible exact LeO.none _)
   | (with_reducible refine LeO.ite ?_ ?_)
   | (with_reducible refine LeO.bind ?_ (fun _ => ?_))
   | exact ih0 _ _ _ _
   | exact ih1 _ _ _ _
   | exact ih2 _ _ _ _
   | exact itab_Check.mono _ _
   | exact LeO.none _
   | refine LeO.ite ?_ ?_
   | refine LeO.bind ?_ (fun _ => ?_)
set_option maxHeartbeats 8000000 in
set_option maxRecDepth 100000 in
theorem itab_Make.calls (k : Nat) (A0 : Option Addr) (c0 : Nat) (l0 : List (S30)) (a1 : Int) (a2 : Int) (r1 : List (S30)) (r2 : Int) (r3 : Int) (r4 : Int) (w : World) (hr0 : Kd.C k30 w A0 l0.length l0) (hc0 : l0.length ≤ c0) (h : itab_Make.f k l0 a1 a2 = some (r1, r2, r3, r4)) :
  Calls Try.prog 14 #[.slice A0 l0.length c0, .int .i64 a1, .int .i64 a2] w fun e w' => ∃ v0_ : Value, e = .returned (.tuple #[v0_, .agg #[.int .i64 r2, .int .i64 r3], .int .i64 r4]) ∧ Kd.S k30 30 w' w.heap.size (fun _ => True) v0_ r1 ∧ Below w.heap.size w w' := by
 have hu24 := Try.underlying24
 have hu30 := Try.underlying30
 have hu26 := Try.underlying26
 have HR0 := Aside0.mk hr0
 have HC0 := Aside0.mk hc0
 clear hr0 hc0
 have HB := Aside0.mk (Below.refl w.heap.size w)
 have H : ((itab_Check.f k l0).bind fun t167 => (if t167 = 0 then (if a1 = 1 then (if a2 < 0 then (itab_Make.j0 k l0 a1 a2 true) else (itab_Make.j0 k l0 a1 a2 (decide (a2 > 1099511627776)))) else (if a1 = 2 then (if a2 < 0 then (itab_Make.j0 k l0 a1 a2 true) else (itab_Make.j0 k l0 a1 a2 (decide (a2 > 1099511627776)))) else (itab_Make.j0 k l0 a1 a2 true))) else (some (([] : List (S30)), 0, 0, t167)))) = some (r1, r2, r3, r4) := h
 clear h
 replace H := Option.bind_eq_some_iff.mp H
 obtain ⟨t167, A40, H⟩ := H
 replace H : (if t167 = 0 then (if a1 = 1 then (if a2 < 0 then (itab_Make.j0 k l0 a1 a2 true) else (itab_Make.j0 k l0 a1 a2 (decide (a2 > 1099511627776)))) else (if a1 = 2 then (if a2 < 0 then (itab_Make.j0 k l0 a1 a2 true) else (itab_Make.j0 k l0 a1 a2 (decide (a2 > 1099511627776)))) else (itab_Make.j0 k l0 a1 a2 true))) else (some (([] : List (S30)), 0, 0, t167))) = some (r1, r2, r3, r4) := H
 have A4 := Aside0.mk A40
 clear A40
 by_cases c5 : t167 = 0
 ·
  rw [if_pos c5] at H
  have c5b0 : (t167 == 0) = true := beq_iff_eq.mpr c5
  have c5b1 : (t167 != 0) = false := bne_eq_false_iff_eq.mpr c5
  clear c5
  have HC6 := Aside0.mk H
  clear H
  go_enter Try.func14, Try.ntmps14
  go_upto_region 4 with (first | ((with_reducible refine gate_dst (N := 7) rfl ?_); refine box_event ?hg (N := 7) ?hd (cs := #[.int .i64 0, .int .i64 0]) (t := 24) ?hr ?_; (case hd => rfl); (case hg => rfl); (case hr => first | (go_simp; done) | (go_simp; rfl)); intro gb166 hg w7 hbox hb; have n0_ := Aside0.mk (below_step (by repeat (first | (with_reducible first | exact HB.out | apply below_alloc | apply pw_below_drewN | apply below_drew1) | exact HB.out)) hb); have n1_ := Aside0.mk (hbox); have n2_ := Aside0.mk ((by rw [hg]; exact (below_size (by repeat (first | (with_reducible first | exact HB.out | apply below_alloc | apply pw_below_drewN | apply below_drew1) | exact HB.out))) : w.heap.size ≤ gb166)); have n3_ := Aside0.mk ((by rw [hg]; exact (below_size (by repeat (first | (with_reducible first | exact HB.out | apply below_alloc | apply pw_below_drewN | apply below_drew1) | exact HB.out))) : w.heap.size ≤ gb166)); clear HB; have HB := n0_; have BK166 := n1_; have GW166 := n2_; have GE166 := n3_; clear n0_ n1_ n2_ n3_; clear hb hbox hg) | ((with_reducible refine gate_callee (f := 22) rfl ?_); refine goesL_ (some 14) rfl rfl Try.func22 (by kernel_rfl) rfl #[.slice A0 l0.length c0] rfl (by (try simp only [List.map_toArray, List.map_cons, List.map_nil]); first | done | rfl | (simp only [List.length_drop, List.length_take]; rfl)) ?_; (with_reducible refine (itab_Check.calls k _ _ l0 t167 _ ?side1 ?side2 A4.out).mono ?_); (case side1 => repeat (first | exact (Kd.C_below HR0.out HB.out) | (with_reducible refine Kd.C_alloc ?_ _) | (with_reducible refine Kd.C_drewN ?_ _) | (with_reducible refine Kd.C_drew ?_))); (case side2 => exact HC0.out); rintro e w8 ⟨rfl, hb⟩; refine ⟨_, rfl, ?_⟩; have n0_ := Aside0.mk (blk_below (g := gb166) (o := .cells #[.int .i64 0, .int .i64 0] 24 (0, 0)) (by (with_reducible repeat (first | refine blk_drewN ?_ _ | refine blk_drew ?_ | refine blk_alloc ?_ _)); exact BK166.out) hb); have n1_ := Aside0.mk (below_step (by repeat (first | (with_reducible first | exact HB.out | apply below_alloc | apply pw_below_drewN | apply below_drew1 | refine below_set ?_ GE166.out) | exact HB.out)) hb); clear BK166; clear HB; have BK166 := n0_; have HB := n1_; clear n0_ n1_; (try clear hb); (try clear hb2); (try clear hk); (try clear hi)))
  (try simp only [Act.put, List.setIfInBounds_toArray, List.set_cons_zero, List.set_cons_succ])
  go_cut [32] (fun v32 wc => ∃ (kq : Nat) (x32_5 : Bool), v32 = .bool x32_5 ∧ Aside0 (itab_Make.j0 kq l0 a1 a2 x32_5 = some (r1, r2, r3, r4)) ∧ Aside0 (kq ≤ k) ∧ Aside0 (wc.heap[gb166]? = some (.cells #[.int .i64 0, .int .i64 0] 24 (0, 0))) ∧ Aside0 (Below w.heap.size w wc))
  case first =>
   have H := HC6.out
   clear HC6
   by_cases c9 : a1 = 1
   ·
    rw [if_pos c9] at H
    have c9b0 : (a1 == 1) = true := beq_iff_eq.mpr c9
    have c9b1 : (a1 != 1) = false := bne_eq_false_iff_eq.mpr c9
    clear c9
    (first | rw [c9b0] | (simp only [i64_w, i32_w]; rw [c9b0]) | skip)
    by_cases c10 : a2 < 0
    ·
     rw [if_pos c10] at H
     have c10b0 : decide (a2 < 0) = true := decide_eq_true c10
     clear c10
     have H' := Aside0.mk H
     clear H
     go_wp2
     go_meet
     case rel => exact ⟨_, (true), (by first | rfl | (simp; done) | (simp [*]; done)), H', ⟨by first | omega | exact Nat.le_refl _⟩, ⟨by (with_reducible repeat (first | refine blk_drewN ?_ _ | refine blk_drew ?_ | refine blk_alloc ?_ _)); exact BK166.out⟩, ⟨by repeat (first | (with_reducible first | exact HB.out | apply below_alloc | apply pw_below_drewN | apply below_drew1 | refine below_set ?_ GE166.out) | exact HB.out)⟩⟩
    ·
     rw [if_neg c10] at H
     have c10b0 : decide (a2 < 0) = false := decide_eq_false c10
     clear c10
     have H' := Aside0.mk H
     clear H
     go_wp2
     go_meet
     case rel => exact ⟨_, (decide (a2 > 1099511627776)), (by first | rfl | (simp; done) | (simp [*]; done)), H', ⟨by first | omega | exact Nat.le_refl _⟩, ⟨by (with_reducible repeat (first | refine blk_drewN ?_ _ | refine blk_drew ?_ | refine blk_alloc ?_ _)); exact BK166.out⟩, ⟨by repeat (first | (with_reducible first | exact HB.out | apply below_alloc | apply pw_below_drewN | apply below_drew1 | refine below_set ?_ GE166.out) | exact HB.out)⟩⟩
   ·
    rw [if_neg c9] at H
    have c9b0 : (a1 == 1) = false := beq_eq_false_iff_ne.mpr c9
    have c9b1 : (a1 != 1) = true := bne_iff_ne.mpr c9
    (first | rw [c9b0] | (simp only [i64_w, i32_w]; rw [c9b0]) | skip)
    by_cases c11 : a1 = 2
    ·
     rw [if_pos c11] at H
     have c11b0 : (a1 == 2) = true := beq_iff_eq.mpr c11
     have c11b1 : (a1 != 2) = false := bne_eq_false_iff_eq.mpr c11
     clear c11
     by_cases c12 : a2 < 0
     ·
      rw [if_pos c12] at H
      have c12b0 : decide (a2 < 0) = true := decide_eq_true c12
      clear c12
      have H' := Aside0.mk H
      clear H
      go_wp2
      go_meet
      case rel => exact ⟨_, (true), (by first | rfl | (simp; done) | (simp [*]; done)), H', ⟨by first | omega | exact Nat.le_refl _⟩, ⟨by (with_reducible repeat (first | refine blk_drewN ?_ _ | refine blk_drew ?_ | refine blk_alloc ?_ _)); exact BK166.out⟩, ⟨by repeat (first | (with_reducible first | exact HB.out | apply below_alloc | apply pw_below_drewN | apply below_drew1 | refine below_set ?_ GE166.out) | exact HB.out)⟩⟩
     ·
      rw [if_neg c12] at H
      have c12b0 : decide (a2 < 0) = false := decide_eq_false c12
      clear c12
      have H' := Aside0.mk H
      clear H
      go_wp2
      go_meet
      case rel => exact ⟨_, (decide (a2 > 1099511627776)), (by first | rfl | (simp; done) | (simp [*]; done)), H', ⟨by first | omega | exact Nat.le_refl _⟩, ⟨by (with_reducible repeat (first | refine blk_drewN ?_ _ | refine blk_drew ?_ | refine blk_alloc ?_ _)); exact BK166.out⟩, ⟨by repeat (first | (with_reducible first | exact HB.out | apply below_alloc | apply pw_below_drewN | apply below_drew1 | refine below_set ?_ GE166.out) | exact HB.out)⟩⟩
    ·
     rw [if_neg c11] at H
     have c11b0 : (a1 == 2) = false := beq_eq_false_iff_ne.mpr c11
     have c11b1 : (a1 != 2) = true := bne_iff_ne.mpr c11
     have H' := Aside0.mk H
     clear H
     go_wp2
     go_meet
     case rel => exact ⟨_, (true), (by first | rfl | (simp; done) | (simp [*]; done)), H', ⟨by first | omega | exact Nat.le_refl _⟩, ⟨by (with_reducible repeat (first | refine blk_drewN ?_ _ | refine blk_drew ?_ | refine blk_alloc ?_ _)); exact BK166.out⟩, ⟨by repeat (first | (with_reducible first | exact HB.out | apply below_alloc | apply pw_below_drewN | apply below_drew1 | refine below_set ?_ GE166.out) | exact HB.out)⟩⟩
  case rest =>
   clear HC6
   try clear c1
   try clear c2
   try clear p2
   try clear c5
   try clear c5b0
   try clear c5b1
   try clear c9
   try clear c9b0
   try clear c9b1
   try clear c10
   try clear c10b0
   try clear c11
   try clear c11b0
   try clear c11b1
   try clear c12
   try clear c12b0
   obtain ⟨kq, x32_5, rfl, HA, HJ5, BK166, HB⟩ := hcut
   cases kq with
   | zero => exact absurd HA.out (by simp [itab_Make.j0])
   | succ kj5 =>
    have H := HA.out
    clear HA
    simp only [itab_Make.j0] at H
    by_cases c13 : x32_5 = true
    ·
     subst c13
     have H1 : (some (([] : List (S30)), 0, 0, 1)) = some (r1, r2, r3, r4) := by rw [if_pos rfl] at H; exact H
     clear H
     have H := H1
     clear H1
     simp only [Option.some.injEq, Prod.mk.injEq] at H
     obtain ⟨rfl, rfl, rfl, rfl⟩ := H
     have hcz14_0 : wc.cell? ⟨gb166, 0, none⟩ = some (.int .i64 0) := (blk_cell BK166.out 0).trans rfl
     have hcz14_1 : wc.cell? ⟨gb166, 1, none⟩ = some (.int .i64 0) := (blk_cell BK166.out 1).trans rfl
     have hfz14_0 := blk_frozen BK166.out 0
     have hfz14_1 := blk_frozen BK166.out 1
     go_wp2
     refine bodyPost_ret (results_list (rs := [.tmp 6, .cell 7 24, .tmp 8]) rfl (by simp) (.tmp (.cell gb166 24 #[.int .i64 0, .int .i64 0] (0, 0) _ rfl (by (with_reducible repeat (first | refine blk_drewN ?_ _ | refine blk_drew ?_ | refine blk_alloc ?_ _)); refine blk_put (cs := #[.int .i64 0, .int .i64 0]) ?_ 1 _ rfl; (with_reducible repeat (first | refine blk_drewN ?_ _ | refine blk_drew ?_ | refine blk_alloc ?_ _)); refine blk_put (cs := #[.int .i64 0, .int .i64 0]) ?_ 0 _ rfl; (with_reducible repeat (first | refine blk_drewN ?_ _ | refine blk_drew ?_ | refine blk_alloc ?_ _)); exact BK166.out) Try.underlying24 rfl (by kernel_rfl) (.tmp .nil)))) rfl ?_
     exact ⟨_, by first | rfl | (simp [errW_none, errW_some] <;> rfl) | (simp [*, errW_none, errW_some] <;> rfl), by first | exact Kd.S_nil _ _ _ _ _ | exact Kd.N_nil _ _ _ _ _ | exact Kd.V_nil _ _ _ _ _ | exact Kd.Q_nil _ _ _ _ _ | exact Kd.R_nil _ _ _ _ _, by repeat (first | (with_reducible first | exact HB.out | apply below_alloc | apply pw_below_drewN | apply below_drew1 | refine below_set ?_ GE166.out) | exact HB.out)⟩
    ·
     replace c13 := Bool.eq_false_iff.mpr c13
     subst c13
     have H1 : (itab_Make.l0 kj5 l0 a1 a2 0) = some (r1, r2, r3, r4) := by rw [if_neg (show ¬ (false = true) by decide)] at H; exact H
     clear H
     have H := H1
     clear H1
     have HC15 := Aside0.mk H
     clear H
     go_upto_block 0 with (fail)
     go_cut [10] (fun v10 wc => ∃ (kq : Nat) (x10_14 : Int), v10 = .int .i64 x10_14 ∧ Aside0 (itab_Make.j2 kq l0 a1 a2 x10_14 = some (r1, r2, r3, r4)) ∧ Aside0 (kq ≤ kj5) ∧ Aside0 (wc.heap[gb166]? = some (.cells #[.int .i64 0, .int .i64 0] 24 (0, 0))) ∧ Aside0 (Below w.heap.size w wc))
     case first =>
      have H := HC15.out
      clear HC15
      have H' := Aside0.mk H
      clear H
      go_wp2
      go_loopg [10] kj5 (fun kq v10 w' => ∃ (x10_2 : Int), v10 = .int .i64 x10_2 ∧ Aside0 (itab_Make.l0 kq l0 a1 a2 x10_2 = some (r1, r2, r3, r4)) ∧ Aside0 (kq ≤ kj5) ∧ Aside0 (w'.heap[gb166]? = some (.cells #[.int .i64 0, .int .i64 0] 24 (0, 0))) ∧ Aside0 (Below w.heap.size w w'))
      case atStart => exact ⟨(0), (by first | rfl | (simp; done) | (simp [*]; done)), H', ⟨Nat.le_refl _⟩, ⟨by (with_reducible repeat (first | refine blk_drewN ?_ _ | refine blk_drew ?_ | refine blk_alloc ?_ _)); exact BK166.out⟩, ⟨by repeat (first | (with_reducible first | exact HB.out | apply below_alloc | apply pw_below_drewN | apply below_drew1 | refine below_set ?_ GE166.out) | exact HB.out)⟩⟩
      case round =>
       clear H'
       try clear c1
       try clear c2
       try clear p2
       try clear c5
       try clear c5b0
       try clear c5b1
       try clear c9
       try clear c9b0
       try clear c9b1
       try clear c10
       try clear c10b0
       try clear c11
       try clear c11b0
       try clear c11b1
       try clear c12
       try clear c12b0
       try clear c13
       try clear c14
       try clear hcz14_0
       try clear hcz14_1
       try clear hfz14_0
       try clear hfz14_1
       try clear p2
       obtain ⟨x10_2, rfl, HA, HK2, BK166, HB⟩ := hrel
       cases gk with
       | zero => exact absurd HA.out (by simp [itab_Make.l0])
       | succ k2 =>
        have H := HA.out
        clear HA
        simp only [itab_Make.l0] at H
        by_cases c16 : x10_2 < (l0.length : Int)
        ·
         rw [if_pos c16] at H
         have c16b0 : decide (x10_2 < (l0.length : Int)) = true := decide_eq_true c16
         clear c16
         (first | rw [c16b0] | (simp only [i64_w, i32_w]; rw [c16b0]) | skip)
         by_cases c17 : 0 ≤ x10_2
         ·
          rw [if_pos c17] at H
          have c17b0 : decide (0 ≤ x10_2) = true := decide_eq_true c17
          clear c17
          by_cases c18 : ((rd_T30 l0 x10_2).f1.f0) = 0
          ·
           rw [if_pos c18] at H
           have c18b0 : (((rd_T30 l0 x10_2).f1.f0) == 0) = true := beq_iff_eq.mpr c18
           have c18b1 : (((rd_T30 l0 x10_2).f1.f0) != 0) = false := bne_eq_false_iff_eq.mpr c18
           clear c18
           by_cases c19 : ((rd_T30 l0 x10_2).f0) = 1099511627776
           ·
            rw [if_pos c19] at H
            have c19b0 : (((rd_T30 l0 x10_2).f0) == 1099511627776) = true := beq_iff_eq.mpr c19
            have c19b1 : (((rd_T30 l0 x10_2).f0) != 1099511627776) = false := bne_eq_false_iff_eq.mpr c19
            clear c19
            have H' := Aside0.mk H
            clear H
            have p168 : 0 ≤ (x10_2 : Int) := of_decide_eq_true (by first | (with_reducible assumption) | assumption)
            have q168 : x10_2 < (l0.length : Int) := of_decide_eq_true (by first | (with_reducible assumption) | assumption)
            obtain ⟨ad168, A168_5, c168_5, A168_6, c168_6, e168, hx168_0, hx168_1, hx168_2, hx168_3, hx168_4, hx168_5, hx168_6, hx168_7, hl168_5, hi168_5, hl168_6, hi168_6⟩ := at_T30 HR0.out x10_2 p168 q168
            cases e168
            replace hx168_0 := (HB.out.cell (World.block_lt_of_cell? w _ hx168_0)).trans hx168_0
            replace hx168_1 := (HB.out.cell (World.block_lt_of_cell? w _ hx168_1)).trans hx168_1
            replace hx168_2 := (HB.out.cell (World.block_lt_of_cell? w _ hx168_2)).trans hx168_2
            replace hx168_3 := (HB.out.cell (World.block_lt_of_cell? w _ hx168_3)).trans hx168_3
            replace hx168_4 := (HB.out.cell (World.block_lt_of_cell? w _ hx168_4)).trans hx168_4
            replace hx168_5 := (HB.out.cell (World.block_lt_of_cell? w _ hx168_5)).trans hx168_5
            replace hx168_6 := (HB.out.cell (World.block_lt_of_cell? w _ hx168_6)).trans hx168_6
            replace hx168_7 := (HB.out.cell (World.block_lt_of_cell? w _ hx168_7)).trans hx168_7
            have HR168_5 := Aside0.mk hi168_5
            have HC168_5 := Aside0.mk hl168_5
            clear hi168_5 hl168_5
            have HR168_6 := Aside0.mk hi168_6
            have HC168_6 := Aside0.mk hl168_6
            clear hi168_6 hl168_6
            replace p168 := eq_true p168
            replace q168 := eq_true q168
            have p169 : 0 ≤ (x10_2 : Int) := of_decide_eq_true (by first | (with_reducible assumption) | assumption)
            have q169 : x10_2 < (l0.length : Int) := of_decide_eq_true (by first | (with_reducible assumption) | assumption)
            obtain ⟨ad169, A169_5, c169_5, A169_6, c169_6, e169, hx169_0, hx169_1, hx169_2, hx169_3, hx169_4, hx169_5, hx169_6, hx169_7, hl169_5, hi169_5, hl169_6, hi169_6⟩ := at_T30 HR0.out x10_2 p169 q169
            obtain rfl : ad168 = ad169 := (by injection e169)
            replace hx169_0 := (HB.out.cell (World.block_lt_of_cell? w _ hx169_0)).trans hx169_0
            replace hx169_1 := (HB.out.cell (World.block_lt_of_cell? w _ hx169_1)).trans hx169_1
            replace hx169_2 := (HB.out.cell (World.block_lt_of_cell? w _ hx169_2)).trans hx169_2
            replace hx169_3 := (HB.out.cell (World.block_lt_of_cell? w _ hx169_3)).trans hx169_3
            replace hx169_4 := (HB.out.cell (World.block_lt_of_cell? w _ hx169_4)).trans hx169_4
            replace hx169_5 := (HB.out.cell (World.block_lt_of_cell? w _ hx169_5)).trans hx169_5
            replace hx169_6 := (HB.out.cell (World.block_lt_of_cell? w _ hx169_6)).trans hx169_6
            replace hx169_7 := (HB.out.cell (World.block_lt_of_cell? w _ hx169_7)).trans hx169_7
            have HR169_5 := Aside0.mk hi169_5
            have HC169_5 := Aside0.mk hl169_5
            clear hi169_5 hl169_5
            have HR169_6 := Aside0.mk hi169_6
            have HC169_6 := Aside0.mk hl169_6
            clear hi169_6 hl169_6
            replace p169 := eq_true p169
            replace q169 := eq_true q169
            have ea_ := Option.some.inj (hx168_5.symm.trans hx169_5)
            injection ea_ with ea_ en_ ec_
            subst ea_
            subst ec_
            clear en_
            have ea_ := Option.some.inj (hx168_6.symm.trans hx169_6)
            injection ea_ with ea_ en_ ec_
            subst ea_
            subst ec_
            clear en_
            go_wp2
            go_roundg k2
            case measure => have := HJ5.out; have := HK2.out; omega
            case rel => exact ⟨(wrap64 (x10_2 + 1)), (by first | rfl | (simp; done) | (simp [*]; done)), H', ⟨by have := HJ5.out; have := HK2.out; omega⟩, ⟨by (with_reducible repeat (first | refine blk_drewN ?_ _ | refine blk_drew ?_ | refine blk_alloc ?_ _)); exact BK166.out⟩, ⟨by repeat (first | (with_reducible first | exact HB.out | apply below_alloc | apply pw_below_drewN | apply below_drew1 | refine below_set ?_ GE166.out) | exact HB.out)⟩⟩
           ·
            rw [if_neg c19] at H
            have c19b0 : (((rd_T30 l0 x10_2).f0) == 1099511627776) = false := beq_eq_false_iff_ne.mpr c19
            have c19b1 : (((rd_T30 l0 x10_2).f0) != 1099511627776) = true := bne_iff_ne.mpr c19
            have H' := Aside0.mk H
            clear H
            have p168 : 0 ≤ (x10_2 : Int) := of_decide_eq_true (by first | (with_reducible assumption) | assumption)
            have q168 : x10_2 < (l0.length : Int) := of_decide_eq_true (by first | (with_reducible assumption) | assumption)
            obtain ⟨ad168, A168_5, c168_5, A168_6, c168_6, e168, hx168_0, hx168_1, hx168_2, hx168_3, hx168_4, hx168_5, hx168_6, hx168_7, hl168_5, hi168_5, hl168_6, hi168_6⟩ := at_T30 HR0.out x10_2 p168 q168
            cases e168
            replace hx168_0 := (HB.out.cell (World.block_lt_of_cell? w _ hx168_0)).trans hx168_0
            replace hx168_1 := (HB.out.cell (World.block_lt_of_cell? w _ hx168_1)).trans hx168_1
            replace hx168_2 := (HB.out.cell (World.block_lt_of_cell? w _ hx168_2)).trans hx168_2
            replace hx168_3 := (HB.out.cell (World.block_lt_of_cell? w _ hx168_3)).trans hx168_3
            replace hx168_4 := (HB.out.cell (World.block_lt_of_cell? w _ hx168_4)).trans hx168_4
            replace hx168_5 := (HB.out.cell (World.block_lt_of_cell? w _ hx168_5)).trans hx168_5
            replace hx168_6 := (HB.out.cell (World.block_lt_of_cell? w _ hx168_6)).trans hx168_6
            replace hx168_7 := (HB.out.cell (World.block_lt_of_cell? w _ hx168_7)).trans hx168_7
            have HR168_5 := Aside0.mk hi168_5
            have HC168_5 := Aside0.mk hl168_5
            clear hi168_5 hl168_5
            have HR168_6 := Aside0.mk hi168_6
            have HC168_6 := Aside0.mk hl168_6
            clear hi168_6 hl168_6
            replace p168 := eq_true p168
            replace q168 := eq_true q168
            have p169 : 0 ≤ (x10_2 : Int) := of_decide_eq_true (by first | (with_reducible assumption) | assumption)
            have q169 : x10_2 < (l0.length : Int) := of_decide_eq_true (by first | (with_reducible assumption) | assumption)
            obtain ⟨ad169, A169_5, c169_5, A169_6, c169_6, e169, hx169_0, hx169_1, hx169_2, hx169_3, hx169_4, hx169_5, hx169_6, hx169_7, hl169_5, hi169_5, hl169_6, hi169_6⟩ := at_T30 HR0.out x10_2 p169 q169
            obtain rfl : ad168 = ad169 := (by injection e169)
            replace hx169_0 := (HB.out.cell (World.block_lt_of_cell? w _ hx169_0)).trans hx169_0
            replace hx169_1 := (HB.out.cell (World.block_lt_of_cell? w _ hx169_1)).trans hx169_1
            replace hx169_2 := (HB.out.cell (World.block_lt_of_cell? w _ hx169_2)).trans hx169_2
            replace hx169_3 := (HB.out.cell (World.block_lt_of_cell? w _ hx169_3)).trans hx169_3
            replace hx169_4 := (HB.out.cell (World.block_lt_of_cell? w _ hx169_4)).trans hx169_4
            replace hx169_5 := (HB.out.cell (World.block_lt_of_cell? w _ hx169_5)).trans hx169_5
            replace hx169_6 := (HB.out.cell (World.block_lt_of_cell? w _ hx169_6)).trans hx169_6
            replace hx169_7 := (HB.out.cell (World.block_lt_of_cell? w _ hx169_7)).trans hx169_7
            have HR169_5 := Aside0.mk hi169_5
            have HC169_5 := Aside0.mk hl169_5
            clear hi169_5 hl169_5
            have HR169_6 := Aside0.mk hi169_6
            have HC169_6 := Aside0.mk hl169_6
            clear hi169_6 hl169_6
            replace p169 := eq_true p169
            replace q169 := eq_true q169
            have ea_ := Option.some.inj (hx168_5.symm.trans hx169_5)
            injection ea_ with ea_ en_ ec_
            subst ea_
            subst ec_
            clear en_
            have ea_ := Option.some.inj (hx168_6.symm.trans hx169_6)
            injection ea_ with ea_ en_ ec_
            subst ea_
            subst ec_
            clear en_
            go_wp2
            go_meet
            case rel => exact ⟨_, (x10_2), (by first | rfl | (simp; done) | (simp [*]; done)), H', ⟨by have := HJ5.out; have := HK2.out; first | omega | exact Nat.le_refl _⟩, ⟨by (with_reducible repeat (first | refine blk_drewN ?_ _ | refine blk_drew ?_ | refine blk_alloc ?_ _)); exact BK166.out⟩, ⟨by repeat (first | (with_reducible first | exact HB.out | apply below_alloc | apply pw_below_drewN | apply below_drew1 | refine below_set ?_ GE166.out) | exact HB.out)⟩⟩
          ·
           rw [if_neg c18] at H
           have c18b0 : (((rd_T30 l0 x10_2).f1.f0) == 0) = false := beq_eq_false_iff_ne.mpr c18
           have c18b1 : (((rd_T30 l0 x10_2).f1.f0) != 0) = true := bne_iff_ne.mpr c18
           have H' := Aside0.mk H
           clear H
           have p168 : 0 ≤ (x10_2 : Int) := of_decide_eq_true (by first | (with_reducible assumption) | assumption)
           have q168 : x10_2 < (l0.length : Int) := of_decide_eq_true (by first | (with_reducible assumption) | assumption)
           obtain ⟨ad168, A168_5, c168_5, A168_6, c168_6, e168, hx168_0, hx168_1, hx168_2, hx168_3, hx168_4, hx168_5, hx168_6, hx168_7, hl168_5, hi168_5, hl168_6, hi168_6⟩ := at_T30 HR0.out x10_2 p168 q168
           cases e168
           replace hx168_0 := (HB.out.cell (World.block_lt_of_cell? w _ hx168_0)).trans hx168_0
           replace hx168_1 := (HB.out.cell (World.block_lt_of_cell? w _ hx168_1)).trans hx168_1
           replace hx168_2 := (HB.out.cell (World.block_lt_of_cell? w _ hx168_2)).trans hx168_2
           replace hx168_3 := (HB.out.cell (World.block_lt_of_cell? w _ hx168_3)).trans hx168_3
           replace hx168_4 := (HB.out.cell (World.block_lt_of_cell? w _ hx168_4)).trans hx168_4
           replace hx168_5 := (HB.out.cell (World.block_lt_of_cell? w _ hx168_5)).trans hx168_5
           replace hx168_6 := (HB.out.cell (World.block_lt_of_cell? w _ hx168_6)).trans hx168_6
           replace hx168_7 := (HB.out.cell (World.block_lt_of_cell? w _ hx168_7)).trans hx168_7
           have HR168_5 := Aside0.mk hi168_5
           have HC168_5 := Aside0.mk hl168_5
           clear hi168_5 hl168_5
           have HR168_6 := Aside0.mk hi168_6
           have HC168_6 := Aside0.mk hl168_6
           clear hi168_6 hl168_6
           replace p168 := eq_true p168
           replace q168 := eq_true q168
           go_wp2
           go_roundg k2
           case measure => have := HJ5.out; have := HK2.out; omega
           case rel => exact ⟨(wrap64 (x10_2 + 1)), (by first | rfl | (simp; done) | (simp [*]; done)), H', ⟨by have := HJ5.out; have := HK2.out; omega⟩, ⟨by (with_reducible repeat (first | refine blk_drewN ?_ _ | refine blk_drew ?_ | refine blk_alloc ?_ _)); exact BK166.out⟩, ⟨by repeat (first | (with_reducible first | exact HB.out | apply below_alloc | apply pw_below_drewN | apply below_drew1 | refine below_set ?_ GE166.out) | exact HB.out)⟩⟩
         ·
          rw [if_neg c17] at H
          exact absurd H (by simp)
        ·
         rw [if_neg c16] at H
         have c16b0 : decide (x10_2 < (l0.length : Int)) = false := decide_eq_false c16
         clear c16
         (first | rw [c16b0] | (simp only [i64_w, i32_w]; rw [c16b0]) | skip)
         have H' := Aside0.mk H
         clear H
         go_wp2
         go_meet
         case rel => exact ⟨_, (x10_2), (by first | rfl | (simp; done) | (simp [*]; done)), H', ⟨by have := HJ5.out; have := HK2.out; first | omega | exact Nat.le_refl _⟩, ⟨by (with_reducible repeat (first | refine blk_drewN ?_ _ | refine blk_drew ?_ | refine blk_alloc ?_ _)); exact BK166.out⟩, ⟨by repeat (first | (with_reducible first | exact HB.out | apply below_alloc | apply pw_below_drewN | apply below_drew1 | refine below_set ?_ GE166.out) | exact HB.out)⟩⟩
     case rest =>
      clear HC15
      try clear c1
      try clear p1
      try clear q1
      try clear hx1
      try clear c2
      try clear p2
      try clear c5
      try clear c5b0
      try clear c5b1
      try clear p6
      try clear c9
      try clear c9b0
      try clear c9b1
      try clear c10
      try clear c10b0
      try clear c11
      try clear c11b0
      try clear c11b1
      try clear c12
      try clear c12b0
      try clear c13
      try clear c14
      try clear c16
      try clear c16b0
      try clear p16
      try clear q16
      try clear hx16
      try clear c17
      try clear c17b0
      try clear c18
      try clear c18b0
      try clear c18b1
      try clear c19
      try clear c19b0
      try clear c19b1
      try clear hcz14_0
      try clear hcz14_1
      try clear hfz14_0
      try clear hfz14_1
      try clear hx168_0
      try clear hx168_1
      try clear hx168_2
      try clear hx168_3
      try clear hx168_4
      try clear hx168_5
      try clear hx168_6
      try clear hx168_7
      try clear hx169_0
      try clear hx169_1
      try clear hx169_2
      try clear hx169_3
      try clear hx169_4
      try clear hx169_5
      try clear hx169_6
      try clear hx169_7
      try clear p168
      try clear p169
      try clear p2
      try clear q168
      try clear q169
      obtain ⟨kq, x10_14, rfl, HA, HJ14, BK166, HB⟩ := hcut
      cases kq with
      | zero => exact absurd HA.out (by simp [itab_Make.j2])
      | succ kj14 =>
       have H := HA.out
       clear HA
       simp only [itab_Make.j2] at H
       replace H := Option.bind_eq_some_iff.mp H
       obtain ⟨t170, A200, H⟩ := H
       replace H : (if x10_14 = (l0.length : Int) then (if x10_14 = 24 then (some (([] : List (S30)), 0, 0, 407)) else (if t170.length < 1466015503701 then ((some (t170 ++ [(⟨0, (⟨0, 0, 0, 0⟩ : S26), ([] : List (S73)), ([] : List (S75)), 0⟩ : S30)] : List (S30))).bind fun y173 => (if 0 ≤ x10_14 then (if x10_14 < (y173.length : Int) then (some ((y173.set (x10_14 : Int).toNat (⟨wrap64 (((rd_T30 y173 x10_14).f0) + 1), (⟨a1, 1, 0, a2⟩ : S26), ([] : List (S73)), ([] : List (S75)), 0⟩ : S30)), x10_14, wrap64 (((rd_T30 y173 x10_14).f0) + 1), 0)) else (none)) else (none))) else (none))) else (if 0 ≤ x10_14 then (if x10_14 < (t170.length : Int) then (some ((t170.set (x10_14 : Int).toNat (⟨wrap64 (((rd_T30 t170 x10_14).f0) + 1), (⟨a1, 1, 0, a2⟩ : S26), ([] : List (S73)), ([] : List (S75)), 0⟩ : S30)), x10_14, wrap64 (((rd_T30 t170 x10_14).f0) + 1), 0)) else (none)) else (none))) = some (r1, r2, r3, r4) := H
       have A20 := Aside0.mk A200
       clear A200
       by_cases c21 : x10_14 = (l0.length : Int)
       ·
        rw [if_pos c21] at H
        have c21b0 : (x10_14 == (l0.length : Int)) = true := beq_iff_eq.mpr c21
        have c21b1 : (x10_14 != (l0.length : Int)) = false := bne_eq_false_iff_eq.mpr c21
        clear c21
        by_cases c22 : x10_14 = 24
        ·
         rw [if_pos c22] at H
         have c22b0 : (x10_14 == 24) = true := beq_iff_eq.mpr c22
         have c22b1 : (x10_14 != 24) = false := bne_eq_false_iff_eq.mpr c22
         clear c22
         simp only [Option.some.injEq, Prod.mk.injEq] at H
         obtain ⟨rfl, rfl, rfl, rfl⟩ := H
         go_wp2_with (first | ((with_reducible refine gate_callee (f := 32) rfl ?_); refine goesL_ (some 58) rfl rfl Try.func32 (by kernel_rfl) rfl #[.slice A0 l0.length c0] rfl (by (try simp only [List.map_toArray, List.map_cons, List.map_nil]); first | done | rfl | (simp only [List.length_drop, List.length_take]; rfl)) ?_; (with_reducible refine (itab_copied.calls _ _ l0 t170 _ ?side1 ?side2 A20.out).mono ?_); (case side1 => repeat (first | exact (Kd.C_below HR0.out HB.out) | (with_reducible refine Kd.C_alloc ?_ _) | (with_reducible refine Kd.C_drewN ?_ _) | (with_reducible refine Kd.C_drew ?_))); (case side2 => exact HC0.out); rintro e w23 ⟨v171, rfl, ho0, hb⟩; refine ⟨_, rfl, ?_⟩; have n0_ := Aside0.mk (Kd.S_lower ho0 (below_size (by repeat (first | (with_reducible first | exact HB.out | apply below_alloc | apply pw_below_drewN | apply below_drew1 | refine below_set ?_ GE166.out) | exact HB.out)))); have n1_ := Aside0.mk (blk_below (g := gb166) (o := .cells #[.int .i64 0, .int .i64 0] 24 (0, 0)) (by (with_reducible repeat (first | refine blk_drewN ?_ _ | refine blk_drew ?_ | refine blk_alloc ?_ _)); exact BK166.out) hb); have n2_ := Aside0.mk (below_step (by repeat (first | (with_reducible first | exact HB.out | apply below_alloc | apply pw_below_drewN | apply below_drew1 | refine below_set ?_ GE166.out) | exact HB.out)) hb); clear BK166; clear HB; have HO172 := n0_; have BK166 := n1_; have HB := n2_; clear n0_ n1_ n2_; (try clear hb); (try clear hb2); (try clear hk); (try clear hi); (try clear ho0); have hcz24_0 : w23.cell? ⟨gb166, 0, none⟩ = some (.int .i64 0) := (blk_cell BK166.out 0).trans rfl; have hcz24_1 : w23.cell? ⟨gb166, 1, none⟩ = some (.int .i64 0) := (blk_cell BK166.out 1).trans rfl; have hfz24_0 := blk_frozen BK166.out 0; have hfz24_1 := blk_frozen BK166.out 1))
         refine bodyPost_ret (results_list (rs := [.tmp 6, .cell 7 24, .tmp 8]) rfl (by simp) (.tmp (.cell gb166 24 #[.int .i64 0, .int .i64 0] (0, 0) _ rfl (by (with_reducible repeat (first | refine blk_drewN ?_ _ | refine blk_drew ?_ | refine blk_alloc ?_ _)); refine blk_put (cs := #[.int .i64 0, .int .i64 0]) ?_ 1 _ rfl; (with_reducible repeat (first | refine blk_drewN ?_ _ | refine blk_drew ?_ | refine blk_alloc ?_ _)); refine blk_put (cs := #[.int .i64 0, .int .i64 0]) ?_ 0 _ rfl; (with_reducible repeat (first | refine blk_drewN ?_ _ | refine blk_drew ?_ | refine blk_alloc ?_ _)); exact BK166.out) Try.underlying24 rfl (by kernel_rfl) (.tmp .nil)))) rfl ?_
         exact ⟨_, by first | rfl | (simp [errW_none, errW_some] <;> rfl) | (simp [*, errW_none, errW_some] <;> rfl), by first | exact Kd.S_nil _ _ _ _ _ | exact Kd.N_nil _ _ _ _ _ | exact Kd.V_nil _ _ _ _ _ | exact Kd.Q_nil _ _ _ _ _ | exact Kd.R_nil _ _ _ _ _, by repeat (first | (with_reducible first | exact HB.out | apply below_alloc | apply pw_below_drewN | apply below_drew1 | refine below_set ?_ GE166.out) | exact HB.out)⟩
        ·
         rw [if_neg c22] at H
         have c22b0 : (x10_14 == 24) = false := beq_eq_false_iff_ne.mpr c22
         have c22b1 : (x10_14 != 24) = true := bne_iff_ne.mpr c22
         by_cases c25 : t170.length < 1466015503701
         ·
          rw [if_pos c25] at H
          have LMc25 := Aside0.mk c25
          clear c25
          obtain ⟨y173, hy173⟩ : ∃ y_ : List (S30), y_ = (t170 ++ [(⟨0, (⟨0, 0, 0, 0⟩ : S26), ([] : List (S73)), ([] : List (S75)), 0⟩ : S30)]) := ⟨_, rfl⟩
          replace H : (if 0 ≤ x10_14 then (if x10_14 < (y173.length : Int) then (some ((y173.set (x10_14 : Int).toNat (⟨wrap64 (((rd_T30 y173 x10_14).f0) + 1), (⟨a1, 1, 0, a2⟩ : S26), ([] : List (S73)), ([] : List (S75)), 0⟩ : S30)), x10_14, wrap64 (((rd_T30 y173 x10_14).f0) + 1), 0)) else (none)) else (none)) = some (r1, r2, r3, r4) := by first | (rw [hy173]; with_reducible exact H) | (have H2_ := (Option.bind_some _ _).symm.trans H; rw [hy173]; with_reducible exact H2_) | (have H2_ := (Option.bind_some _ _).symm.trans H; with_reducible exact H2_) | with_reducible exact H | (rw [hy173]; exact H) | exact H
          have Ny173 := Aside0.mk hy173
          clear hy173
          by_cases c26 : 0 ≤ x10_14
          ·
           rw [if_pos c26] at H
           have c26b0 : decide (0 ≤ x10_14) = true := decide_eq_true c26
           clear c26
           by_cases c27 : x10_14 < (y173.length : Int)
           ·
            rw [if_pos c27] at H
            have c27b0 : decide (x10_14 < (y173.length : Int)) = true := decide_eq_true c27
            clear c27
            obtain ⟨y177, hy177⟩ : ∃ y_ : List (S30), y_ = (y173.set (x10_14 : Int).toNat (⟨wrap64 (((rd_T30 y173 x10_14).f0) + 1), (⟨a1, 1, 0, a2⟩ : S26), ([] : List (S73)), ([] : List (S75)), 0⟩ : S30)) := ⟨_, rfl⟩
            replace H : (some (y177, x10_14, wrap64 (((rd_T30 y173 x10_14).f0) + 1), 0)) = some (r1, r2, r3, r4) := by first | (rw [hy177]; with_reducible exact H) | (have H2_ := (Option.bind_some _ _).symm.trans H; rw [hy177]; with_reducible exact H2_) | (have H2_ := (Option.bind_some _ _).symm.trans H; with_reducible exact H2_) | with_reducible exact H | (rw [hy177]; exact H) | exact H
            have Ny177 := Aside0.mk hy177
            clear hy177
            simp only [Option.some.injEq, Prod.mk.injEq] at H
            obtain ⟨rfl, rfl, rfl, rfl⟩ := H
            go_wp2_with (first | ((with_reducible refine gate_callee (f := 32) rfl ?_); refine goesL_ (some 58) rfl rfl Try.func32 (by kernel_rfl) rfl #[.slice A0 l0.length c0] rfl (by (try simp only [List.map_toArray, List.map_cons, List.map_nil]); first | done | rfl | (simp only [List.length_drop, List.length_take]; rfl)) ?_; (with_reducible refine (itab_copied.calls _ _ l0 t170 _ ?side1 ?side2 A20.out).mono ?_); (case side1 => repeat (first | exact (Kd.C_below HR0.out HB.out) | (with_reducible refine Kd.C_alloc ?_ _) | (with_reducible refine Kd.C_drewN ?_ _) | (with_reducible refine Kd.C_drew ?_))); (case side2 => exact HC0.out); rintro e w29 ⟨v171, rfl, ho0, hb⟩; refine ⟨_, rfl, ?_⟩; have n0_ := Aside0.mk (Kd.S_lower ho0 (below_size (by repeat (first | (with_reducible first | exact HB.out | apply below_alloc | apply pw_below_drewN | apply below_drew1 | refine below_set ?_ GE166.out) | exact HB.out)))); have n1_ := Aside0.mk (blk_below (g := gb166) (o := .cells #[.int .i64 0, .int .i64 0] 24 (0, 0)) (by (with_reducible repeat (first | refine blk_drewN ?_ _ | refine blk_drew ?_ | refine blk_alloc ?_ _)); exact BK166.out) hb); have n2_ := Aside0.mk (below_step (by repeat (first | (with_reducible first | exact HB.out | apply below_alloc | apply pw_below_drewN | apply below_drew1 | refine below_set ?_ GE166.out) | exact HB.out)) hb); clear BK166; clear HB; have HO172 := n0_; have BK166 := n1_; have HB := n2_; clear n0_ n1_ n2_; (try clear hb); (try clear hb2); (try clear hk); (try clear hi); (try clear ho0)) | ((with_reducible refine gate_builtin (b := .append) (xs := #[.tmp 66, .tmp 68]) rfl ?_); at_builtin; refine Kd.S_append k30 (w0 := w) w.heap.size rfl (.tmp 66) (.tmp 68) 22 30 (.agg #[(.int .i64 0), (.int .i64 0), (.int .i64 0), (.int .i64 0), (.int .i64 0), (.slice none 0 0), (.slice none 0 0), (.int .i64 0)]) 96 rfl Try.underlying22 info30 rfl (by decide) (by omega) v171 t170 (⟨0, (⟨0, 0, 0, 0⟩ : S26), ([] : List (S73)), ([] : List (S75)), 0⟩ : S30) [.int .i64 0, .int .i64 0, .int .i64 0, .int .i64 0, .int .i64 0, .slice none 0 0, .slice none 0 0, .int .i64 0] (fun _ => True) (fun _ => False) rfl rfl ?aP (fun k_ hk_ => hk_.elim) ?aF ?aO ?aB ?aS ?aL ?_; (case aP => exact k30_mkM _ _ _ (⟨0, (⟨0, 0, 0, 0⟩ : S26), ([] : List (S73)), ([] : List (S75)), 0⟩ : S30) (Kd.R_nil _ _ _ _ _) (Kd.R_nil _ _ _ _ _)); (case aB => exact (by repeat (first | (with_reducible first | exact HB.out | apply below_alloc | apply pw_below_drewN | apply below_drew1 | refine below_set ?_ GE166.out) | exact HB.out))); (case aF => exact (fun _ _ => trivial)); (case aO => exact (by (with_reducible repeat (first | apply Kd.S_alloc | apply Kd.S_drewN | apply Kd.S_drew)); exact Kd.S_mono HO172.out (fun k_ hk => ⟨trivial, fun e_ => e_⟩))); (case aS => exact (below_size (by repeat (first | (with_reducible first | exact HB.out | apply below_alloc | apply pw_below_drewN | apply below_drew1 | refine below_set ?_ GE166.out) | exact HB.out)))); (case aL => have := LMc25.out; omega); intro v174 w30 ho hb hg hat; rw [← Ny173.out] at ho; have n0_ := Aside0.mk (blk_grown (g := gb166) (o := .cells #[.int .i64 0, .int .i64 0] 24 (0, 0)) (by (with_reducible repeat (first | refine blk_drewN ?_ _ | refine blk_drew ?_ | refine blk_alloc ?_ _)); exact BK166.out) hg (Kd.S_ne HO172.out BK166.out (by decide))); have n1_ := Aside0.mk (hb); have n2_ := Aside0.mk (ho); clear BK166; clear HB; clear HO172; have BK166 := n0_; have HB := n1_; have HO175 := n2_; clear n0_ n1_ n2_; clear ho hb hg hat; obtain ⟨Ao31, co31, eo31⟩ := Kd.S_slice HO175.out; subst eo31; have p176 : 0 ≤ (x10_14 : Int) := of_decide_eq_true (by first | (with_reducible assumption) | assumption); have q176 : x10_14 < (y173.length : Int) := of_decide_eq_true (by first | (with_reducible assumption) | assumption); obtain ⟨ad176, A176_5, c176_5, A176_6, c176_6, e176, hx176_0, hx176_1, hx176_2, hx176_3, hx176_4, hx176_5, hx176_6, hx176_7, hl176_5, hi176_5, hl176_6, hi176_6⟩ := at_T30 (Kd.S_reads' HO175.out).2.2 x10_14 p176 q176; cases e176; obtain ⟨ce176, hce176, hMe176, hcc176⟩ := Kd.S_get HO175.out z30 x10_14 p176 (by first | exact q176 | exact of_decide_eq_true (by first | (with_reducible assumption) | assumption) | (have e_ := (Kd.S_reads' HO175.out).1; omega)); obtain ⟨ve176_5, ve176_6, rfl, ge176_5, ge176_6⟩ := k30_openM hMe176; have hv176_5 := hcc176 5 _ rfl; rw [add_field _ _ 5 (by omega)] at hv176_5; replace hv176_5 := Option.some.inj (hv176_5.symm.trans hx176_5); rw [hv176_5] at ge176_5; have HL176_5 := Aside0.mk (show Kd.R k73 73 _ _ _ _ ((rd_T30 y173 x10_14).f2) from ge176_5); clear hv176_5 ge176_5; have hv176_6 := hcc176 6 _ rfl; rw [add_field _ _ 6 (by omega)] at hv176_6; replace hv176_6 := Option.some.inj (hv176_6.symm.trans hx176_6); rw [hv176_6] at ge176_6; have HL176_6 := Aside0.mk (show Kd.R k75 75 _ _ _ _ ((rd_T30 y173 x10_14).f3) from ge176_6); clear hv176_6 ge176_6; clear hcc176 hce176; have HR176_5 := Aside0.mk hi176_5; have HC176_5 := Aside0.mk hl176_5; clear hi176_5 hl176_5; have HR176_6 := Aside0.mk hi176_6; have HC176_6 := Aside0.mk hl176_6; clear hi176_6 hl176_6; replace p176 := eq_true p176; replace q176 := eq_true q176; have p28 : 0 ≤ (x10_14 : Int) := of_decide_eq_true (by first | (with_reducible assumption) | assumption); have q28 : (x10_14 : Int) < ((y173.length : Int) : Int) := of_decide_eq_true (by first | (with_reducible assumption) | assumption); obtain ⟨go28, co28, eo28, gb28, gl28, cl28, HG28⟩ := Kd.S_form HO175.out (by omega); (first | cases eo28 | (injection eo28 with ea_ en_ ec_; (first | subst ea_ | (injection ea_ with ea_; subst ea_)); subst ec_; clear en_)); have GB28 := Aside0.mk gb28; have GG28 := Aside0.mk HG28; clear gb28 gl28 HG28; (first | simp only [add_plain] at hx176_0 | skip); (first | simp only [add_plain] at hx176_1 | skip); (first | simp only [add_plain] at hx176_2 | skip); (first | simp only [add_plain] at hx176_3 | skip); (first | simp only [add_plain] at hx176_4 | skip); (first | simp only [add_plain] at hx176_5 | skip); (first | simp only [add_plain] at hx176_6 | skip); (first | simp only [add_plain] at hx176_7 | skip); obtain ⟨_, ce28, hcl28, hM28, hcc28, hfr28, _, _⟩ := Kd.S_elem HO175.out z30 (x10_14 : Int) p28 q28; obtain ⟨ve28_5, ve28_6, rfl, ge28_5, ge28_6⟩ := k30_openM hM28; have hx28_0 : w30.cell? ⟨go28, (x10_14 : Int).toNat * 8, none⟩ = some (.int .i64 ((rd_T30 y173 x10_14).f0)) := hcc28 0 _ rfl; have hx28_1 : w30.cell? ⟨go28, (x10_14 : Int).toNat * 8 + 1, none⟩ = some (.int .i64 ((rd_T30 y173 x10_14).f1.f0)) := hcc28 1 _ rfl; have hx28_2 : w30.cell? ⟨go28, (x10_14 : Int).toNat * 8 + 2, none⟩ = some (.int .i64 ((rd_T30 y173 x10_14).f1.f1)) := hcc28 2 _ rfl; have hx28_3 : w30.cell? ⟨go28, (x10_14 : Int).toNat * 8 + 3, none⟩ = some (.int .i64 ((rd_T30 y173 x10_14).f1.f2)) := hcc28 3 _ rfl; have hx28_4 : w30.cell? ⟨go28, (x10_14 : Int).toNat * 8 + 4, none⟩ = some (.int .i64 ((rd_T30 y173 x10_14).f1.f3)) := hcc28 4 _ rfl; have hx28_5 : w30.cell? ⟨go28, (x10_14 : Int).toNat * 8 + 5, none⟩ = some (ve28_5) := hcc28 5 _ rfl; have hx28_6 : w30.cell? ⟨go28, (x10_14 : Int).toNat * 8 + 6, none⟩ = some (ve28_6) := hcc28 6 _ rfl; have hx28_7 : w30.cell? ⟨go28, (x10_14 : Int).toNat * 8 + 7, none⟩ = some (.int .i64 ((rd_T30 y173 x10_14).f4)) := hcc28 7 _ rfl; have hf28_0 : w30.frozen? ⟨go28, (x10_14 : Int).toNat * 8, none⟩ = false := hfr28 0; have hf28_1 : w30.frozen? ⟨go28, (x10_14 : Int).toNat * 8 + 1, none⟩ = false := hfr28 1; have hf28_2 : w30.frozen? ⟨go28, (x10_14 : Int).toNat * 8 + 2, none⟩ = false := hfr28 2; have hf28_3 : w30.frozen? ⟨go28, (x10_14 : Int).toNat * 8 + 3, none⟩ = false := hfr28 3; have hf28_4 : w30.frozen? ⟨go28, (x10_14 : Int).toNat * 8 + 4, none⟩ = false := hfr28 4; have hf28_5 : w30.frozen? ⟨go28, (x10_14 : Int).toNat * 8 + 5, none⟩ = false := hfr28 5; have hf28_6 : w30.frozen? ⟨go28, (x10_14 : Int).toNat * 8 + 6, none⟩ = false := hfr28 6; have hf28_7 : w30.frozen? ⟨go28, (x10_14 : Int).toNat * 8 + 7, none⟩ = false := hfr28 7; clear hcl28 hcc28 hfr28 hM28; replace p28 := eq_true p28; replace q28 := eq_true q28; have HX32 := Aside0.mk (show Kd.S k30 30 w30 w.heap.size (fun k_ => ((fun _ => True)) k_ ∧ ¬ ((fun _ => False)) k_) (.slice (some ⟨go28, 0, none⟩) y173.length co31) y173 from (by (with_reducible repeat (first | apply Kd.S_alloc | apply Kd.S_drewN | apply Kd.S_drew)); exact Kd.S_mono HO175.out (fun k_ hk => ⟨trivial, fun e_ => e_⟩))); obtain ⟨oki32, ce32, hcl32, hM32, hcc32, hfr32, hoki32, hH32⟩ := Kd.S_elem HX32.out z30 (x10_14 : Int) (of_decide_eq_true (by first | (with_reducible assumption) | assumption)) (by have h_ : (x10_14 : Int) < ((y173.length : Int) : Int) := of_decide_eq_true (by first | (with_reducible assumption) | assumption); first | exact h_ | (have e_ := (Kd.S_reads' HO175.out).1; omega) | simpa using h_); obtain ⟨ve32_5, ve32_6, rfl, ge32_5, ge32_6⟩ := k30_openM hM32; have HP32 := Kd.S_seg hH32 (of_decide_eq_true (by first | (with_reducible assumption) | assumption)) (by have h_ : (x10_14 : Int) < ((y173.length : Int) : Int) := of_decide_eq_true (by first | (with_reducible assumption) | assumption); first | exact h_ | (have e_ := (Kd.S_reads' HO175.out).1; omega) | simpa using h_) (seg := [.int .i64 (wrap64 (((rd_T30 y173 x10_14).f0) + 1)), .int .i64 a1, .int .i64 1, .int .i64 0, .int .i64 a2, .slice none 0 0, .slice none 0 0, .int .i64 0]) (j := 0) (show 8 ≤ 8 from by decide) (x' := (⟨wrap64 (((rd_T30 y173 x10_14).f0) + 1), (⟨a1, 1, 0, a2⟩ : S26), ([] : List (S73)), ([] : List (S75)), 0⟩ : S30)) (k30_mkM _ _ _ (⟨wrap64 (((rd_T30 y173 x10_14).f0) + 1), (⟨a1, 1, 0, a2⟩ : S26), ([] : List (S73)), ([] : List (S75)), 0⟩ : S30) (Kd.R_nil _ _ _ _ _) (Kd.R_nil _ _ _ _ _)) (fun _ hk => hk) (fun k_ hk_ => hk_.elim); have hx32_0 := hcc32 0 _ rfl; (try simp only [show (k30).sz = 8 from rfl, Nat.mul_one, Nat.add_zero] at hx32_0); have hf32_0 := hfr32 0; (try simp only [show (k30).sz = 8 from rfl, Nat.mul_one, Nat.add_zero] at hf32_0); have hx32_1 := hcc32 1 _ rfl; (try simp only [show (k30).sz = 8 from rfl, Nat.mul_one, Nat.add_zero] at hx32_1); have hf32_1 := hfr32 1; (try simp only [show (k30).sz = 8 from rfl, Nat.mul_one, Nat.add_zero] at hf32_1); have hx32_2 := hcc32 2 _ rfl; (try simp only [show (k30).sz = 8 from rfl, Nat.mul_one, Nat.add_zero] at hx32_2); have hf32_2 := hfr32 2; (try simp only [show (k30).sz = 8 from rfl, Nat.mul_one, Nat.add_zero] at hf32_2); have hx32_3 := hcc32 3 _ rfl; (try simp only [show (k30).sz = 8 from rfl, Nat.mul_one, Nat.add_zero] at hx32_3); have hf32_3 := hfr32 3; (try simp only [show (k30).sz = 8 from rfl, Nat.mul_one, Nat.add_zero] at hf32_3); have hx32_4 := hcc32 4 _ rfl; (try simp only [show (k30).sz = 8 from rfl, Nat.mul_one, Nat.add_zero] at hx32_4); have hf32_4 := hfr32 4; (try simp only [show (k30).sz = 8 from rfl, Nat.mul_one, Nat.add_zero] at hf32_4); have hx32_5 := hcc32 5 _ rfl; (try simp only [show (k30).sz = 8 from rfl, Nat.mul_one, Nat.add_zero] at hx32_5); have hf32_5 := hfr32 5; (try simp only [show (k30).sz = 8 from rfl, Nat.mul_one, Nat.add_zero] at hf32_5); have hx32_6 := hcc32 6 _ rfl; (try simp only [show (k30).sz = 8 from rfl, Nat.mul_one, Nat.add_zero] at hx32_6); have hf32_6 := hfr32 6; (try simp only [show (k30).sz = 8 from rfl, Nat.mul_one, Nat.add_zero] at hf32_6); have hx32_7 := hcc32 7 _ rfl; (try simp only [show (k30).sz = 8 from rfl, Nat.mul_one, Nat.add_zero] at hx32_7); have hf32_7 := hfr32 7; (try simp only [show (k30).sz = 8 from rfl, Nat.mul_one, Nat.add_zero] at hf32_7); clear hcl32 hcc32 hfr32 hM32 hoki32 hH32) | ((with_reducible refine gate_store (t := 30) (p := 83) rfl ?_); refine store_event (t := 30) (p := 83) (v := ?vo_w33) (w1 := ((((((((w30.setCell ⟨go28, (x10_14 : Int).toNat * 8, none⟩ (.int .i64 (wrap64 (((rd_T30 y173 x10_14).f0) + 1)))).setCell ⟨go28, (x10_14 : Int).toNat * 8 + 1, none⟩ (.int .i64 a1)).setCell ⟨go28, (x10_14 : Int).toNat * 8 + 2, none⟩ (.int .i64 1)).setCell ⟨go28, (x10_14 : Int).toNat * 8 + 3, none⟩ (.int .i64 0)).setCell ⟨go28, (x10_14 : Int).toNat * 8 + 4, none⟩ (.int .i64 a2)).setCell ⟨go28, (x10_14 : Int).toNat * 8 + 5, none⟩ (.slice none 0 0)).setCell ⟨go28, (x10_14 : Int).toNat * 8 + 6, none⟩ (.slice none 0 0)).setCell ⟨go28, (x10_14 : Int).toNat * 8 + 7, none⟩ (.int .i64 0))) ?hg ?ho ?hn ?hr ?_; (case ho => rfl); (case hg => rfl); (case hn => rfl); (case hr => first | (go_simp; done) | (go_simp; rfl)); intro w33 hw; have hg : w30.grownBy w33 (some go28) := (by rw [hw]; exact HP32.2); have hp_ : Kd.S k30 30 w33 w.heap.size (fun _ => True) (.slice (some ⟨go28, 0, none⟩) y173.length co31) y177 := (by rw [hw, Ny177.out]; exact HP32.1); clear HP32; have n0_ := Aside0.mk (blk_grown (g := gb166) (o := .cells #[.int .i64 0, .int .i64 0] 24 (0, 0)) (by (with_reducible repeat (first | refine blk_drewN ?_ _ | refine blk_drew ?_ | refine blk_alloc ?_ _)); exact BK166.out) hg (Kd.S_ne HO175.out BK166.out (by decide))); have n1_ := Aside0.mk (hp_); have n2_ := Aside0.mk (Kd.R_after (v := (.slice (some ⟨go28, 0, none⟩) y173.length co31)) (v1 := (.slice (some ⟨go28, 0, none⟩) y173.length co31)) (ok := (fun _ => True)) (by (with_reducible repeat (first | apply Kd.R_alloc | apply Kd.R_drewN | apply Kd.R_drew)); exact HL176_5.out) hg (.inl rfl)); have n3_ := Aside0.mk (Kd.R_after (v := (.slice (some ⟨go28, 0, none⟩) y173.length co31)) (v1 := (.slice (some ⟨go28, 0, none⟩) y173.length co31)) (ok := (fun _ => True)) (by (with_reducible repeat (first | apply Kd.R_alloc | apply Kd.R_drewN | apply Kd.R_drew)); exact HL176_6.out) hg (.inl rfl)); have n4_ := Aside0.mk ((by rw [hw]; exact below_set (below_set (below_set (below_set (below_set (below_set (below_set (below_set (HB.out) GB28.out) GB28.out) GB28.out) GB28.out) GB28.out) GB28.out) GB28.out) GB28.out : Below w.heap.size w w33)); clear BK166; clear HO175; clear HL176_5; clear HL176_6; clear HB; have BK166 := n0_; have HO175 := n1_; have HL176_5 := n2_; have HL176_6 := n3_; have HB := n4_; clear n0_ n1_ n2_ n3_ n4_; clear hg hw hp_; have hcz34_0 : w33.cell? ⟨gb166, 0, none⟩ = some (.int .i64 0) := (blk_cell BK166.out 0).trans rfl; have hcz34_1 : w33.cell? ⟨gb166, 1, none⟩ = some (.int .i64 0) := (blk_cell BK166.out 1).trans rfl; have hfz34_0 := blk_frozen BK166.out 0; have hfz34_1 := blk_frozen BK166.out 1))
            refine bodyPost_ret (results_list (rs := [.tmp 6, .cell 7 24, .tmp 8]) rfl (by simp) (.tmp (.cell gb166 24 #[.int .i64 x10_14, .int .i64 (wrap64 (((rd_T30 y173 x10_14).f0) + 1))] (0, 0) _ rfl (by (with_reducible repeat (first | refine blk_drewN ?_ _ | refine blk_drew ?_ | refine blk_alloc ?_ _)); refine blk_put (cs := #[.int .i64 x10_14, .int .i64 0]) ?_ 1 _ rfl; (with_reducible repeat (first | refine blk_drewN ?_ _ | refine blk_drew ?_ | refine blk_alloc ?_ _)); refine blk_put (cs := #[.int .i64 0, .int .i64 0]) ?_ 0 _ rfl; (with_reducible repeat (first | refine blk_drewN ?_ _ | refine blk_drew ?_ | refine blk_alloc ?_ _)); exact BK166.out) Try.underlying24 rfl (by kernel_rfl) (.tmp .nil)))) rfl ?_
            exact ⟨_, by first | rfl | (simp [errW_none, errW_some] <;> rfl) | (simp [*, errW_none, errW_some] <;> rfl), by (with_reducible repeat (first | apply Kd.S_alloc | apply Kd.S_drewN | apply Kd.S_drew)); exact Kd.S_mono (Kd.S_far (p := ⟨gb166, 1, none⟩) (Kd.S_far (p := ⟨gb166, 0, none⟩) (Kd.S_types HO175.out BK166.out (by decide)) (fun _ hk => hk.2) (.int .i64 x10_14)) (fun _ hk => hk.2) (.int .i64 (wrap64 (((rd_T30 y173 x10_14).f0) + 1)))) (fun _ hk => trivial), by repeat (first | (with_reducible first | exact HB.out | apply below_alloc | apply pw_below_drewN | apply below_drew1 | refine below_set ?_ GE166.out) | exact HB.out)⟩
           ·
            rw [if_neg c27] at H
            exact absurd H (by simp)
          ·
           rw [if_neg c26] at H
           exact absurd H (by simp)
         ·
          rw [if_neg c25] at H
          exact absurd H (by simp)
       ·
        rw [if_neg c21] at H
        have c21b0 : (x10_14 == (l0.length : Int)) = false := beq_eq_false_iff_ne.mpr c21
        have c21b1 : (x10_14 != (l0.length : Int)) = true := bne_iff_ne.mpr c21
        by_cases c35 : 0 ≤ x10_14
        ·
         rw [if_pos c35] at H
         have c35b0 : decide (0 ≤ x10_14) = true := decide_eq_true c35
         clear c35
         by_cases c36 : x10_14 < (t170.length : Int)
         ·
          rw [if_pos c36] at H
          have c36b0 : decide (x10_14 < (t170.length : Int)) = true := decide_eq_true c36
          clear c36
          obtain ⟨y179, hy179⟩ : ∃ y_ : List (S30), y_ = (t170.set (x10_14 : Int).toNat (⟨wrap64 (((rd_T30 t170 x10_14).f0) + 1), (⟨a1, 1, 0, a2⟩ : S26), ([] : List (S73)), ([] : List (S75)), 0⟩ : S30)) := ⟨_, rfl⟩
          replace H : (some (y179, x10_14, wrap64 (((rd_T30 t170 x10_14).f0) + 1), 0)) = some (r1, r2, r3, r4) := by first | (rw [hy179]; with_reducible exact H) | (have H2_ := (Option.bind_some _ _).symm.trans H; rw [hy179]; with_reducible exact H2_) | (have H2_ := (Option.bind_some _ _).symm.trans H; with_reducible exact H2_) | with_reducible exact H | (rw [hy179]; exact H) | exact H
          have Ny179 := Aside0.mk hy179
          clear hy179
          simp only [Option.some.injEq, Prod.mk.injEq] at H
          obtain ⟨rfl, rfl, rfl, rfl⟩ := H
          go_wp2_with (first | ((with_reducible refine gate_callee (f := 32) rfl ?_); refine goesL_ (some 58) rfl rfl Try.func32 (by kernel_rfl) rfl #[.slice A0 l0.length c0] rfl (by (try simp only [List.map_toArray, List.map_cons, List.map_nil]); first | done | rfl | (simp only [List.length_drop, List.length_take]; rfl)) ?_; (with_reducible refine (itab_copied.calls _ _ l0 t170 _ ?side1 ?side2 A20.out).mono ?_); (case side1 => repeat (first | exact (Kd.C_below HR0.out HB.out) | (with_reducible refine Kd.C_alloc ?_ _) | (with_reducible refine Kd.C_drewN ?_ _) | (with_reducible refine Kd.C_drew ?_))); (case side2 => exact HC0.out); rintro e w38 ⟨v171, rfl, ho0, hb⟩; refine ⟨_, rfl, ?_⟩; have n0_ := Aside0.mk (Kd.S_lower ho0 (below_size (by repeat (first | (with_reducible first | exact HB.out | apply below_alloc | apply pw_below_drewN | apply below_drew1 | refine below_set ?_ GE166.out) | exact HB.out)))); have n1_ := Aside0.mk (blk_below (g := gb166) (o := .cells #[.int .i64 0, .int .i64 0] 24 (0, 0)) (by (with_reducible repeat (first | refine blk_drewN ?_ _ | refine blk_drew ?_ | refine blk_alloc ?_ _)); exact BK166.out) hb); have n2_ := Aside0.mk (below_step (by repeat (first | (with_reducible first | exact HB.out | apply below_alloc | apply pw_below_drewN | apply below_drew1 | refine below_set ?_ GE166.out) | exact HB.out)) hb); clear BK166; clear HB; have HO172 := n0_; have BK166 := n1_; have HB := n2_; clear n0_ n1_ n2_; (try clear hb); (try clear hb2); (try clear hk); (try clear hi); (try clear ho0); obtain ⟨Ao39, co39, eo39⟩ := Kd.S_slice HO172.out; subst eo39; have p178 : 0 ≤ (x10_14 : Int) := of_decide_eq_true (by first | (with_reducible assumption) | assumption); have q178 : x10_14 < (t170.length : Int) := of_decide_eq_true (by first | (with_reducible assumption) | assumption); obtain ⟨ad178, A178_5, c178_5, A178_6, c178_6, e178, hx178_0, hx178_1, hx178_2, hx178_3, hx178_4, hx178_5, hx178_6, hx178_7, hl178_5, hi178_5, hl178_6, hi178_6⟩ := at_T30 (Kd.S_reads' HO172.out).2.2 x10_14 p178 q178; cases e178; obtain ⟨ce178, hce178, hMe178, hcc178⟩ := Kd.S_get HO172.out z30 x10_14 p178 (by first | exact q178 | exact of_decide_eq_true (by first | (with_reducible assumption) | assumption) | (have e_ := (Kd.S_reads' HO172.out).1; omega)); obtain ⟨ve178_5, ve178_6, rfl, ge178_5, ge178_6⟩ := k30_openM hMe178; have hv178_5 := hcc178 5 _ rfl; rw [add_field _ _ 5 (by omega)] at hv178_5; replace hv178_5 := Option.some.inj (hv178_5.symm.trans hx178_5); rw [hv178_5] at ge178_5; have HL178_5 := Aside0.mk (show Kd.R k73 73 _ _ _ _ ((rd_T30 t170 x10_14).f2) from ge178_5); clear hv178_5 ge178_5; have hv178_6 := hcc178 6 _ rfl; rw [add_field _ _ 6 (by omega)] at hv178_6; replace hv178_6 := Option.some.inj (hv178_6.symm.trans hx178_6); rw [hv178_6] at ge178_6; have HL178_6 := Aside0.mk (show Kd.R k75 75 _ _ _ _ ((rd_T30 t170 x10_14).f3) from ge178_6); clear hv178_6 ge178_6; clear hcc178 hce178; have HR178_5 := Aside0.mk hi178_5; have HC178_5 := Aside0.mk hl178_5; clear hi178_5 hl178_5; have HR178_6 := Aside0.mk hi178_6; have HC178_6 := Aside0.mk hl178_6; clear hi178_6 hl178_6; replace p178 := eq_true p178; replace q178 := eq_true q178; have p37 : 0 ≤ (x10_14 : Int) := of_decide_eq_true (by first | (with_reducible assumption) | assumption); have q37 : (x10_14 : Int) < ((t170.length : Int) : Int) := of_decide_eq_true (by first | (with_reducible assumption) | assumption); obtain ⟨go37, co37, eo37, gb37, gl37, cl37, HG37⟩ := Kd.S_form HO172.out (by omega); (first | cases eo37 | (injection eo37 with ea_ en_ ec_; (first | subst ea_ | (injection ea_ with ea_; subst ea_)); subst ec_; clear en_)); have GB37 := Aside0.mk gb37; have GG37 := Aside0.mk HG37; clear gb37 gl37 HG37; (first | simp only [add_plain] at hx178_0 | skip); (first | simp only [add_plain] at hx178_1 | skip); (first | simp only [add_plain] at hx178_2 | skip); (first | simp only [add_plain] at hx178_3 | skip); (first | simp only [add_plain] at hx178_4 | skip); (first | simp only [add_plain] at hx178_5 | skip); (first | simp only [add_plain] at hx178_6 | skip); (first | simp only [add_plain] at hx178_7 | skip); obtain ⟨_, ce37, hcl37, hM37, hcc37, hfr37, _, _⟩ := Kd.S_elem HO172.out z30 (x10_14 : Int) p37 q37; obtain ⟨ve37_5, ve37_6, rfl, ge37_5, ge37_6⟩ := k30_openM hM37; have hx37_0 : w38.cell? ⟨go37, (x10_14 : Int).toNat * 8, none⟩ = some (.int .i64 ((rd_T30 t170 x10_14).f0)) := hcc37 0 _ rfl; have hx37_1 : w38.cell? ⟨go37, (x10_14 : Int).toNat * 8 + 1, none⟩ = some (.int .i64 ((rd_T30 t170 x10_14).f1.f0)) := hcc37 1 _ rfl; have hx37_2 : w38.cell? ⟨go37, (x10_14 : Int).toNat * 8 + 2, none⟩ = some (.int .i64 ((rd_T30 t170 x10_14).f1.f1)) := hcc37 2 _ rfl; have hx37_3 : w38.cell? ⟨go37, (x10_14 : Int).toNat * 8 + 3, none⟩ = some (.int .i64 ((rd_T30 t170 x10_14).f1.f2)) := hcc37 3 _ rfl; have hx37_4 : w38.cell? ⟨go37, (x10_14 : Int).toNat * 8 + 4, none⟩ = some (.int .i64 ((rd_T30 t170 x10_14).f1.f3)) := hcc37 4 _ rfl; have hx37_5 : w38.cell? ⟨go37, (x10_14 : Int).toNat * 8 + 5, none⟩ = some (ve37_5) := hcc37 5 _ rfl; have hx37_6 : w38.cell? ⟨go37, (x10_14 : Int).toNat * 8 + 6, none⟩ = some (ve37_6) := hcc37 6 _ rfl; have hx37_7 : w38.cell? ⟨go37, (x10_14 : Int).toNat * 8 + 7, none⟩ = some (.int .i64 ((rd_T30 t170 x10_14).f4)) := hcc37 7 _ rfl; have hf37_0 : w38.frozen? ⟨go37, (x10_14 : Int).toNat * 8, none⟩ = false := hfr37 0; have hf37_1 : w38.frozen? ⟨go37, (x10_14 : Int).toNat * 8 + 1, none⟩ = false := hfr37 1; have hf37_2 : w38.frozen? ⟨go37, (x10_14 : Int).toNat * 8 + 2, none⟩ = false := hfr37 2; have hf37_3 : w38.frozen? ⟨go37, (x10_14 : Int).toNat * 8 + 3, none⟩ = false := hfr37 3; have hf37_4 : w38.frozen? ⟨go37, (x10_14 : Int).toNat * 8 + 4, none⟩ = false := hfr37 4; have hf37_5 : w38.frozen? ⟨go37, (x10_14 : Int).toNat * 8 + 5, none⟩ = false := hfr37 5; have hf37_6 : w38.frozen? ⟨go37, (x10_14 : Int).toNat * 8 + 6, none⟩ = false := hfr37 6; have hf37_7 : w38.frozen? ⟨go37, (x10_14 : Int).toNat * 8 + 7, none⟩ = false := hfr37 7; clear hcl37 hcc37 hfr37 hM37; replace p37 := eq_true p37; replace q37 := eq_true q37; have HX40 := Aside0.mk (show Kd.S k30 30 w38 w.heap.size (fun k_ => ((fun _ => True)) k_ ∧ ¬ ((fun _ => False)) k_) (.slice (some ⟨go37, 0, none⟩) t170.length co39) t170 from (by (with_reducible repeat (first | apply Kd.S_alloc | apply Kd.S_drewN | apply Kd.S_drew)); exact Kd.S_mono HO172.out (fun k_ hk => ⟨trivial, fun e_ => e_⟩))); obtain ⟨oki40, ce40, hcl40, hM40, hcc40, hfr40, hoki40, hH40⟩ := Kd.S_elem HX40.out z30 (x10_14 : Int) (of_decide_eq_true (by first | (with_reducible assumption) | assumption)) (by have h_ : (x10_14 : Int) < ((t170.length : Int) : Int) := of_decide_eq_true (by first | (with_reducible assumption) | assumption); first | exact h_ | (have e_ := (Kd.S_reads' HO172.out).1; omega) | simpa using h_); obtain ⟨ve40_5, ve40_6, rfl, ge40_5, ge40_6⟩ := k30_openM hM40; have HP40 := Kd.S_seg hH40 (of_decide_eq_true (by first | (with_reducible assumption) | assumption)) (by have h_ : (x10_14 : Int) < ((t170.length : Int) : Int) := of_decide_eq_true (by first | (with_reducible assumption) | assumption); first | exact h_ | (have e_ := (Kd.S_reads' HO172.out).1; omega) | simpa using h_) (seg := [.int .i64 (wrap64 (((rd_T30 t170 x10_14).f0) + 1)), .int .i64 a1, .int .i64 1, .int .i64 0, .int .i64 a2, .slice none 0 0, .slice none 0 0, .int .i64 0]) (j := 0) (show 8 ≤ 8 from by decide) (x' := (⟨wrap64 (((rd_T30 t170 x10_14).f0) + 1), (⟨a1, 1, 0, a2⟩ : S26), ([] : List (S73)), ([] : List (S75)), 0⟩ : S30)) (k30_mkM _ _ _ (⟨wrap64 (((rd_T30 t170 x10_14).f0) + 1), (⟨a1, 1, 0, a2⟩ : S26), ([] : List (S73)), ([] : List (S75)), 0⟩ : S30) (Kd.R_nil _ _ _ _ _) (Kd.R_nil _ _ _ _ _)) (fun _ hk => hk) (fun k_ hk_ => hk_.elim); have hx40_0 := hcc40 0 _ rfl; (try simp only [show (k30).sz = 8 from rfl, Nat.mul_one, Nat.add_zero] at hx40_0); have hf40_0 := hfr40 0; (try simp only [show (k30).sz = 8 from rfl, Nat.mul_one, Nat.add_zero] at hf40_0); have hx40_1 := hcc40 1 _ rfl; (try simp only [show (k30).sz = 8 from rfl, Nat.mul_one, Nat.add_zero] at hx40_1); have hf40_1 := hfr40 1; (try simp only [show (k30).sz = 8 from rfl, Nat.mul_one, Nat.add_zero] at hf40_1); have hx40_2 := hcc40 2 _ rfl; (try simp only [show (k30).sz = 8 from rfl, Nat.mul_one, Nat.add_zero] at hx40_2); have hf40_2 := hfr40 2; (try simp only [show (k30).sz = 8 from rfl, Nat.mul_one, Nat.add_zero] at hf40_2); have hx40_3 := hcc40 3 _ rfl; (try simp only [show (k30).sz = 8 from rfl, Nat.mul_one, Nat.add_zero] at hx40_3); have hf40_3 := hfr40 3; (try simp only [show (k30).sz = 8 from rfl, Nat.mul_one, Nat.add_zero] at hf40_3); have hx40_4 := hcc40 4 _ rfl; (try simp only [show (k30).sz = 8 from rfl, Nat.mul_one, Nat.add_zero] at hx40_4); have hf40_4 := hfr40 4; (try simp only [show (k30).sz = 8 from rfl, Nat.mul_one, Nat.add_zero] at hf40_4); have hx40_5 := hcc40 5 _ rfl; (try simp only [show (k30).sz = 8 from rfl, Nat.mul_one, Nat.add_zero] at hx40_5); have hf40_5 := hfr40 5; (try simp only [show (k30).sz = 8 from rfl, Nat.mul_one, Nat.add_zero] at hf40_5); have hx40_6 := hcc40 6 _ rfl; (try simp only [show (k30).sz = 8 from rfl, Nat.mul_one, Nat.add_zero] at hx40_6); have hf40_6 := hfr40 6; (try simp only [show (k30).sz = 8 from rfl, Nat.mul_one, Nat.add_zero] at hf40_6); have hx40_7 := hcc40 7 _ rfl; (try simp only [show (k30).sz = 8 from rfl, Nat.mul_one, Nat.add_zero] at hx40_7); have hf40_7 := hfr40 7; (try simp only [show (k30).sz = 8 from rfl, Nat.mul_one, Nat.add_zero] at hf40_7); clear hcl40 hcc40 hfr40 hM40 hoki40 hH40) | ((with_reducible refine gate_store (t := 30) (p := 83) rfl ?_); refine store_event (t := 30) (p := 83) (v := ?vo_w41) (w1 := ((((((((w38.setCell ⟨go37, (x10_14 : Int).toNat * 8, none⟩ (.int .i64 (wrap64 (((rd_T30 t170 x10_14).f0) + 1)))).setCell ⟨go37, (x10_14 : Int).toNat * 8 + 1, none⟩ (.int .i64 a1)).setCell ⟨go37, (x10_14 : Int).toNat * 8 + 2, none⟩ (.int .i64 1)).setCell ⟨go37, (x10_14 : Int).toNat * 8 + 3, none⟩ (.int .i64 0)).setCell ⟨go37, (x10_14 : Int).toNat * 8 + 4, none⟩ (.int .i64 a2)).setCell ⟨go37, (x10_14 : Int).toNat * 8 + 5, none⟩ (.slice none 0 0)).setCell ⟨go37, (x10_14 : Int).toNat * 8 + 6, none⟩ (.slice none 0 0)).setCell ⟨go37, (x10_14 : Int).toNat * 8 + 7, none⟩ (.int .i64 0))) ?hg ?ho ?hn ?hr ?_; (case ho => rfl); (case hg => rfl); (case hn => rfl); (case hr => first | (go_simp; done) | (go_simp; rfl)); intro w41 hw; have hg : w38.grownBy w41 (some go37) := (by rw [hw]; exact HP40.2); have hp_ : Kd.S k30 30 w41 w.heap.size (fun _ => True) (.slice (some ⟨go37, 0, none⟩) t170.length co39) y179 := (by rw [hw, Ny179.out]; exact HP40.1); clear HP40; have n0_ := Aside0.mk (blk_grown (g := gb166) (o := .cells #[.int .i64 0, .int .i64 0] 24 (0, 0)) (by (with_reducible repeat (first | refine blk_drewN ?_ _ | refine blk_drew ?_ | refine blk_alloc ?_ _)); exact BK166.out) hg (Kd.S_ne HO172.out BK166.out (by decide))); have n1_ := Aside0.mk (hp_); have n2_ := Aside0.mk (Kd.R_after (v := (.slice (some ⟨go37, 0, none⟩) t170.length co39)) (v1 := (.slice (some ⟨go37, 0, none⟩) t170.length co39)) (ok := (fun _ => True)) (by (with_reducible repeat (first | apply Kd.R_alloc | apply Kd.R_drewN | apply Kd.R_drew)); exact HL178_5.out) hg (.inl rfl)); have n3_ := Aside0.mk (Kd.R_after (v := (.slice (some ⟨go37, 0, none⟩) t170.length co39)) (v1 := (.slice (some ⟨go37, 0, none⟩) t170.length co39)) (ok := (fun _ => True)) (by (with_reducible repeat (first | apply Kd.R_alloc | apply Kd.R_drewN | apply Kd.R_drew)); exact HL178_6.out) hg (.inl rfl)); have n4_ := Aside0.mk ((by rw [hw]; exact below_set (below_set (below_set (below_set (below_set (below_set (below_set (below_set (HB.out) GB37.out) GB37.out) GB37.out) GB37.out) GB37.out) GB37.out) GB37.out) GB37.out : Below w.heap.size w w41)); clear BK166; clear HO172; clear HL178_5; clear HL178_6; clear HB; have BK166 := n0_; have HO172 := n1_; have HL178_5 := n2_; have HL178_6 := n3_; have HB := n4_; clear n0_ n1_ n2_ n3_ n4_; clear hg hw hp_; have hcz42_0 : w41.cell? ⟨gb166, 0, none⟩ = some (.int .i64 0) := (blk_cell BK166.out 0).trans rfl; have hcz42_1 : w41.cell? ⟨gb166, 1, none⟩ = some (.int .i64 0) := (blk_cell BK166.out 1).trans rfl; have hfz42_0 := blk_frozen BK166.out 0; have hfz42_1 := blk_frozen BK166.out 1))
          refine bodyPost_ret (results_list (rs := [.tmp 6, .cell 7 24, .tmp 8]) rfl (by simp) (.tmp (.cell gb166 24 #[.int .i64 x10_14, .int .i64 (wrap64 (((rd_T30 t170 x10_14).f0) + 1))] (0, 0) _ rfl (by (with_reducible repeat (first | refine blk_drewN ?_ _ | refine blk_drew ?_ | refine blk_alloc ?_ _)); refine blk_put (cs := #[.int .i64 x10_14, .int .i64 0]) ?_ 1 _ rfl; (with_reducible repeat (first | refine blk_drewN ?_ _ | refine blk_drew ?_ | refine blk_alloc ?_ _)); refine blk_put (cs := #[.int .i64 0, .int .i64 0]) ?_ 0 _ rfl; (with_reducible repeat (first | refine blk_drewN ?_ _ | refine blk_drew ?_ | refine blk_alloc ?_ _)); exact BK166.out) Try.underlying24 rfl (by kernel_rfl) (.tmp .nil)))) rfl ?_
          exact ⟨_, by first | rfl | (simp [errW_none, errW_some] <;> rfl) | (simp [*, errW_none, errW_some] <;> rfl), by (with_reducible repeat (first | apply Kd.S_alloc | apply Kd.S_drewN | apply Kd.S_drew)); exact Kd.S_mono (Kd.S_far (p := ⟨gb166, 1, none⟩) (Kd.S_far (p := ⟨gb166, 0, none⟩) (Kd.S_types HO172.out BK166.out (by decide)) (fun _ hk => hk.2) (.int .i64 x10_14)) (fun _ hk => hk.2) (.int .i64 (wrap64 (((rd_T30 t170 x10_14).f0) + 1)))) (fun _ hk => trivial), by repeat (first | (with_reducible first | exact HB.out | apply below_alloc | apply pw_below_drewN | apply below_drew1 | refine below_set ?_ GE166.out) | exact HB.out)⟩
         ·
          rw [if_neg c36] at H
          exact absurd H (by simp)
        ·
         rw [if_neg c35] at H
         exact absurd H (by simp)
 ·
  rw [if_neg c5] at H
  have c5b0 : (t167 == 0) = false := beq_eq_false_iff_ne.mpr c5
  have c5b1 : (t167 != 0) = true := bne_iff_ne.mpr c5
  simp only [Option.some.injEq, Prod.mk.injEq] at H
  obtain ⟨rfl, rfl, rfl, rfl⟩ := H
  go_enter Try.func14, Try.ntmps14
  go_wp2_with (first | ((with_reducible refine gate_dst (N := 7) rfl ?_); refine box_event ?hg (N := 7) ?hd (cs := #[.int .i64 0, .int .i64 0]) (t := 24) ?hr ?_; (case hd => rfl); (case hg => rfl); (case hr => first | (go_simp; done) | (go_simp; rfl)); intro gb166 hg w43 hbox hb; have n0_ := Aside0.mk (below_step (by repeat (first | (with_reducible first | exact HB.out | apply below_alloc | apply pw_below_drewN | apply below_drew1) | exact HB.out)) hb); have n1_ := Aside0.mk (hbox); have n2_ := Aside0.mk ((by rw [hg]; exact (below_size (by repeat (first | (with_reducible first | exact HB.out | apply below_alloc | apply pw_below_drewN | apply below_drew1) | exact HB.out))) : w.heap.size ≤ gb166)); have n3_ := Aside0.mk ((by rw [hg]; exact (below_size (by repeat (first | (with_reducible first | exact HB.out | apply below_alloc | apply pw_below_drewN | apply below_drew1) | exact HB.out))) : w.heap.size ≤ gb166)); clear HB; have HB := n0_; have BK166 := n1_; have GW166 := n2_; have GE166 := n3_; clear n0_ n1_ n2_ n3_; clear hb hbox hg) | ((with_reducible refine gate_callee (f := 22) rfl ?_); refine goesL_ (some 14) rfl rfl Try.func22 (by kernel_rfl) rfl #[.slice A0 l0.length c0] rfl (by (try simp only [List.map_toArray, List.map_cons, List.map_nil]); first | done | rfl | (simp only [List.length_drop, List.length_take]; rfl)) ?_; (with_reducible refine (itab_Check.calls k _ _ l0 t167 _ ?side1 ?side2 A4.out).mono ?_); (case side1 => repeat (first | exact (Kd.C_below HR0.out HB.out) | (with_reducible refine Kd.C_alloc ?_ _) | (with_reducible refine Kd.C_drewN ?_ _) | (with_reducible refine Kd.C_drew ?_))); (case side2 => exact HC0.out); rintro e w44 ⟨rfl, hb⟩; refine ⟨_, rfl, ?_⟩; have n0_ := Aside0.mk (blk_below (g := gb166) (o := .cells #[.int .i64 0, .int .i64 0] 24 (0, 0)) (by (with_reducible repeat (first | refine blk_drewN ?_ _ | refine blk_drew ?_ | refine blk_alloc ?_ _)); exact BK166.out) hb); have n1_ := Aside0.mk (below_step (by repeat (first | (with_reducible first | exact HB.out | apply below_alloc | apply pw_below_drewN | apply below_drew1 | refine below_set ?_ GE166.out) | exact HB.out)) hb); clear BK166; clear HB; have BK166 := n0_; have HB := n1_; clear n0_ n1_; (try clear hb); (try clear hb2); (try clear hk); (try clear hi); have hcz45_0 : w44.cell? ⟨gb166, 0, none⟩ = some (.int .i64 0) := (blk_cell BK166.out 0).trans rfl; have hcz45_1 : w44.cell? ⟨gb166, 1, none⟩ = some (.int .i64 0) := (blk_cell BK166.out 1).trans rfl; have hfz45_0 := blk_frozen BK166.out 0; have hfz45_1 := blk_frozen BK166.out 1))
  refine bodyPost_ret (results_list (rs := [.tmp 6, .cell 7 24, .tmp 8]) rfl (by simp) (.tmp (.cell gb166 24 #[.int .i64 0, .int .i64 0] (0, 0) _ rfl (by (with_reducible repeat (first | refine blk_drewN ?_ _ | refine blk_drew ?_ | refine blk_alloc ?_ _)); refine blk_put (cs := #[.int .i64 0, .int .i64 0]) ?_ 1 _ rfl; (with_reducible repeat (first | refine blk_drewN ?_ _ | refine blk_drew ?_ | refine blk_alloc ?_ _)); refine blk_put (cs := #[.int .i64 0, .int .i64 0]) ?_ 0 _ rfl; (with_reducible repeat (first | refine blk_drewN ?_ _ | refine blk_drew ?_ | refine blk_alloc ?_ _)); exact BK166.out) Try.underlying24 rfl (by kernel_rfl) (.tmp .nil)))) rfl ?_
  exact ⟨_, by first | rfl | (simp [errW_none, errW_some] <;> rfl) | (simp [*, errW_none, errW_some] <;> rfl), by first | exact Kd.S_nil _ _ _ _ _ | exact Kd.N_nil _ _ _ _ _ | exact Kd.V_nil _ _ _ _ _ | exact Kd.Q_nil _ _ _ _ _ | exact Kd.R_nil _ _ _ _ _, by repeat (first | (with_reducible first | exact HB.out | apply below_alloc | apply pw_below_drewN | apply below_drew1 | refine below_set ?_ GE166.out) | exact HB.out)⟩

end Go.Proofs.Ytgepphlkibnhdaa.PItab
