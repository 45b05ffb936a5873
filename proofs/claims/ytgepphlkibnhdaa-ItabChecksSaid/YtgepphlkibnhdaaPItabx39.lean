/- A text of this session's own, written by a program (wip/tools). -/
import Derived.Test.YtgepphlkibnhdaaPItabx0
import Derived.Test.YtgepphlkibnhdaaPItabx38
namespace Go.Proofs.Ytgepphlkibnhdaa.PItab
open Go.RowKit Go.Proofs.YtgepphlkibnhdaaW.PrintWords Go.Proofs.YtgepphlkibnhdaaW.PrintLast Go.Proofs.YtgepphlkibnhdaaW.PrintMore
attribute [local go_sem] max2_int min2_int max_two min_two max_three min_three max_four min_four   -- for this text's walks alone
set_option linter.unusedVariables false
set_option linter.unusedSimpArgs false

/-! ### itab_Bytes: function 24 -/
def itab_Bytes.l0 : Nat → Int → List (S30) → Int → Int → Option (Int)
  | 0, _, _, _, _ => none
  | k + 1, x3, x6, x7, x8 => if x8 < x7 then (if 0 ≤ x8 then (if x8 < (x6.length : Int) then ((blob_Bytes.f k ((rd_T30 x6 x8).f2)).bind fun t466 => (itab_Bytes.l0 k (wrap64 (x3 + t466)) x6 x7 (wrap64 (x8 + 1)))) else (none)) else (none)) else (some x3)
def itab_Bytes.f (k : Nat) (l0 : List (S30)) : Option (Int) := itab_Bytes.l0 k 0 l0 (l0.length : Int) 0
theorem itab_Bytes.mono_l : ∀ k, (∀ y0 y1 y2 y3, LeO (itab_Bytes.l0 k y0 y1 y2 y3) (itab_Bytes.l0 (k + 1) y0 y1 y2 y3))
  | 0 => fun _ _ _ _ r h => by simp [itab_Bytes.l0] at h
  | k + 1 => by
    have ih0 := itab_Bytes.mono_l k
    · intro y0 y1 y2 y3
      unfold itab_Bytes.l0
      repeat' first
      | (with_reducible exact ih0 _ _ _ _)
      | (with_reducible exact blob_Bytes.mono _ _)
      | (with_reducible exact LeO.refl _)
      | (with_reducible exact LeO.none _)
      | (with_reducible refine LeO.ite ?_ ?_)
      | (with_reducible refine LeO.bind ?_ (fun _ => ?_))
      | exact ih0 _ _ _ _
      | exact blob_Bytes.mono _ _
      | exact LeO.none _
      | refine LeO.ite ?_ ?_
      | refine LeO.bind ?_ (fun _ => ?_)
theorem itab_Bytes.mono : ∀ a0 k, LeO (itab_Bytes.f k a0) (itab_Bytes.f (k + 1) a0) := by
  intro a0 k
  have ih0 := itab_Bytes.mono_l k
  unfold itab_Bytes.f
  repeat' first
      | (with_reducible exact ih0 _ _ _ _)
      | (with_reducible exact blob_Bytes.mono _ _)
      | (with_reducible exact LeO.refl _)
      | (with_reducible exact LeO.none _)
      | (with_reducible refine LeO.ite ?_ ?_)
      | (with_reducible refine LeO.bind ?_ (fun _ => ?_))
      | exact ih0 _ _ _ _
      | exact blob_Bytes.mono _ _
      | exact LeO.none _
      | refine LeO.ite ?_ ?_
      | refine LeO.bind ?_ (fun _ => ?_)
set_option maxHeartbeats 8000000 in
set_option maxRecDepth 100000 in
theorem itab_Bytes.calls (k : Nat) (A0 : Option Addr) (c0 : Nat) (l0 : List (S30)) (r : Int) (w : World) (hr0 : Kd.C k30 w A0 l0.length l0) (hc0 : l0.length ≤ c0) (h : itab_Bytes.f k l0 = some r) :
    Calls Try.prog 24 #[.slice A0 l0.length c0] w fun e w' => e = .returned (.int .i64 r) ∧ Below w.heap.size w w' := by
  have hu30 := Try.underlying30
  have HR0 := Aside0.mk hr0
  have HC0 := Aside0.mk hc0
  clear hr0 hc0
  have HB := Aside0.mk (Below.refl w.heap.size w)
  have H : (itab_Bytes.l0 k 0 l0 (l0.length : Int) 0) = some r := h
  clear h
  have H' := Aside0.mk H
  clear H
  go_enter Try.func24, Try.ntmps24
  go_wp2
  go_loopg [3, 8] k (fun kq v3 v8 w' => ∃ (x3_1 : Int) (x8_1 : Int), v3 = .int .i64 x3_1 ∧ v8 = .int .i64 x8_1 ∧ Aside0 (itab_Bytes.l0 kq x3_1 l0 (l0.length : Int) x8_1 = some r) ∧ Aside0 (kq ≤ k) ∧ Aside0 (Below w.heap.size w w'))
  case atStart => exact ⟨(0), (0), (by first | rfl | (simp; done) | (simp [*]; done)), (by first | rfl | (simp; done) | (simp [*]; done)), H', ⟨Nat.le_refl _⟩, ⟨by repeat (first | (with_reducible first | exact HB.out | apply below_alloc | apply pw_below_drewN | apply below_drew1) | exact HB.out)⟩⟩
  case round =>
    clear H'
    obtain ⟨x3_1, x8_1, rfl, rfl, HA, HK1, HB⟩ := hrel
    cases gk with
    | zero => exact absurd HA.out (by simp [itab_Bytes.l0])
    | succ k1 =>
      have H := HA.out
      clear HA
      simp only [itab_Bytes.l0] at H
      by_cases c2 : x8_1 < (l0.length : Int)
      · rw [if_pos c2] at H
        have c2b0 : decide (x8_1 < (l0.length : Int)) = true := decide_eq_true c2
        clear c2
        by_cases c3 : 0 ≤ x8_1
        · rw [if_pos c3] at H
          have c3b0 : decide (0 ≤ x8_1) = true := decide_eq_true c3
          clear c3
          by_cases c4 : x8_1 < (l0.length : Int)
          · rw [if_pos c4] at H
            have c4b0 : decide (x8_1 < (l0.length : Int)) = true := decide_eq_true c4
            clear c4
            replace H := Option.bind_eq_some_iff.mp H
            obtain ⟨t466, A50, H⟩ := H
            replace H : (itab_Bytes.l0 k1 (wrap64 (x3_1 + t466)) l0 (l0.length : Int) (wrap64 (x8_1 + 1))) = some r := H
            have A5 := Aside0.mk A50
            clear A50
            have H' := Aside0.mk H
            clear H
            have p464 : 0 ≤ (x8_1 : Int) := of_decide_eq_true (by first | (with_reducible assumption) | assumption)
            have q464 : x8_1 < (l0.length : Int) := of_decide_eq_true (by first | (with_reducible assumption) | assumption)
            obtain ⟨ad464, A464_5, c464_5, A464_6, c464_6, e464, hx464_0, hx464_1, hx464_2, hx464_3, hx464_4, hx464_5, hx464_6, hx464_7, hl464_5, hi464_5, hl464_6, hi464_6⟩ := at_T30 HR0.out x8_1 p464 q464
            cases e464
            replace hx464_0 := (HB.out.cell (World.block_lt_of_cell? w _ hx464_0)).trans hx464_0
            replace hx464_1 := (HB.out.cell (World.block_lt_of_cell? w _ hx464_1)).trans hx464_1
            replace hx464_2 := (HB.out.cell (World.block_lt_of_cell? w _ hx464_2)).trans hx464_2
            replace hx464_3 := (HB.out.cell (World.block_lt_of_cell? w _ hx464_3)).trans hx464_3
            replace hx464_4 := (HB.out.cell (World.block_lt_of_cell? w _ hx464_4)).trans hx464_4
            replace hx464_5 := (HB.out.cell (World.block_lt_of_cell? w _ hx464_5)).trans hx464_5
            replace hx464_6 := (HB.out.cell (World.block_lt_of_cell? w _ hx464_6)).trans hx464_6
            replace hx464_7 := (HB.out.cell (World.block_lt_of_cell? w _ hx464_7)).trans hx464_7
            have HR464_5 := Aside0.mk hi464_5
            have HC464_5 := Aside0.mk hl464_5
            clear hi464_5 hl464_5
            have HR464_6 := Aside0.mk hi464_6
            have HC464_6 := Aside0.mk hl464_6
            clear hi464_6 hl464_6
            replace p464 := eq_true p464
            replace q464 := eq_true q464
            go_wp2_with (first | ((with_reducible refine gate_dst (N := 5) rfl ?_); refine box_event ?hg (N := 5) ?hd (cs := #[.int .i64 0, .int .i64 0, .int .i64 0, .int .i64 0, .int .i64 0, .slice none 0 0, .slice none 0 0, .int .i64 0]) (t := 30) ?hr ?_; (case hd => rfl); (case hg => rfl); (case hr => first | (go_simp; done) | (go_simp; rfl)); intro gb465 hg w6 hbox hb; have n0_ := Aside0.mk (below_step (by repeat (first | (with_reducible first | exact HB.out | apply below_alloc | apply pw_below_drewN | apply below_drew1) | exact HB.out)) hb); have n1_ := Aside0.mk (hbox); have n2_ := Aside0.mk ((by rw [hg]; exact (below_size (by repeat (first | (with_reducible first | exact HB.out | apply below_alloc | apply pw_below_drewN | apply below_drew1) | exact HB.out))) : w.heap.size ≤ gb465)); have n3_ := Aside0.mk ((by rw [hg]; exact (below_size (by repeat (first | (with_reducible first | exact HB.out | apply below_alloc | apply pw_below_drewN | apply below_drew1) | exact HB.out))) : w.heap.size ≤ gb465)); clear HB; have HB := n0_; have BK465 := n1_; have GW465 := n2_; have GE465 := n3_; clear n0_ n1_ n2_ n3_; clear hb hbox hg; have hcz7_0 : w6.cell? ⟨gb465, 0, none⟩ = some (.int .i64 0) := (blk_cell BK465.out 0).trans rfl; have hcz7_1 : w6.cell? ⟨gb465, 1, none⟩ = some (.int .i64 0) := (blk_cell BK465.out 1).trans rfl; have hcz7_2 : w6.cell? ⟨gb465, 2, none⟩ = some (.int .i64 0) := (blk_cell BK465.out 2).trans rfl; have hcz7_3 : w6.cell? ⟨gb465, 3, none⟩ = some (.int .i64 0) := (blk_cell BK465.out 3).trans rfl; have hcz7_4 : w6.cell? ⟨gb465, 4, none⟩ = some (.int .i64 0) := (blk_cell BK465.out 4).trans rfl; have hcz7_5 : w6.cell? ⟨gb465, 5, none⟩ = some (.slice none 0 0) := (blk_cell BK465.out 5).trans rfl; have hcz7_6 : w6.cell? ⟨gb465, 6, none⟩ = some (.slice none 0 0) := (blk_cell BK465.out 6).trans rfl; have hcz7_7 : w6.cell? ⟨gb465, 7, none⟩ = some (.int .i64 0) := (blk_cell BK465.out 7).trans rfl; have hfz7_0 := blk_frozen BK465.out 0; have hfz7_1 := blk_frozen BK465.out 1; have hfz7_2 := blk_frozen BK465.out 2; have hfz7_3 := blk_frozen BK465.out 3; have hfz7_4 := blk_frozen BK465.out 4; have hfz7_5 := blk_frozen BK465.out 5; have hfz7_6 := blk_frozen BK465.out 6; have hfz7_7 := blk_frozen BK465.out 7) | ((with_reducible refine gate_callee (f := 36) rfl ?_); refine goesL_ (some 15) rfl rfl Try.func36 (by kernel_rfl) rfl #[.slice A464_5 ((rd_T30 l0 x8_1).f2).length c464_5] rfl (by (try simp only [List.map_toArray, List.map_cons, List.map_nil]); first | done | rfl | (simp only [List.length_drop, List.length_take]; rfl)) ?_; (with_reducible refine (blob_Bytes.calls k1 _ _ ((rd_T30 l0 x8_1).f2) t466 _ ?side1 ?side2 A5.out).mono ?_); (case side1 => exact Kd.C_below HR464_5.out (by repeat (first | (with_reducible first | exact HB.out | apply below_alloc | apply pw_below_drewN | apply below_drew1 | refine below_set ?_ GE465.out) | exact HB.out))); (case side2 => exact HC464_5.out); rintro e w8 ⟨rfl, hb⟩; refine ⟨_, rfl, ?_⟩; have n0_ := Aside0.mk (blk_below (g := gb465) (o := .cells #[.int .i64 ((rd_T30 l0 x8_1).f0), .int .i64 ((rd_T30 l0 x8_1).f1.f0), .int .i64 ((rd_T30 l0 x8_1).f1.f1), .int .i64 ((rd_T30 l0 x8_1).f1.f2), .int .i64 ((rd_T30 l0 x8_1).f1.f3), .slice A464_5 ((rd_T30 l0 x8_1).f2).length c464_5, .slice A464_6 ((rd_T30 l0 x8_1).f3).length c464_6, .int .i64 ((rd_T30 l0 x8_1).f4)] 30 (0, 0)) (by (with_reducible repeat (first | refine blk_drewN ?_ _ | refine blk_drew ?_ | refine blk_alloc ?_ _)); refine blk_put (cs := #[.int .i64 ((rd_T30 l0 x8_1).f0), .int .i64 ((rd_T30 l0 x8_1).f1.f0), .int .i64 ((rd_T30 l0 x8_1).f1.f1), .int .i64 ((rd_T30 l0 x8_1).f1.f2), .int .i64 ((rd_T30 l0 x8_1).f1.f3), .slice A464_5 ((rd_T30 l0 x8_1).f2).length c464_5, .slice A464_6 ((rd_T30 l0 x8_1).f3).length c464_6, .int .i64 0]) ?_ 7 _ rfl; (with_reducible repeat (first | refine blk_drewN ?_ _ | refine blk_drew ?_ | refine blk_alloc ?_ _)); refine blk_put (cs := #[.int .i64 ((rd_T30 l0 x8_1).f0), .int .i64 ((rd_T30 l0 x8_1).f1.f0), .int .i64 ((rd_T30 l0 x8_1).f1.f1), .int .i64 ((rd_T30 l0 x8_1).f1.f2), .int .i64 ((rd_T30 l0 x8_1).f1.f3), .slice A464_5 ((rd_T30 l0 x8_1).f2).length c464_5, .slice none 0 0, .int .i64 0]) ?_ 6 _ rfl; (with_reducible repeat (first | refine blk_drewN ?_ _ | refine blk_drew ?_ | refine blk_alloc ?_ _)); refine blk_put (cs := #[.int .i64 ((rd_T30 l0 x8_1).f0), .int .i64 ((rd_T30 l0 x8_1).f1.f0), .int .i64 ((rd_T30 l0 x8_1).f1.f1), .int .i64 ((rd_T30 l0 x8_1).f1.f2), .int .i64 ((rd_T30 l0 x8_1).f1.f3), .slice none 0 0, .slice none 0 0, .int .i64 0]) ?_ 5 _ rfl; (with_reducible repeat (first | refine blk_drewN ?_ _ | refine blk_drew ?_ | refine blk_alloc ?_ _)); refine blk_put (cs := #[.int .i64 ((rd_T30 l0 x8_1).f0), .int .i64 ((rd_T30 l0 x8_1).f1.f0), .int .i64 ((rd_T30 l0 x8_1).f1.f1), .int .i64 ((rd_T30 l0 x8_1).f1.f2), .int .i64 0, .slice none 0 0, .slice none 0 0, .int .i64 0]) ?_ 4 _ rfl; (with_reducible repeat (first | refine blk_drewN ?_ _ | refine blk_drew ?_ | refine blk_alloc ?_ _)); refine blk_put (cs := #[.int .i64 ((rd_T30 l0 x8_1).f0), .int .i64 ((rd_T30 l0 x8_1).f1.f0), .int .i64 ((rd_T30 l0 x8_1).f1.f1), .int .i64 0, .int .i64 0, .slice none 0 0, .slice none 0 0, .int .i64 0]) ?_ 3 _ rfl; (with_reducible repeat (first | refine blk_drewN ?_ _ | refine blk_drew ?_ | refine blk_alloc ?_ _)); refine blk_put (cs := #[.int .i64 ((rd_T30 l0 x8_1).f0), .int .i64 ((rd_T30 l0 x8_1).f1.f0), .int .i64 0, .int .i64 0, .int .i64 0, .slice none 0 0, .slice none 0 0, .int .i64 0]) ?_ 2 _ rfl; (with_reducible repeat (first | refine blk_drewN ?_ _ | refine blk_drew ?_ | refine blk_alloc ?_ _)); refine blk_put (cs := #[.int .i64 ((rd_T30 l0 x8_1).f0), .int .i64 0, .int .i64 0, .int .i64 0, .int .i64 0, .slice none 0 0, .slice none 0 0, .int .i64 0]) ?_ 1 _ rfl; (with_reducible repeat (first | refine blk_drewN ?_ _ | refine blk_drew ?_ | refine blk_alloc ?_ _)); refine blk_put (cs := #[.int .i64 0, .int .i64 0, .int .i64 0, .int .i64 0, .int .i64 0, .slice none 0 0, .slice none 0 0, .int .i64 0]) ?_ 0 _ rfl; (with_reducible repeat (first | refine blk_drewN ?_ _ | refine blk_drew ?_ | refine blk_alloc ?_ _)); exact BK465.out) hb); have n1_ := Aside0.mk (below_step (by repeat (first | (with_reducible first | exact HB.out | apply below_alloc | apply pw_below_drewN | apply below_drew1 | refine below_set ?_ GE465.out) | exact HB.out)) hb); clear BK465; clear HB; have BK465 := n0_; have HB := n1_; clear n0_ n1_; (try clear hb); (try clear hb2); (try clear hk); (try clear hi)))
            go_roundg k1
            case measure => have := HK1.out; omega
            case rel => exact ⟨(wrap64 (x3_1 + t466)), (wrap64 (x8_1 + 1)), (by first | rfl | (simp; done) | (simp [*]; done)), (by first | rfl | (simp; done) | (simp [*]; done)), H', ⟨by have := HK1.out; omega⟩, ⟨by repeat (first | (with_reducible first | exact HB.out | apply below_alloc | apply pw_below_drewN | apply below_drew1 | refine below_set ?_ GE465.out) | exact HB.out)⟩⟩
          · rw [if_neg c4] at H
            exact absurd H (by simp)
        · rw [if_neg c3] at H
          exact absurd H (by simp)
      · rw [if_neg c2] at H
        have c2b0 : decide (x8_1 < (l0.length : Int)) = false := decide_eq_false c2
        clear c2
        obtain rfl := Option.some.inj H
        go_wp2
        go_ret
        exact ⟨by first | rfl | (simp [errW_none, errW_some] <;> rfl) | (simp [*, errW_none, errW_some] <;> rfl), by repeat (first | (with_reducible first | exact HB.out | apply below_alloc | apply pw_below_drewN | apply below_drew1) | exact HB.out)⟩

end Go.Proofs.Ytgepphlkibnhdaa.PItab
