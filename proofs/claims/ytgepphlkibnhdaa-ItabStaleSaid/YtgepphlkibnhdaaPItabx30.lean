/- A text of this session's own, written by a program (wip/tools). -/
import Derived.Test.YtgepphlkibnhdaaPItabx0
import Derived.Test.YtgepphlkibnhdaaPItabx15
import Derived.Test.YtgepphlkibnhdaaPItabx22
import Derived.Test.YtgepphlkibnhdaaPItabx23
import Derived.Test.YtgepphlkibnhdaaPItabx24
import Derived.Test.YtgepphlkibnhdaaPItabx25
namespace Go.Proofs.Ytgepphlkibnhdaa.PItab
open Go.RowKit Go.Proofs.YtgepphlkibnhdaaW.PrintWords Go.Proofs.YtgepphlkibnhdaaW.PrintLast Go.Proofs.YtgepphlkibnhdaaW.PrintMore
attribute [local go_sem] max2_int min2_int max_two min_two max_three min_three max_four min_four   -- for this text's walks alone
set_option linter.unusedVariables false
set_option linter.unusedSimpArgs false

/-! ### sextonlaw09_ItabStale: function 5 -/
mutual
def sextonlaw09_ItabStale.j0 : Nat → List (S49) → List (S30) → Bool → Option (Bool)
  | 0, _, _, _ => none
  | k + 1, x0, x3, x25 => if x25 = true then (if (x3.length : Int) > 0 then ((sextonlaw09_again.f k).bind fun t305 => (some t305)) else (some false)) else (sextonlaw09_ItabStale.l0 k x3 ([] : List (S24)) ([] : List Bool) x0 (x0.length : Int) 0)
def sextonlaw09_ItabStale.l0 : Nat → List (S30) → List (S24) → List Bool → List (S49) → Int → Int → Option (Bool)
  | 0, _, _, _, _, _, _ => none
  | k + 1, x3, x4, x5, x32, x33, x34 => if x34 < x33 then (if 0 ≤ x34 then (if x34 < (x32.length : Int) then (if ((rd_T49 x32 x34).f0) = 0 then (sextonlaw09_ItabStale.j2 k x3 x4 x5 x32 x33 x34 true ((rd_T49 x32 x34).f0) ((rd_T49 x32 x34).f1)) else (sextonlaw09_ItabStale.j2 k x3 x4 x5 x32 x33 x34 (((rd_T49 x32 x34).f0) == 1) ((rd_T49 x32 x34).f0) ((rd_T49 x32 x34).f1))) else (none)) else (none)) else ((sextonlaw09_again.f k).bind fun t306 => (some t306))
def sextonlaw09_ItabStale.j2 : Nat → List (S30) → List (S24) → List Bool → List (S49) → Int → Int → Bool → Int → Int → Option (Bool)
  | 0, _, _, _, _, _, _, _, _, _ => none
  | k + 1, x3, x4, x5, x32, x33, x34, x45, x309000, x309001 => if x45 = true then ((itab_Make.f k x3 (wrap64 (x309000 + 1)) 0).bind fun bt309 => (if bt309.2.2.2 = 0 then (if x4.length < 8796093022208 then (if x5.length < 140737488355328 then (sextonlaw09_ItabStale.j4 k bt309.1 (x4 ++ [(⟨bt309.2.1, bt309.2.2.1⟩ : S24)]) (x5 ++ [false]) x32 x33 x34) else (none)) else (none)) else (if bt309.2.2.2 = 407 then (sextonlaw09_ItabStale.j4 k x3 x4 x5 x32 x33 x34) else (some false)))) else (if x309001 ≥ 0 then (sextonlaw09_ItabStale.j3 k x3 x4 x5 x32 x33 x34 (decide (x309001 < (x4.length : Int))) x309000 x309001) else (sextonlaw09_ItabStale.j3 k x3 x4 x5 x32 x33 x34 false x309000 x309001))
def sextonlaw09_ItabStale.j4 : Nat → List (S30) → List (S24) → List Bool → List (S49) → Int → Int → Option (Bool)
  | 0, _, _, _, _, _, _ => none
  | k + 1, x3, x4, x5, x32, x33, x34 => sextonlaw09_ItabStale.l1 k x3 x4 x5 x32 x33 x34 x4 (x4.length : Int) 0
def sextonlaw09_ItabStale.l1 : Nat → List (S30) → List (S24) → List Bool → List (S49) → Int → Int → List (S24) → Int → Int → Option (Bool)
  | 0, _, _, _, _, _, _, _, _, _ => none
  | k + 1, x3, x4, x5, x32, x33, x34, x102, x103, x104 => if x104 < x103 then (if 0 ≤ x104 then (if x104 < (x102.length : Int) then ((itab_Find.f k x3 ((rd_T24 x102 x104).f0) ((rd_T24 x102 x104).f1)).bind fun bt331 => (if x104 < (x5.length : Int) then (if ((rdOf false x5 x104) != (bt331.2.2.2.2.2.2.2.2 == 401)) = true then (some false) else (if rdOf false x5 x104 = true then (sextonlaw09_ItabStale.l1 k x3 x4 x5 x32 x33 x34 x102 x103 (wrap64 (x104 + 1))) else (if bt331.2.2.2.2.2.2.2.2 = 0 then (sextonlaw09_ItabStale.l1 k x3 x4 x5 x32 x33 x34 x102 x103 (wrap64 (x104 + 1))) else (some false)))) else (none))) else (none)) else (none)) else (sextonlaw09_ItabStale.l0 k x3 x4 x5 x32 x33 (wrap64 (x34 + 1)))
def sextonlaw09_ItabStale.j3 : Nat → List (S30) → List (S24) → List Bool → List (S49) → Int → Int → Bool → Int → Int → Option (Bool)
  | 0, _, _, _, _, _, _, _, _, _ => none
  | k + 1, x3, x4, x5, x32, x33, x34, x76, x309000, x309001 => if x76 = true then (if 0 ≤ x309001 then (if x309001 < (x4.length : Int) then ((itab_Drop.f k x3 ((rd_T24 x4 x309001).f0) ((rd_T24 x4 x309001).f1)).bind fun bt323 => (if x309001 < (x5.length : Int) then (if ((bt323.2 == 0) == (rdOf false x5 x309001)) = true then (some false) else (if bt323.2 = 0 then (sextonlaw09_ItabStale.j4 k bt323.1 x4 (x5.set (x309001 : Int).toNat true) x32 x33 x34) else (sextonlaw09_ItabStale.j4 k x3 x4 x5 x32 x33 x34))) else (none))) else (none)) else (none)) else (sextonlaw09_ItabStale.j4 k x3 x4 x5 x32 x33 x34)
end
def sextonlaw09_ItabStale.f (k : Nat) (l0 : List (S49)) : Option (Bool) := (itab_New.f).bind fun t302 => (if (t302.length : Int) = 0 then (sextonlaw09_ItabStale.j0 k l0 t302 true) else (sextonlaw09_ItabStale.j0 k l0 t302 (decide ((l0.length : Int) > 200))))
theorem sextonlaw09_ItabStale.mono_l : ∀ k, (∀ y0 y1 y2, LeO (sextonlaw09_ItabStale.j0 k y0 y1 y2) (sextonlaw09_ItabStale.j0 (k + 1) y0 y1 y2)) ∧ (∀ y0 y1 y2 y3 y4 y5, LeO (sextonlaw09_ItabStale.l0 k y0 y1 y2 y3 y4 y5) (sextonlaw09_ItabStale.l0 (k + 1) y0 y1 y2 y3 y4 y5)) ∧ (∀ y0 y1 y2 y3 y4 y5 y6 y7 y8, LeO (sextonlaw09_ItabStale.j2 k y0 y1 y2 y3 y4 y5 y6 y7 y8) (sextonlaw09_ItabStale.j2 (k + 1) y0 y1 y2 y3 y4 y5 y6 y7 y8)) ∧ (∀ y0 y1 y2 y3 y4 y5, LeO (sextonlaw09_ItabStale.j4 k y0 y1 y2 y3 y4 y5) (sextonlaw09_ItabStale.j4 (k + 1) y0 y1 y2 y3 y4 y5)) ∧ (∀ y0 y1 y2 y3 y4 y5 y6 y7 y8, LeO (sextonlaw09_ItabStale.l1 k y0 y1 y2 y3 y4 y5 y6 y7 y8) (sextonlaw09_ItabStale.l1 (k + 1) y0 y1 y2 y3 y4 y5 y6 y7 y8)) ∧ (∀ y0 y1 y2 y3 y4 y5 y6 y7 y8, LeO (sextonlaw09_ItabStale.j3 k y0 y1 y2 y3 y4 y5 y6 y7 y8) (sextonlaw09_ItabStale.j3 (k + 1) y0 y1 y2 y3 y4 y5 y6 y7 y8))
  | 0 => ⟨fun _ _ _ r h => by simp [sextonlaw09_ItabStale.j0] at h, fun _ _ _ _ _ _ r h => by simp [sextonlaw09_ItabStale.l0] at h, fun _ _ _ _ _ _ _ _ _ r h => by simp [sextonlaw09_ItabStale.j2] at h, fun _ _ _ _ _ _ r h => by simp [sextonlaw09_ItabStale.j4] at h, fun _ _ _ _ _ _ _ _ _ r h => by simp [sextonlaw09_ItabStale.l1] at h, fun _ _ _ _ _ _ _ _ _ r h => by simp [sextonlaw09_ItabStale.j3] at h⟩
  | k + 1 => by
    obtain ⟨ih0, ih1, ih2, ih3, ih4, ih5⟩ := sextonlaw09_ItabStale.mono_l k
    refine ⟨?_, ?_, ?_, ?_, ?_, ?_⟩
    · intro y0 y1 y2
      unfold sextonlaw09_ItabStale.j0
      repeat' first
      | (with_reducible exact ih0 _ _ _)
      | (with_reducible exact ih1 _ _ _ _ _ _)
      | (with_reducible exact ih2 _ _ _ _ _ _ _ _ _)
      | (with_reducible exact ih3 _ _ _ _ _ _)
      | (with_reducible exact ih4 _ _ _ _ _ _ _ _ _)
      | (with_reducible exact ih5 _ _ _ _ _ _ _ _ _)
      | (with_reducible exact itab_Drop.mono _ _ _ _)
      | (with_reducible exact itab_Find.mono _ _ _ _)
      | (with_reducible exact itab_Make.mono _ _ _ _)
      | (with_reducible exact sextonlaw09_again.mono _)
      | (with_reducible exact LeO.refl _)
      | (with_reducible exact LeO.none _)
      | (with_reducible refine LeO.ite ?_ ?_)
      | (with_reducible refine LeO.bind ?_ (fun _ => ?_))
      | exact ih0 _ _ _
      | exact ih1 _ _ _ _ _ _
      | exact ih2 _ _ _ _ _ _ _ _ _
      | exact ih3 _ _ _ _ _ _
      | exact ih4 _ _ _ _ _ _ _ _ _
      | exact ih5 _ _ _ _ _ _ _ _ _
      | exact itab_Drop.mono _ _ _ _
      | exact itab_Find.mono _ _ _ _
      | exact itab_Make.mono _ _ _ _
      | exact sextonlaw09_again.mono _
      | exact LeO.none _
      | refine LeO.ite ?_ ?_
      | refine LeO.bind ?_ (fun _ => ?_)
    · intro y0 y1 y2 y3 y4 y5
      unfold sextonlaw09_ItabStale.l0
      repeat' first
      | (with_reducible exact ih0 _ _ _)
      | (with_reducible exact ih1 _ _ _ _ _ _)
      | (with_reducible exact ih2 _ _ _ _ _ _ _ _ _)
      | (with_reducible exact ih3 _ _ _ _ _ _)
      | (with_reducible exact ih4 _ _ _ _ _ _ _ _ _)
      | (with_reducible exact ih5 _ _ _ _ _ _ _ _ _)
      | (with_reducible exact itab_Drop.mono _ _ _ _)
      | (with_reducible exact itab_Find.mono _ _ _ _)
      | (with_reducible exact itab_Make.mono _ _ _ _)
      | (with_reducible exact sextonlaw09_again.mono _)
      | (with_reducible exact LeO.refl _)
      | (with_reducible exact LeO.none _)
      | (with_reducible refine LeO.ite ?_ ?_)
      | (with_reducible refine LeO.bind ?_ (fun _ => ?_))
      | exact ih0 _ _ _
      | exact ih1 _ _ _ _ _ _
      | exact ih2 _ _ _ _ _ _ _ _ _
      | exact ih3 _ _ _ _ _ _
      | exact ih4 _ _ _ _ _ _ _ _ _
      | exact ih5 _ _ _ _ _ _ _ _ _
      | exact itab_Drop.mono _ _ _ _
      | exact itab_Find.mono _ _ _ _
      | exact itab_Make.mono _ _ _ _
      | exact sextonlaw09_again.mono _
      | exact LeO.none _
      | refine LeO.ite ?_ ?_
      | refine LeO.bind ?_ (fun _ => ?_)
    · intro y0 y1 y2 y3 y4 y5 y6 y7 y8
      unfold sextonlaw09_ItabStale.j2
      repeat' first
      | (with_reducible exact ih0 _ _ _)
      | (with_reducible exact ih1 _ _ _ _ _ _)
      | (with_reducible exact ih2 _ _ _ _ _ _ _ _ _)
      | (with_reducible exact ih3 _ _ _ _ _ _)
      | (with_reducible exact ih4 _ _ _ _ _ _ _ _ _)
      | (with_reducible exact ih5 _ _ _ _ _ _ _ _ _)
      | (with_reducible exact itab_Drop.mono _ _ _ _)
      | (with_reducible exact itab_Find.mono _ _ _ _)
      | (with_reducible exact itab_Make.mono _ _ _ _)
      | (with_reducible exact sextonlaw09_again.mono _)
      | (with_reducible exact LeO.refl _)
      | (with_reducible exact LeO.none _)
      | (with_reducible refine LeO.ite ?_ ?_)
      | (with_reducible refine LeO.bind ?_ (fun _ => ?_))
      | exact ih0 _ _ _
      | exact ih1 _ _ _ _ _ _
      | exact ih2 _ _ _ _ _ _ _ _ _
      | exact ih3 _ _ _ _ _ _
      | exact ih4 _ _ _ _ _ _ _ _ _
      | exact ih5 _ _ _ _ _ _ _ _ _
      | exact itab_Drop.mono _ _ _ _
      | exact itab_Find.mono _ _ _ _
      | exact itab_Make.mono _ _ _ _
      | exact sextonlaw09_again.mono _
      | exact LeO.none _
      | refine LeO.ite ?_ ?_
      | refine LeO.bind ?_ (fun _ => ?_)
    · intro y0 y1 y2 y3 y4 y5
      unfold sextonlaw09_ItabStale.j4
      repeat' first
      | (with_reducible exact ih0 _ _ _)
      | (with_reducible exact ih1 _ _ _ _ _ _)
      | (with_reducible exact ih2 _ _ _ _ _ _ _ _ _)
      | (with_reducible exact ih3 _ _ _ _ _ _)
      | (with_reducible exact ih4 _ _ _ _ _ _ _ _ _)
      | (with_reducible exact ih5 _ _ _ _ _ _ _ _ _)
      | (with_reducible exact itab_Drop.mono _ _ _ _)
      | (with_reducible exact itab_Find.mono _ _ _ _)
      | (with_reducible exact itab_Make.mono _ _ _ _)
      | (with_reducible exact sextonlaw09_again.mono _)
      | (with_reducible exact LeO.refl _)
      | (with_reducible exact LeO.none _)
      | (with_reducible refine LeO.ite ?_ ?_)
      | (with_reducible refine LeO.bind ?_ (fun _ => ?_))
      | exact ih0 _ _ _
      | exact ih1 _ _ _ _ _ _
      | exact ih2 _ _ _ _ _ _ _ _ _
      | exact ih3 _ _ _ _ _ _
      | exact ih4 _ _ _ _ _ _ _ _ _
      | exact ih5 _ _ _ _ _ _ _ _ _
      | exact itab_Drop.mono _ _ _ _
      | exact itab_Find.mono _ _ _ _
      | exact itab_Make.mono _ _ _ _
      | exact sextonlaw09_again.mono _
      | exact LeO.none _
      | refine LeO.ite ?_ ?_
      | refine LeO.bind ?_ (fun _ => ?_)
    · intro y0 y1 y2 y3 y4 y5 y6 y7 y8
      unfold sextonlaw09_ItabStale.l1
      repeat' first
      | (with_reducible exact ih0 _ _ _)
      | (with_reducible exact ih1 _ _ _ _ _ _)
      | (with_reducible exact ih2 _ _ _ _ _ _ _ _ _)
      | (with_reducible exact ih3 _ _ _ _ _ _)
      | (with_reducible exact ih4 _ _ _ _ _ _ _ _ _)
      | (with_reducible exact ih5 _ _ _ _ _ _ _ _ _)
      | (with_reducible exact itab_Drop.mono _ _ _ _)
      | (with_reducible exact itab_Find.mono _ _ _ _)
      | (with_reducible exact itab_Make.mono _ _ _ _)
      | (with_reducible exact sextonlaw09_again.mono _)
      | (with_reducible exact LeO.refl _)
      | (with_reducible exact LeO.none _)
      | (with_reducible refine LeO.ite ?_ ?_)
      | (with_reducible refine LeO.bind ?_ (fun _ => ?_))
      | exact ih0 _ _ _
      | exact ih1 _ _ _ _ _ _
      | exact ih2 _ _ _ _ _ _ _ _ _
      | exact ih3 _ _ _ _ _ _
      | exact ih4 _ _ _ _ _ _ _ _ _
      | exact ih5 _ _ _ _ _ _ _ _ _
      | exact itab_Drop.mono _ _ _ _
      | exact itab_Find.mono _ _ _ _
      | exact itab_Make.mono _ _ _ _
      | exact sextonlaw09_again.mono _
      | exact LeO.none _
      | refine LeO.ite ?_ ?_
      | refine LeO.bind ?_ (fun _ => ?_)
    · intro y0 y1 y2 y3 y4 y5 y6 y7 y8
      unfold sextonlaw09_ItabStale.j3
      repeat' first
      | (with_reducible exact ih0 _ _ _)
      | (with_reducible exact ih1 _ _ _ _ _ _)
      | (with_reducible exact ih2 _ _ _ _ _ _ _ _ _)
      | (with_reducible exact ih3 _ _ _ _ _ _)
      | (with_reducible exact ih4 _ _ _ _ _ _ _ _ _)
      | (with_reducible exact ih5 _ _ _ _ _ _ _ _ _)
      | (with_reducible exact itab_Drop.mono _ _ _ _)
      | (with_reducible exact itab_Find.mono _ _ _ _)
      | (with_reducible exact itab_Make.mono _ _ _ _)
      | (with_reducible exact sextonlaw09_again.mono _)
      | (with_reducible exact LeO.refl _)
      | (with_reducible exact LeO.none _)
      | (with_reducible refine LeO.ite ?_ ?_)
      | (with_reducible refine LeO.bind ?_ (fun _ => ?_))
      | exact ih0 _ _ _
      | exact ih1 _ _ _ _ _ _
      | exact ih2 _ _ _ _ _ _ _ _ _
      | exact ih3 _ _ _ _ _ _
      | exact ih4 _ _ _ _ _ _ _ _ _
      | exact ih5 _ _ _ _ _ _ _ _ _
      | exact itab_Drop.mono _ _ _ _
      | exact itab_Find.mono _ _ _ _
      | exact itab_Make.mono _ _ _ _
      | exact sextonlaw09_again.mono _
      | exact LeO.none _
      | refine LeO.ite ?_ ?_
      | refine LeO.bind ?_ (fun _ => ?_)
theorem sextonlaw09_ItabStale.mono : ∀ a0 k, LeO (sextonlaw09_ItabStale.f k a0) (sextonlaw09_ItabStale.f (k + 1) a0) := by
  intro a0 k
  obtain ⟨ih0, ih1, ih2, ih3, ih4, ih5⟩ := sextonlaw09_ItabStale.mono_l k
  unfold sextonlaw09_ItabStale.f
  repeat' first
      | (with_reducible exact ih0 _ _ _)
      | (with_reducible exact ih1 _ _ _ _ _ _)
      | (with_reducible exact ih2 _ _ _ _ _ _ _ _ _)
      | (with_reducible exact ih3 _ _ _ _ _ _)
      | (with_reducible exact ih4 _ _ _ _ _ _ _ _ _)
      | (with_reducible exact ih5 _ _ _ _ _ _ _ _ _)
      | (with_reducible exact itab_Drop.mono _ _ _ _)
      | (with_reducible exact itab_Find.mono _ _ _ _)
      | (with_reducible exact itab_Make.mono _ _ _ _)
      | (with_reducible exact sextonlaw09_again.mono _)
      | (with_reducible exact LeO.refl _)
      | (with_reducible exact LeO.none _)
      | (with_reducible refine LeO.ite ?_ ?_)
      | (with_reducible refine LeO.bind ?_ (fun _ => ?_))
      | exact ih0 _ _ _
      | exact ih1 _ _ _ _ _ _
      | exact ih2 _ _ _ _ _ _ _ _ _
      | exact ih3 _ _ _ _ _ _
      | exact ih4 _ _ _ _ _ _ _ _ _
      | exact ih5 _ _ _ _ _ _ _ _ _
      | exact itab_Drop.mono _ _ _ _
      | exact itab_Find.mono _ _ _ _
      | exact itab_Make.mono _ _ _ _
      | exact sextonlaw09_again.mono _
      | exact LeO.none _
      | refine LeO.ite ?_ ?_
      | refine LeO.bind ?_ (fun _ => ?_)
set_option maxHeartbeats 40000000 in
set_option maxRecDepth 100000 in
theorem sextonlaw09_ItabStale.calls (k : Nat) (A0 : Option Addr) (c0 : Nat) (l0 : List (S49)) (w : World) (hr0 : Kd.C k49 w A0 l0.length l0) (hc0 : l0.length ≤ c0) (h : sextonlaw09_ItabStale.f k l0 = some true) :
    Calls Try.prog 5 #[.slice A0 l0.length c0] w fun e w' => e = .returned (.bool true) ∧ Below w.heap.size w w' := by
  have hu49 := Try.underlying49
  have hu24 := Try.underlying24
  have hu30 := Try.underlying30
  have HR0 := Aside0.mk hr0
  have HC0 := Aside0.mk hc0
  clear hr0 hc0
  have HB := Aside0.mk (Below.refl w.heap.size w)
  have H : ((itab_New.f).bind fun t302 => (if (t302.length : Int) = 0 then (sextonlaw09_ItabStale.j0 k l0 t302 true) else (sextonlaw09_ItabStale.j0 k l0 t302 (decide ((l0.length : Int) > 200))))) = some true := h
  clear h
  replace H := Option.bind_eq_some_iff.mp H
  obtain ⟨t302, A20, H⟩ := H
  replace H : (if (t302.length : Int) = 0 then (sextonlaw09_ItabStale.j0 k l0 t302 true) else (sextonlaw09_ItabStale.j0 k l0 t302 (decide ((l0.length : Int) > 200)))) = some true := H
  have A2 := Aside0.mk A20
  clear A20
  have HC3 := Aside0.mk H
  clear H
  go_enter Try.func5, Try.ntmps5
  go_upto_region 2 with (first | ((with_reducible refine gate_callee (f := 16) rfl ?_); refine goesL_ (some 17) rfl rfl Try.func16 (by kernel_rfl) rfl #[] rfl (by (try simp only [List.map_toArray, List.map_cons, List.map_nil]); first | done | rfl | (simp only [List.length_drop, List.length_take]; rfl)) ?_; (with_reducible refine (itab_New.calls  t302 _ A2.out).mono ?_); rintro e w4 ⟨v303, rfl, ho0, hb⟩; refine ⟨_, rfl, ?_⟩; have n0_ := Aside0.mk (Kd.S_lower ho0 (below_size (by repeat (first | (with_reducible first | exact HB.out | apply below_alloc | apply pw_below_drewN | apply below_drew1) | exact HB.out)))); have n1_ := Aside0.mk (below_step (by repeat (first | (with_reducible first | exact HB.out | apply below_alloc | apply pw_below_drewN | apply below_drew1) | exact HB.out)) hb); clear HB; have HO304 := n0_; have HB := n1_; clear n0_ n1_; (try clear hb); (try clear hb2); (try clear hk); (try clear hi); (try clear ho0)))
  (try simp only [Act.put, List.setIfInBounds_toArray, List.set_cons_zero, List.set_cons_succ])
  go_cut [25] (fun v25 wc => ∃ (kq : Nat) (x25_2 : Bool), v25 = .bool x25_2 ∧ Aside0 (sextonlaw09_ItabStale.j0 kq l0 t302 x25_2 = some true) ∧ Aside0 (kq ≤ k) ∧ Aside0 (Kd.S k30 30 wc w.heap.size (fun _ => True) v303 t302) ∧ Aside0 (Below w.heap.size w wc))
  case first =>
    have H := HC3.out
    clear HC3
    by_cases c5 : (t302.length : Int) = 0
    · rw [if_pos c5] at H
      have c5b0 : ((t302.length : Int) == 0) = true := beq_iff_eq.mpr c5
      have c5b1 : ((t302.length : Int) != 0) = false := bne_eq_false_iff_eq.mpr c5
      clear c5
      (first | rw [c5b0] | (simp only [i64_w, i32_w]; rw [c5b0]) | skip)
      have H' := Aside0.mk H
      clear H
      obtain ⟨Ao6, co6, eo6⟩ := Kd.S_slice HO304.out
      subst eo6
      go_wp2
      go_meet
      case rel => exact ⟨_, (true), (by first | rfl | (simp; done) | (simp [*]; done)), H', ⟨by first | omega | exact Nat.le_refl _⟩, ⟨by (with_reducible repeat (first | apply Kd.S_alloc | apply Kd.S_drewN | apply Kd.S_drew)); exact HO304.out⟩, ⟨by repeat (first | (with_reducible first | exact HB.out | apply below_alloc | apply pw_below_drewN | apply below_drew1) | exact HB.out)⟩⟩
    · rw [if_neg c5] at H
      have c5b0 : ((t302.length : Int) == 0) = false := beq_eq_false_iff_ne.mpr c5
      have c5b1 : ((t302.length : Int) != 0) = true := bne_iff_ne.mpr c5
      have c5b2 : ¬ (t302 = []) := fun h_ => c5 (by rw [h_]; rfl)
      (first | rw [c5b0] | (simp only [i64_w, i32_w]; rw [c5b0]) | skip)
      have H' := Aside0.mk H
      clear H
      obtain ⟨Ao7, co7, eo7⟩ := Kd.S_slice HO304.out
      subst eo7
      go_wp2
      go_meet
      case rel => exact ⟨_, (decide ((l0.length : Int) > 200)), (by first | rfl | (simp; done) | (simp [*]; done)), H', ⟨by first | omega | exact Nat.le_refl _⟩, ⟨by (with_reducible repeat (first | apply Kd.S_alloc | apply Kd.S_drewN | apply Kd.S_drew)); exact HO304.out⟩, ⟨by repeat (first | (with_reducible first | exact HB.out | apply below_alloc | apply pw_below_drewN | apply below_drew1) | exact HB.out)⟩⟩
  case rest =>
    clear HC3
    try clear c1
    try clear p2
    try clear c5
    try clear c5b0
    try clear c5b1
    try clear c5b2
    obtain ⟨kq, x25_2, rfl, HA, HJ2, HO_3, HB⟩ := hcut
    cases kq with
    | zero => exact absurd HA.out (by simp [sextonlaw09_ItabStale.j0])
    | succ kj2 =>
      have H := HA.out
      clear HA
      simp only [sextonlaw09_ItabStale.j0] at H
      by_cases c8 : x25_2 = true
      · subst c8
        have H1 : (if (t302.length : Int) > 0 then ((sextonlaw09_again.f kj2).bind fun t305 => (some t305)) else (some false)) = some true := by rw [if_pos rfl] at H; exact H
        clear H
        have H := H1
        clear H1
        by_cases c9 : (t302.length : Int) > 0
        · rw [if_pos c9] at H
          have c9b0 : decide (0 < (t302.length : Int)) = true := decide_eq_true c9
          have c9b1 : decide (0 < t302.length) = true := decide_eq_true (by omega)
          clear c9
          replace H := Option.bind_eq_some_iff.mp H
          obtain ⟨t305, A100, H⟩ := H
          replace H : (some t305) = some true := H
          have A10 := Aside0.mk A100
          clear A100
          obtain rfl := Option.some.inj H
          obtain ⟨Ao11, co11, eo11⟩ := Kd.S_slice HO_3.out
          subst eo11
          go_wp2_with (first | (go_at_call 13; (with_reducible refine (sextonlaw09_again.calls kj2 _ A10.out).mono ?_); rintro e w12 ⟨rfl, hb⟩; have n0_ := Aside0.mk (Kd.S_below (by (with_reducible repeat (first | apply Kd.S_alloc | apply Kd.S_drewN | apply Kd.S_drew)); exact HO_3.out) hb); have n1_ := Aside0.mk (below_step (by repeat (first | (with_reducible first | exact HB.out | apply below_alloc | apply pw_below_drewN | apply below_drew1) | exact HB.out)) hb); clear HO_3; clear HB; have HO_3 := n0_; have HB := n1_; clear n0_ n1_; (try clear hb); (try clear hb2); (try clear hk); (try clear hi)))
          go_ret
          exact ⟨by first | rfl | (simp [errW_none, errW_some] <;> rfl) | (simp [*, errW_none, errW_some] <;> rfl), by repeat (first | (with_reducible first | exact HB.out | apply below_alloc | apply pw_below_drewN | apply below_drew1) | exact HB.out)⟩
        · rw [if_neg c9] at H
          have c9b0 : decide (0 < (t302.length : Int)) = false := decide_eq_false c9
          have c9b1 : decide (0 < t302.length) = false := decide_eq_false (by omega)
          clear c9
          cases H
      · replace c8 := Bool.eq_false_iff.mpr c8
        subst c8
        have H1 : (sextonlaw09_ItabStale.l0 kj2 t302 ([] : List (S24)) ([] : List Bool) l0 (l0.length : Int) 0) = some true := by rw [if_neg (show ¬ (false = true) by decide)] at H; exact H
        clear H
        have H := H1
        clear H1
        have H' := Aside0.mk H
        clear H
        go_wp2
        go_loopg [3, 4, 5, 34] kj2 (fun kq v3 v4 v5 v34 w' => ∃ (x3_2 : List (S30)) (x4_2 : List (S24)) (x5_2 : List Bool) (x34_2 : Int), v34 = .int .i64 x34_2 ∧ Aside0 (sextonlaw09_ItabStale.l0 kq x3_2 x4_2 x5_2 l0 (l0.length : Int) x34_2 = some true) ∧ Aside0 (kq ≤ kj2) ∧ Aside0 (Kd.S k30 30 w' w.heap.size (fun _ => True) v3 x3_2) ∧ Aside0 (Kd.R k24 24 w' w.heap.size (fun _ => True) v4 x4_2) ∧ Aside0 (Kd.R Kd.bool 4 w' w.heap.size (fun _ => True) v5 x5_2) ∧ Aside0 (Below w.heap.size w w'))
        case atStart => exact ⟨(t302), (([] : List (S24))), (([] : List Bool)), (0), (by first | rfl | (simp; done) | (simp [*]; done)), H', ⟨Nat.le_refl _⟩, ⟨by (with_reducible repeat (first | apply Kd.S_alloc | apply Kd.S_drewN | apply Kd.S_drew)); exact HO_3.out⟩, ⟨by first | exact Kd.R_nil _ _ _ _ _ | exact Kd.N_nil _ _ _ _ _ | exact Kd.V_nil _ _ _ _ _ | exact Kd.Q_nil _ _ _ _ _ | exact Kd.S_nil _ _ _ _ _⟩, ⟨by first | exact Kd.R_nil _ _ _ _ _ | exact Kd.N_nil _ _ _ _ _ | exact Kd.V_nil _ _ _ _ _ | exact Kd.Q_nil _ _ _ _ _ | exact Kd.S_nil _ _ _ _ _⟩, ⟨by repeat (first | (with_reducible first | exact HB.out | apply below_alloc | apply pw_below_drewN | apply below_drew1) | exact HB.out)⟩⟩
        case round =>
          clear H'
          try clear c1
          try clear p2
          try clear c5
          try clear c5b0
          try clear c5b1
          try clear c5b2
          try clear c8
          try clear c9
          try clear c9b0
          try clear c9b1
          try clear p2
          obtain ⟨x3_2, x4_2, x5_2, x34_2, rfl, HA, HK2, HO_3, HO_4, HO_5, HB⟩ := hrel
          cases gk with
          | zero => exact absurd HA.out (by simp [sextonlaw09_ItabStale.l0])
          | succ k2 =>
            have H := HA.out
            clear HA
            simp only [sextonlaw09_ItabStale.l0] at H
            by_cases c14 : x34_2 < (l0.length : Int)
            · rw [if_pos c14] at H
              have c14b0 : decide (x34_2 < (l0.length : Int)) = true := decide_eq_true c14
              clear c14
              by_cases c15 : 0 ≤ x34_2
              · rw [if_pos c15] at H
                have c15b0 : decide (0 ≤ x34_2) = true := decide_eq_true c15
                clear c15
                by_cases c16 : x34_2 < (l0.length : Int)
                · rw [if_pos c16] at H
                  have c16b0 : decide (x34_2 < (l0.length : Int)) = true := decide_eq_true c16
                  clear c16
                  have HC17 := Aside0.mk H
                  clear H
                  have p307 : 0 ≤ (x34_2 : Int) := of_decide_eq_true (by first | (with_reducible assumption) | assumption)
                  have q307 : x34_2 < (l0.length : Int) := of_decide_eq_true (by first | (with_reducible assumption) | assumption)
                  obtain ⟨ad307, e307, hx307_0, hx307_1⟩ := at_T49 HR0.out x34_2 p307 q307
                  cases e307
                  replace hx307_0 := (HB.out.cell (World.block_lt_of_cell? w _ hx307_0)).trans hx307_0
                  replace hx307_1 := (HB.out.cell (World.block_lt_of_cell? w _ hx307_1)).trans hx307_1
                  replace p307 := eq_true p307
                  replace q307 := eq_true q307
                  go_upto_region 9 with (first | ((with_reducible refine gate_dst (N := 7) rfl ?_); (try (refine gate_guard (by rfl) ?_; dsimp only)); refine box_event ?hg (N := 7) ?hd (cs := #[.int .i64 0, .int .i64 0]) (t := 49) ?hr ?_; (case hd => rfl); (case hg => rfl); (case hr => first | (go_simp; done) | (go_simp; rfl)); intro gb308 hg w18 hbox hb; have n0_ := Aside0.mk (Kd.S_below (by (with_reducible repeat (first | apply Kd.S_alloc | apply Kd.S_drewN | apply Kd.S_drew)); exact HO_3.out) hb); have n1_ := Aside0.mk (Kd.R_below (by (with_reducible repeat (first | apply Kd.R_alloc | apply Kd.R_drewN | apply Kd.R_drew)); exact HO_4.out) hb); have n2_ := Aside0.mk (Kd.R_below (by (with_reducible repeat (first | apply Kd.R_alloc | apply Kd.R_drewN | apply Kd.R_drew)); exact HO_5.out) hb); have n3_ := Aside0.mk (below_step (by repeat (first | (with_reducible first | exact HB.out | apply below_alloc | apply pw_below_drewN | apply below_drew1) | exact HB.out)) hb); have n4_ := Aside0.mk (hbox); have n5_ := Aside0.mk ((by rw [hg]; exact (below_size (by repeat (first | (with_reducible first | exact HB.out | apply below_alloc | apply pw_below_drewN | apply below_drew1) | exact HB.out))) : w.heap.size ≤ gb308)); have n6_ := Aside0.mk ((by rw [hg]; exact (below_size (by repeat (first | (with_reducible first | exact HB.out | apply below_alloc | apply pw_below_drewN | apply below_drew1) | exact HB.out))) : w.heap.size ≤ gb308)); clear HO_3; clear HO_4; clear HO_5; clear HB; have HO_3 := n0_; have HO_4 := n1_; have HO_5 := n2_; have HB := n3_; have BK308 := n4_; have GW308 := n5_; have GE308 := n6_; clear n0_ n1_ n2_ n3_ n4_ n5_ n6_; clear hb hbox hg; have hcz19_0 : w18.cell? ⟨gb308, 0, none⟩ = some (.int .i64 0) := (blk_cell BK308.out 0).trans rfl; have hcz19_1 : w18.cell? ⟨gb308, 1, none⟩ = some (.int .i64 0) := (blk_cell BK308.out 1).trans rfl; have hfz19_0 := blk_frozen BK308.out 0; have hfz19_1 := blk_frozen BK308.out 1))
                  (try simp only [Act.put, List.setIfInBounds_toArray, List.set_cons_zero, List.set_cons_succ])
                  go_cut [45] (fun v45 wc => ∃ (kq : Nat) (x45_16 : Bool), v45 = .bool x45_16 ∧ Aside0 (sextonlaw09_ItabStale.j2 kq x3_2 x4_2 x5_2 l0 (l0.length : Int) x34_2 x45_16 ((rd_T49 l0 x34_2).f0) ((rd_T49 l0 x34_2).f1) = some true) ∧ Aside0 (kq ≤ k2) ∧ Aside0 (Kd.S k30 30 wc w.heap.size (fun _ => True) u3 x3_2) ∧ Aside0 (Kd.R k24 24 wc w.heap.size (fun _ => True) u4 x4_2) ∧ Aside0 (Kd.R Kd.bool 4 wc w.heap.size (fun _ => True) u5 x5_2) ∧ Aside0 (wc.heap[gb308]? = some (.cells #[.int .i64 ((rd_T49 l0 x34_2).f0), .int .i64 ((rd_T49 l0 x34_2).f1)] 49 (0, 0))) ∧ Aside0 (Below w.heap.size w wc))
                  case first =>
                    have H := HC17.out
                    clear HC17
                    by_cases c20 : ((rd_T49 l0 x34_2).f0) = 0
                    · rw [if_pos c20] at H
                      have c20b0 : (((rd_T49 l0 x34_2).f0) == 0) = true := beq_iff_eq.mpr c20
                      have c20b1 : (((rd_T49 l0 x34_2).f0) != 0) = false := bne_eq_false_iff_eq.mpr c20
                      clear c20
                      (first | rw [c20b0] | (simp only [i64_w, i32_w]; rw [c20b0]) | skip)
                      have H' := Aside0.mk H
                      clear H
                      have hcz21_0 : w18.cell? ⟨gb308, 0, none⟩ = some (.int .i64 0) := (blk_cell BK308.out 0).trans rfl
                      have hcz21_1 : w18.cell? ⟨gb308, 1, none⟩ = some (.int .i64 0) := (blk_cell BK308.out 1).trans rfl
                      have hfz21_0 := blk_frozen BK308.out 0
                      have hfz21_1 := blk_frozen BK308.out 1
                      go_wp2
                      go_meet
                      case rel => exact ⟨_, (true), (by first | rfl | (simp; done) | (simp [*]; done)), H', ⟨by have := HJ2.out; have := HK2.out; first | omega | exact Nat.le_refl _⟩, ⟨by (with_reducible repeat (first | apply Kd.S_alloc | apply Kd.S_drewN | apply Kd.S_drew)); exact Kd.S_mono (Kd.S_far (p := ⟨gb308, 1, none⟩) (Kd.S_far (p := ⟨gb308, 0, none⟩) (Kd.S_types HO_3.out BK308.out (by decide)) (fun _ hk => hk.2) (.int .i64 ((rd_T49 l0 x34_2).f0))) (fun _ hk => hk.2) (.int .i64 ((rd_T49 l0 x34_2).f1))) (fun _ hk => trivial)⟩, ⟨by (with_reducible repeat (first | apply Kd.R_alloc | apply Kd.R_drewN | apply Kd.R_drew)); exact Kd.R_mono (Kd.R_far (p := ⟨gb308, 1, none⟩) (Kd.R_far (p := ⟨gb308, 0, none⟩) (Kd.R_types HO_4.out BK308.out (by decide)) (fun _ hk => hk.2) (.int .i64 ((rd_T49 l0 x34_2).f0))) (fun _ hk => hk.2) (.int .i64 ((rd_T49 l0 x34_2).f1))) (fun _ hk => trivial)⟩, ⟨by (with_reducible repeat (first | apply Kd.R_alloc | apply Kd.R_drewN | apply Kd.R_drew)); exact Kd.R_mono (Kd.R_far (p := ⟨gb308, 1, none⟩) (Kd.R_far (p := ⟨gb308, 0, none⟩) (Kd.R_types HO_5.out BK308.out (by decide)) (fun _ hk => hk.2) (.int .i64 ((rd_T49 l0 x34_2).f0))) (fun _ hk => hk.2) (.int .i64 ((rd_T49 l0 x34_2).f1))) (fun _ hk => trivial)⟩, ⟨by (with_reducible repeat (first | refine blk_drewN ?_ _ | refine blk_drew ?_ | refine blk_alloc ?_ _)); refine blk_put (cs := #[.int .i64 ((rd_T49 l0 x34_2).f0), .int .i64 0]) ?_ 1 _ rfl; (with_reducible repeat (first | refine blk_drewN ?_ _ | refine blk_drew ?_ | refine blk_alloc ?_ _)); refine blk_put (cs := #[.int .i64 0, .int .i64 0]) ?_ 0 _ rfl; (with_reducible repeat (first | refine blk_drewN ?_ _ | refine blk_drew ?_ | refine blk_alloc ?_ _)); exact BK308.out⟩, ⟨by repeat (first | (with_reducible first | exact HB.out | apply below_alloc | apply pw_below_drewN | apply below_drew1 | refine below_set ?_ GE308.out) | exact HB.out)⟩⟩
                    · rw [if_neg c20] at H
                      have c20b0 : (((rd_T49 l0 x34_2).f0) == 0) = false := beq_eq_false_iff_ne.mpr c20
                      have c20b1 : (((rd_T49 l0 x34_2).f0) != 0) = true := bne_iff_ne.mpr c20
                      (first | rw [c20b0] | (simp only [i64_w, i32_w]; rw [c20b0]) | skip)
                      have H' := Aside0.mk H
                      clear H
                      have hcz22_0 : w18.cell? ⟨gb308, 0, none⟩ = some (.int .i64 0) := (blk_cell BK308.out 0).trans rfl
                      have hcz22_1 : w18.cell? ⟨gb308, 1, none⟩ = some (.int .i64 0) := (blk_cell BK308.out 1).trans rfl
                      have hfz22_0 := blk_frozen BK308.out 0
                      have hfz22_1 := blk_frozen BK308.out 1
                      go_wp2
                      go_meet
                      case rel => exact ⟨_, ((((rd_T49 l0 x34_2).f0) == 1)), (by first | rfl | (simp; done) | (simp [*]; done)), H', ⟨by have := HJ2.out; have := HK2.out; first | omega | exact Nat.le_refl _⟩, ⟨by (with_reducible repeat (first | apply Kd.S_alloc | apply Kd.S_drewN | apply Kd.S_drew)); exact Kd.S_mono (Kd.S_far (p := ⟨gb308, 1, none⟩) (Kd.S_far (p := ⟨gb308, 0, none⟩) (Kd.S_types HO_3.out BK308.out (by decide)) (fun _ hk => hk.2) (.int .i64 ((rd_T49 l0 x34_2).f0))) (fun _ hk => hk.2) (.int .i64 ((rd_T49 l0 x34_2).f1))) (fun _ hk => trivial)⟩, ⟨by (with_reducible repeat (first | apply Kd.R_alloc | apply Kd.R_drewN | apply Kd.R_drew)); exact Kd.R_mono (Kd.R_far (p := ⟨gb308, 1, none⟩) (Kd.R_far (p := ⟨gb308, 0, none⟩) (Kd.R_types HO_4.out BK308.out (by decide)) (fun _ hk => hk.2) (.int .i64 ((rd_T49 l0 x34_2).f0))) (fun _ hk => hk.2) (.int .i64 ((rd_T49 l0 x34_2).f1))) (fun _ hk => trivial)⟩, ⟨by (with_reducible repeat (first | apply Kd.R_alloc | apply Kd.R_drewN | apply Kd.R_drew)); exact Kd.R_mono (Kd.R_far (p := ⟨gb308, 1, none⟩) (Kd.R_far (p := ⟨gb308, 0, none⟩) (Kd.R_types HO_5.out BK308.out (by decide)) (fun _ hk => hk.2) (.int .i64 ((rd_T49 l0 x34_2).f0))) (fun _ hk => hk.2) (.int .i64 ((rd_T49 l0 x34_2).f1))) (fun _ hk => trivial)⟩, ⟨by (with_reducible repeat (first | refine blk_drewN ?_ _ | refine blk_drew ?_ | refine blk_alloc ?_ _)); refine blk_put (cs := #[.int .i64 ((rd_T49 l0 x34_2).f0), .int .i64 0]) ?_ 1 _ rfl; (with_reducible repeat (first | refine blk_drewN ?_ _ | refine blk_drew ?_ | refine blk_alloc ?_ _)); refine blk_put (cs := #[.int .i64 0, .int .i64 0]) ?_ 0 _ rfl; (with_reducible repeat (first | refine blk_drewN ?_ _ | refine blk_drew ?_ | refine blk_alloc ?_ _)); exact BK308.out⟩, ⟨by repeat (first | (with_reducible first | exact HB.out | apply below_alloc | apply pw_below_drewN | apply below_drew1 | refine below_set ?_ GE308.out) | exact HB.out)⟩⟩
                  case rest =>
                    clear HC17
                    try clear c1
                    try clear c2
                    try clear p2
                    try clear p3
                    try clear q3
                    try clear hx3
                    try clear c5
                    try clear c5b0
                    try clear c5b1
                    try clear c5b2
                    try clear c8
                    try clear c9
                    try clear c9b0
                    try clear c9b1
                    try clear c14
                    try clear c14b0
                    try clear c15
                    try clear c15b0
                    try clear c16
                    try clear c16b0
                    try clear c20
                    try clear c20b0
                    try clear c20b1
                    try clear hcz19_0
                    try clear hcz19_1
                    try clear hcz21_0
                    try clear hcz21_1
                    try clear hcz22_0
                    try clear hcz22_1
                    try clear hfz19_0
                    try clear hfz19_1
                    try clear hfz21_0
                    try clear hfz21_1
                    try clear hfz22_0
                    try clear hfz22_1
                    try clear hx307_0
                    try clear hx307_1
                    try clear p2
                    try clear p307
                    try clear q307
                    obtain ⟨kq, x45_16, rfl, HA, HJ16, HO_3, HO_4, HO_5, BK308, HB⟩ := hcut
                    cases kq with
                    | zero => exact absurd HA.out (by simp [sextonlaw09_ItabStale.j2])
                    | succ kj16 =>
                      have H := HA.out
                      clear HA
                      simp only [sextonlaw09_ItabStale.j2] at H
                      have HC23 := Aside0.mk H
                      clear H
                      go_upto_if 45 with (fail)
                      go_cut [3, 4, 5] (fun v3 v4 v5 wc => ∃ (kq : Nat) (x3_22 : List (S30)) (x4_22 : List (S24)) (x5_22 : List Bool), Aside0 (sextonlaw09_ItabStale.j4 kq x3_22 x4_22 x5_22 l0 (l0.length : Int) x34_2 = some true) ∧ Aside0 (kq ≤ kj16) ∧ Aside0 (Kd.S k30 30 wc w.heap.size (fun _ => True) v3 x3_22) ∧ Aside0 (Kd.R k24 24 wc w.heap.size (fun _ => True) v4 x4_22) ∧ Aside0 (Kd.R Kd.bool 4 wc w.heap.size (fun _ => True) v5 x5_22) ∧ Aside0 (wc.heap[gb308]? = some (.cells #[.int .i64 ((rd_T49 l0 x34_2).f0), .int .i64 ((rd_T49 l0 x34_2).f1)] 49 (0, 0))) ∧ Aside0 (Below w.heap.size w wc))
                      case first =>
                        have H := HC23.out
                        clear HC23
                        by_cases c24 : x45_16 = true
                        · subst c24
                          have H1 : ((itab_Make.f kj16 x3_2 (wrap64 (((rd_T49 l0 x34_2).f0) + 1)) 0).bind fun bt309 => (if bt309.2.2.2 = 0 then (if x4_2.length < 8796093022208 then (if x5_2.length < 140737488355328 then (sextonlaw09_ItabStale.j4 kj16 bt309.1 (x4_2 ++ [(⟨bt309.2.1, bt309.2.2.1⟩ : S24)]) (x5_2 ++ [false]) l0 (l0.length : Int) x34_2) else (none)) else (none)) else (if bt309.2.2.2 = 407 then (sextonlaw09_ItabStale.j4 kj16 x3_2 x4_2 x5_2 l0 (l0.length : Int) x34_2) else (some false)))) = some true := by rw [if_pos rfl] at H; exact H
                          clear H
                          have H := H1
                          clear H1
                          replace H := Option.bind_eq_some_iff.mp H
                          obtain ⟨⟨t309, t312, t313, t314⟩, A250, H⟩ := H
                          replace H : (if t314 = 0 then (if x4_2.length < 8796093022208 then (if x5_2.length < 140737488355328 then (sextonlaw09_ItabStale.j4 kj16 t309 (x4_2 ++ [(⟨t312, t313⟩ : S24)]) (x5_2 ++ [false]) l0 (l0.length : Int) x34_2) else (none)) else (none)) else (if t314 = 407 then (sextonlaw09_ItabStale.j4 kj16 x3_2 x4_2 x5_2 l0 (l0.length : Int) x34_2) else (some false))) = some true := H
                          have A25 := Aside0.mk A250
                          clear A250
                          by_cases c26 : t314 = 0
                          · rw [if_pos c26] at H
                            have c26b0 : (t314 == 0) = true := beq_iff_eq.mpr c26
                            have c26b1 : (t314 != 0) = false := bne_eq_false_iff_eq.mpr c26
                            clear c26
                            (first | rw [c26b0] | (simp only [i64_w, i32_w]; rw [c26b0]) | skip)
                            by_cases c27 : x4_2.length < 8796093022208
                            · rw [if_pos c27] at H
                              have LMc27 := Aside0.mk c27
                              clear c27
                              obtain ⟨y316, hy316⟩ : ∃ y_ : List (S24), y_ = (x4_2 ++ [(⟨t312, t313⟩ : S24)]) := ⟨_, rfl⟩
                              replace H : (if x5_2.length < 140737488355328 then (sextonlaw09_ItabStale.j4 kj16 t309 y316 (x5_2 ++ [false]) l0 (l0.length : Int) x34_2) else (none)) = some true := by first | (rw [hy316]; with_reducible exact H) | (have H2_ := (Option.bind_some _ _).symm.trans H; rw [hy316]; with_reducible exact H2_) | (have H2_ := (Option.bind_some _ _).symm.trans H; with_reducible exact H2_) | with_reducible exact H | (rw [hy316]; exact H) | exact H
                              have Ny316 := Aside0.mk hy316
                              clear hy316
                              by_cases c28 : x5_2.length < 140737488355328
                              · rw [if_pos c28] at H
                                have LMc28 := Aside0.mk c28
                                clear c28
                                obtain ⟨y319, hy319⟩ : ∃ y_ : List Bool, y_ = (x5_2 ++ [false]) := ⟨_, rfl⟩
                                replace H : (sextonlaw09_ItabStale.j4 kj16 t309 y316 y319 l0 (l0.length : Int) x34_2) = some true := by first | (rw [hy319]; with_reducible exact H) | (have H2_ := (Option.bind_some _ _).symm.trans H; rw [hy319]; with_reducible exact H2_) | (have H2_ := (Option.bind_some _ _).symm.trans H; with_reducible exact H2_) | with_reducible exact H | (rw [hy319]; exact H) | exact H
                                have Ny319 := Aside0.mk hy319
                                clear hy319
                                have H' := Aside0.mk H
                                clear H
                                have hcz29_0 : wc.cell? ⟨gb308, 0, none⟩ = some (.int .i64 ((rd_T49 l0 x34_2).f0)) := (blk_cell BK308.out 0).trans rfl
                                have hcz29_1 : wc.cell? ⟨gb308, 1, none⟩ = some (.int .i64 ((rd_T49 l0 x34_2).f1)) := (blk_cell BK308.out 1).trans rfl
                                have hfz29_0 := blk_frozen BK308.out 0
                                have hfz29_1 := blk_frozen BK308.out 1
                                obtain ⟨Ao30, co30, eo30⟩ := Kd.S_slice HO_3.out
                                subst eo30
                                go_wp2_with (first | ((with_reducible refine gate_callee (f := 14) rfl ?_); refine goesL_ (some 51) rfl rfl Try.func14 (by kernel_rfl) rfl #[.slice Ao30 x3_2.length co30, .int .i64 (wrap64 (((rd_T49 l0 x34_2).f0) + 1)), .int .i64 0] rfl (by (try simp only [List.map_toArray, List.map_cons, List.map_nil]); first | done | rfl | (simp only [List.length_drop, List.length_take]; rfl)) ?_; (with_reducible refine (itab_Make.calls kj16 _ _ x3_2 (wrap64 (((rd_T49 l0 x34_2).f0) + 1)) 0 t309 t312 t313 t314 _ ?side1 ?side2 A25.out).mono ?_); (case side1 => repeat (first | exact (Kd.S_reads' HO_3.out).2.2 | (with_reducible refine Kd.C_alloc ?_ _) | (with_reducible refine Kd.C_drewN ?_ _) | (with_reducible refine Kd.C_drew ?_))); (case side2 => exact (Kd.S_reads' HO_3.out).2.1); rintro e w31 ⟨v310, rfl, ho0, hb⟩; refine ⟨_, rfl, ?_⟩; have n0_ := Aside0.mk (Kd.S_elder' (by (with_reducible repeat (first | apply Kd.S_alloc | apply Kd.S_drewN | apply Kd.S_drew)); exact HO_3.out) (Kd.S_base ho0) hb); have n1_ := Aside0.mk (Kd.R_below (by (with_reducible repeat (first | apply Kd.R_alloc | apply Kd.R_drewN | apply Kd.R_drew)); exact HO_4.out) hb); have n2_ := Aside0.mk (Kd.R_below (by (with_reducible repeat (first | apply Kd.R_alloc | apply Kd.R_drewN | apply Kd.R_drew)); exact HO_5.out) hb); have n3_ := Aside0.mk (Kd.S_lower (Kd.S_new' ho0 (Kd.S_lt (by (with_reducible repeat (first | apply Kd.S_alloc | apply Kd.S_drewN | apply Kd.S_drew)); exact HO_3.out))) (below_size (by repeat (first | (with_reducible first | exact HB.out | apply below_alloc | apply pw_below_drewN | apply below_drew1 | refine below_set ?_ GE308.out) | exact HB.out)))); have n4_ := Aside0.mk (blk_below (g := gb308) (o := .cells #[.int .i64 ((rd_T49 l0 x34_2).f0), .int .i64 ((rd_T49 l0 x34_2).f1)] 49 (0, 0)) (by (with_reducible repeat (first | refine blk_drewN ?_ _ | refine blk_drew ?_ | refine blk_alloc ?_ _)); exact BK308.out) hb); have n5_ := Aside0.mk (below_step (by repeat (first | (with_reducible first | exact HB.out | apply below_alloc | apply pw_below_drewN | apply below_drew1 | refine below_set ?_ GE308.out) | exact HB.out)) hb); clear HO_3; clear HO_4; clear HO_5; clear BK308; clear HB; have HO_3 := n0_; have HO_4 := n1_; have HO_5 := n2_; have HO311 := n3_; have BK308 := n4_; have HB := n5_; clear n0_ n1_ n2_ n3_ n4_ n5_; (try clear hb); (try clear hb2); (try clear hk); (try clear hi); (try clear ho0)) | ((with_reducible refine gate_dst (N := 9) rfl ?_); (try (refine gate_guard (by rfl) ?_; dsimp only)); refine box_event ?hg (N := 9) ?hd (cs := #[.int .i64 0, .int .i64 0]) (t := 24) ?hr ?_; (case hd => rfl); (case hg => rfl); (case hr => first | (go_simp; done) | (go_simp; rfl)); intro gb315 hg w32 hbox hb; have n0_ := Aside0.mk (Kd.S_below (by (with_reducible repeat (first | apply Kd.S_alloc | apply Kd.S_drewN | apply Kd.S_drew)); exact HO_3.out) hb); have n1_ := Aside0.mk (Kd.R_below (Kd.R_elderB (by (with_reducible repeat (first | apply Kd.R_alloc | apply Kd.R_drewN | apply Kd.R_drew)); exact HO_4.out) gb315 (Nat.le_of_eq hg.symm)) hb); have n2_ := Aside0.mk (Kd.R_below (by (with_reducible repeat (first | apply Kd.R_alloc | apply Kd.R_drewN | apply Kd.R_drew)); exact HO_5.out) hb); have n3_ := Aside0.mk (Kd.S_below (by (with_reducible repeat (first | apply Kd.S_alloc | apply Kd.S_drewN | apply Kd.S_drew)); exact HO311.out) hb); have n4_ := Aside0.mk (blk_below (g := gb308) (o := .cells #[.int .i64 ((rd_T49 l0 x34_2).f0), .int .i64 ((rd_T49 l0 x34_2).f1)] 49 (0, 0)) (by (with_reducible repeat (first | refine blk_drewN ?_ _ | refine blk_drew ?_ | refine blk_alloc ?_ _)); exact BK308.out) hb); have n5_ := Aside0.mk (below_step (by repeat (first | (with_reducible first | exact HB.out | apply below_alloc | apply pw_below_drewN | apply below_drew1 | refine below_set ?_ GE308.out) | exact HB.out)) hb); have n6_ := Aside0.mk (hbox); have n7_ := Aside0.mk ((by rw [hg]; exact (below_size (by repeat (first | (with_reducible first | exact HB.out | apply below_alloc | apply pw_below_drewN | apply below_drew1 | refine below_set ?_ GE308.out) | exact HB.out))) : w.heap.size ≤ gb315)); have n8_ := Aside0.mk ((by rw [hg]; exact (below_size (by repeat (first | (with_reducible first | exact HB.out | apply below_alloc | apply pw_below_drewN | apply below_drew1 | refine below_set ?_ GE308.out) | exact HB.out))) : w.heap.size ≤ gb315)); have n9_ := Aside0.mk ((by rw [hg]; exact Nat.ne_of_lt (blk_lt (g := gb308) (o := .cells #[.int .i64 ((rd_T49 l0 x34_2).f0), .int .i64 ((rd_T49 l0 x34_2).f1)] 49 (0, 0)) (by (with_reducible repeat (first | refine blk_drewN ?_ _ | refine blk_drew ?_ | refine blk_alloc ?_ _)); exact BK308.out)) : gb308 ≠ gb315)); have n10_ := Aside0.mk ((by rw [hg]; exact Nat.ne_of_gt (blk_lt (g := gb308) (o := .cells #[.int .i64 ((rd_T49 l0 x34_2).f0), .int .i64 ((rd_T49 l0 x34_2).f1)] 49 (0, 0)) (by (with_reducible repeat (first | refine blk_drewN ?_ _ | refine blk_drew ?_ | refine blk_alloc ?_ _)); exact BK308.out)) : gb315 ≠ gb308)); clear HO_3; clear HO_4; clear HO_5; clear HO311; clear BK308; clear HB; have HO_3 := n0_; have HO_4 := n1_; have HO_5 := n2_; have HO311 := n3_; have BK308 := n4_; have HB := n5_; have BK315 := n6_; have GW315 := n7_; have GE315 := n8_; have NB308_315 := n9_; have NB315_308 := n10_; clear n0_ n1_ n2_ n3_ n4_ n5_ n6_ n7_ n8_ n9_ n10_; clear hb hbox hg; have hnb33 := NB315_308.out; have hnc33 := NB308_315.out; have hcz34_0 : w32.cell? ⟨gb315, 0, none⟩ = some (.int .i64 0) := (blk_cell BK315.out 0).trans rfl; have hcz34_1 : w32.cell? ⟨gb315, 1, none⟩ = some (.int .i64 0) := (blk_cell BK315.out 1).trans rfl; have hfz34_0 := blk_frozen BK315.out 0; have hfz34_1 := blk_frozen BK315.out 1) | ((with_reducible refine gate_builtin (b := .append) (xs := #[.tmp 58, .tmp 60]) rfl ?_); (try (refine gate_guard (by rfl) ?_; dsimp only)); at_builtin; refine Kd.R_append k24 (w0 := w) w.heap.size rfl (.tmp 58) (.tmp 60) 46 24 (.agg #[(.int .i64 0), (.int .i64 0)]) 16 rfl Try.underlying46 info24 rfl (by decide) (by omega) u4 x4_2 (⟨t312, t313⟩ : S24) [.int .i64 t312, .int .i64 t313] (fun k_ => k_ ≠ gb315) (fun _ => False) rfl (by first | (go_simp; done) | (go_simp; rfl)) ?aP (fun _ hk => hk.elim) ?aF ?aO ?aB ?aS ?aL ?_; (case aP => exact k24_mkM _ _ _ (⟨t312, t313⟩ : S24)); (case aB => exact (by repeat (first | (with_reducible first | exact HB.out | apply below_alloc | apply pw_below_drewN | apply below_drew1 | refine below_set ?_ GE308.out | refine below_set ?_ GE315.out) | exact HB.out))); (case aF => exact (fun k_ hk => Kd.freshB (g := gb315) (o := .cells #[.int .i64 t312, .int .i64 t313] 24 (0, 0)) (by (with_reducible repeat (first | refine blk_drewN ?_ _ | refine blk_drew ?_ | refine blk_alloc ?_ _)); refine blk_put (cs := #[.int .i64 t312, .int .i64 0]) ?_ 1 _ rfl; (with_reducible repeat (first | refine blk_drewN ?_ _ | refine blk_drew ?_ | refine blk_alloc ?_ _)); refine blk_put (cs := #[.int .i64 0, .int .i64 0]) ?_ 0 _ rfl; (with_reducible repeat (first | refine blk_drewN ?_ _ | refine blk_drew ?_ | refine blk_alloc ?_ _)); exact BK315.out) k_ hk)); (case aO => exact (by (with_reducible repeat (first | apply Kd.R_alloc | apply Kd.R_drewN | apply Kd.R_drew)); exact Kd.R_mono (Kd.R_far (p := ⟨gb315, 1, none⟩) (Kd.R_far (p := ⟨gb315, 0, none⟩) (Kd.R_mono HO_4.out (fun k_ hk => (⟨hk, hk.2⟩ : _ ∧ k_ ≠ gb315))) (fun _ hk => hk.2) (.int .i64 t312)) (fun _ hk => hk.2) (.int .i64 t313)) (fun _ hk => hk.1.2))); (case aS => exact (below_size (by repeat (first | (with_reducible first | exact HB.out | apply below_alloc | apply pw_below_drewN | apply below_drew1 | refine below_set ?_ GE308.out | refine below_set ?_ GE315.out) | exact HB.out)))); (case aL => have := LMc27.out; omega); intro v317 w35 ho hb hg hat; rw [← Ny316.out] at ho; have n0_ := Aside0.mk (Kd.S_over' (by (with_reducible repeat (first | apply Kd.S_alloc | apply Kd.S_drewN | apply Kd.S_drew)); exact (Kd.S_mono (Kd.S_far (p := ⟨gb315, 1, none⟩) (Kd.S_far (p := ⟨gb315, 0, none⟩) (Kd.S_types HO_3.out BK315.out (by decide)) (fun _ hk => hk.2) (.int .i64 t312)) (fun _ hk => hk.2) (.int .i64 t313)) (fun _ h_ => h_.1))) (Kd.R_typed (by (with_reducible repeat (first | apply Kd.R_alloc | apply Kd.R_drewN | apply Kd.R_drew)); exact (Kd.R_mono (Kd.R_far (p := ⟨gb315, 1, none⟩) (Kd.R_far (p := ⟨gb315, 0, none⟩) (Kd.R_mono HO_4.out (fun k_ hk => (⟨hk, hk.2⟩ : _ ∧ k_ ≠ gb315))) (fun _ hk => hk.2) (.int .i64 t312)) (fun _ hk => hk.2) (.int .i64 t313)) (fun _ h_ => h_.1)))) (by decide) hg); have n1_ := Aside0.mk (Kd.R_over' (by (with_reducible repeat (first | apply Kd.R_alloc | apply Kd.R_drewN | apply Kd.R_drew)); exact (Kd.R_mono (Kd.R_far (p := ⟨gb315, 1, none⟩) (Kd.R_far (p := ⟨gb315, 0, none⟩) (Kd.R_types HO_5.out BK315.out (by decide)) (fun _ hk => hk.2) (.int .i64 t312)) (fun _ hk => hk.2) (.int .i64 t313)) (fun _ h_ => h_.1))) (Kd.R_typed (by (with_reducible repeat (first | apply Kd.R_alloc | apply Kd.R_drewN | apply Kd.R_drew)); exact (Kd.R_mono (Kd.R_far (p := ⟨gb315, 1, none⟩) (Kd.R_far (p := ⟨gb315, 0, none⟩) (Kd.R_mono HO_4.out (fun k_ hk => (⟨hk, hk.2⟩ : _ ∧ k_ ≠ gb315))) (fun _ hk => hk.2) (.int .i64 t312)) (fun _ hk => hk.2) (.int .i64 t313)) (fun _ h_ => h_.1)))) (by decide) hg); have n2_ := Aside0.mk (blk_grown (g := gb308) (o := .cells #[.int .i64 ((rd_T49 l0 x34_2).f0), .int .i64 ((rd_T49 l0 x34_2).f1)] 49 (0, 0)) (by (with_reducible repeat (first | refine blk_drewN ?_ _ | refine blk_drew ?_ | refine blk_alloc ?_ _)); refine blk_far ?_ NB308_315.out _; (with_reducible repeat (first | refine blk_drewN ?_ _ | refine blk_drew ?_ | refine blk_alloc ?_ _)); refine blk_far ?_ NB308_315.out _; (with_reducible repeat (first | refine blk_drewN ?_ _ | refine blk_drew ?_ | refine blk_alloc ?_ _)); exact BK308.out) hg (Kd.R_ne HO_4.out BK308.out (by decide))); have n3_ := Aside0.mk (Kd.S_over' (by (with_reducible repeat (first | apply Kd.S_alloc | apply Kd.S_drewN | apply Kd.S_drew)); exact (Kd.S_mono (Kd.S_far (p := ⟨gb315, 1, none⟩) (Kd.S_far (p := ⟨gb315, 0, none⟩) (Kd.S_types HO311.out BK315.out (by decide)) (fun _ hk => hk.2) (.int .i64 t312)) (fun _ hk => hk.2) (.int .i64 t313)) (fun _ h_ => h_.1))) (Kd.R_typed (by (with_reducible repeat (first | apply Kd.R_alloc | apply Kd.R_drewN | apply Kd.R_drew)); exact (Kd.R_mono (Kd.R_far (p := ⟨gb315, 1, none⟩) (Kd.R_far (p := ⟨gb315, 0, none⟩) (Kd.R_mono HO_4.out (fun k_ hk => (⟨hk, hk.2⟩ : _ ∧ k_ ≠ gb315))) (fun _ hk => hk.2) (.int .i64 t312)) (fun _ hk => hk.2) (.int .i64 t313)) (fun _ h_ => h_.1)))) (by decide) hg); have n4_ := Aside0.mk (blk_grown (g := gb315) (o := .cells #[.int .i64 t312, .int .i64 t313] 24 (0, 0)) (by (with_reducible repeat (first | refine blk_drewN ?_ _ | refine blk_drew ?_ | refine blk_alloc ?_ _)); refine blk_put (cs := #[.int .i64 t312, .int .i64 0]) ?_ 1 _ rfl; (with_reducible repeat (first | refine blk_drewN ?_ _ | refine blk_drew ?_ | refine blk_alloc ?_ _)); refine blk_put (cs := #[.int .i64 0, .int .i64 0]) ?_ 0 _ rfl; (with_reducible repeat (first | refine blk_drewN ?_ _ | refine blk_drew ?_ | refine blk_alloc ?_ _)); exact BK315.out) hg (Kd.R_away HO_4.out (fun _ hk => hk.2))); have n5_ := Aside0.mk (hb); have n6_ := Aside0.mk (ho); clear HO_3; clear HO_5; clear BK308; clear HO311; clear BK315; clear HB; clear HO_4; have HO_3 := n0_; have HO_5 := n1_; have BK308 := n2_; have HO311 := n3_; have BK315 := n4_; have HB := n5_; have HO318 := n6_; clear n0_ n1_ n2_ n3_ n4_ n5_ n6_; clear ho hb hg hat) | ((with_reducible refine gate_builtin (b := .append) (xs := #[.tmp 62, .tmp 63]) rfl ?_); (try (refine gate_guard (by rfl) ?_; dsimp only)); at_builtin; refine Kd.R_append Kd.bool (w0 := w) w.heap.size rfl (.tmp 62) (.tmp 63) 47 4 (.bool false) 1 rfl Try.underlying47 info4 rfl (by decide) (by omega) u5 x5_2 false [.bool false] (fun _ => True) (fun _ => False) rfl rfl ?aP (fun _ hk => hk.elim) ?aF ?aO ?aB ?aS ?aL ?_; (case aP => exact rfl); (case aB => exact (by repeat (first | (with_reducible first | exact HB.out | apply below_alloc | apply pw_below_drewN | apply below_drew1 | refine below_set ?_ GE308.out | refine below_set ?_ GE315.out) | exact HB.out))); (case aF => exact (fun _ _ => trivial)); (case aO => exact (by (with_reducible repeat (first | apply Kd.R_alloc | apply Kd.R_drewN | apply Kd.R_drew)); exact HO_5.out)); (case aS => exact (below_size (by repeat (first | (with_reducible first | exact HB.out | apply below_alloc | apply pw_below_drewN | apply below_drew1 | refine below_set ?_ GE308.out | refine below_set ?_ GE315.out) | exact HB.out)))); (case aL => have := LMc28.out; omega); intro v320 w36 ho hb hg hat; rw [← Ny319.out] at ho; have n0_ := Aside0.mk (Kd.S_over' (by (with_reducible repeat (first | apply Kd.S_alloc | apply Kd.S_drewN | apply Kd.S_drew)); exact HO_3.out) (Kd.R_typed (by (with_reducible repeat (first | apply Kd.R_alloc | apply Kd.R_drewN | apply Kd.R_drew)); exact HO_5.out)) (by decide) hg); have n1_ := Aside0.mk (blk_grown (g := gb308) (o := .cells #[.int .i64 ((rd_T49 l0 x34_2).f0), .int .i64 ((rd_T49 l0 x34_2).f1)] 49 (0, 0)) (by (with_reducible repeat (first | refine blk_drewN ?_ _ | refine blk_drew ?_ | refine blk_alloc ?_ _)); exact BK308.out) hg (Kd.R_ne HO_5.out BK308.out (by decide))); have n2_ := Aside0.mk (Kd.S_over' (by (with_reducible repeat (first | apply Kd.S_alloc | apply Kd.S_drewN | apply Kd.S_drew)); exact HO311.out) (Kd.R_typed (by (with_reducible repeat (first | apply Kd.R_alloc | apply Kd.R_drewN | apply Kd.R_drew)); exact HO_5.out)) (by decide) hg); have n3_ := Aside0.mk (blk_grown (g := gb315) (o := .cells #[.int .i64 t312, .int .i64 t313] 24 (0, 0)) (by (with_reducible repeat (first | refine blk_drewN ?_ _ | refine blk_drew ?_ | refine blk_alloc ?_ _)); exact BK315.out) hg (Kd.R_ne HO_5.out BK315.out (by decide))); have n4_ := Aside0.mk (Kd.R_over' (by (with_reducible repeat (first | apply Kd.R_alloc | apply Kd.R_drewN | apply Kd.R_drew)); exact HO318.out) (Kd.R_typed (by (with_reducible repeat (first | apply Kd.R_alloc | apply Kd.R_drewN | apply Kd.R_drew)); exact HO_5.out)) (by decide) hg); have n5_ := Aside0.mk (hb); have n6_ := Aside0.mk (ho); clear HO_3; clear BK308; clear HO311; clear BK315; clear HO318; clear HB; clear HO_5; have HO_3 := n0_; have BK308 := n1_; have HO311 := n2_; have BK315 := n3_; have HO318 := n4_; have HB := n5_; have HO321 := n6_; clear n0_ n1_ n2_ n3_ n4_ n5_ n6_; clear ho hb hg hat))
                                go_meet
                                case rel => exact ⟨_, (t309), (y316), (y319), H', ⟨by have := HJ2.out; have := HK2.out; have := HJ16.out; first | omega | exact Nat.le_refl _⟩, ⟨by (with_reducible repeat (first | apply Kd.S_alloc | apply Kd.S_drewN | apply Kd.S_drew)); exact Kd.S_mono HO311.out (fun _ hk => trivial)⟩, ⟨by (with_reducible repeat (first | apply Kd.R_alloc | apply Kd.R_drewN | apply Kd.R_drew)); exact Kd.R_mono HO318.out (fun _ hk => trivial)⟩, ⟨by (with_reducible repeat (first | apply Kd.R_alloc | apply Kd.R_drewN | apply Kd.R_drew)); exact HO321.out⟩, ⟨by (with_reducible repeat (first | refine blk_drewN ?_ _ | refine blk_drew ?_ | refine blk_alloc ?_ _)); exact BK308.out⟩, ⟨by repeat (first | (with_reducible first | exact HB.out | apply below_alloc | apply pw_below_drewN | apply below_drew1 | refine below_set ?_ GE308.out | refine below_set ?_ GE315.out) | exact HB.out)⟩⟩
                              · rw [if_neg c28] at H
                                exact absurd H (by simp)
                            · rw [if_neg c27] at H
                              exact absurd H (by simp)
                          · rw [if_neg c26] at H
                            have c26b0 : (t314 == 0) = false := beq_eq_false_iff_ne.mpr c26
                            have c26b1 : (t314 != 0) = true := bne_iff_ne.mpr c26
                            (first | rw [c26b0] | (simp only [i64_w, i32_w]; rw [c26b0]) | skip)
                            by_cases c37 : t314 = 407
                            · rw [if_pos c37] at H
                              have c37b0 : (t314 == 407) = true := beq_iff_eq.mpr c37
                              have c37b1 : (t314 != 407) = false := bne_eq_false_iff_eq.mpr c37
                              clear c37
                              have H' := Aside0.mk H
                              clear H
                              have hcz38_0 : wc.cell? ⟨gb308, 0, none⟩ = some (.int .i64 ((rd_T49 l0 x34_2).f0)) := (blk_cell BK308.out 0).trans rfl
                              have hcz38_1 : wc.cell? ⟨gb308, 1, none⟩ = some (.int .i64 ((rd_T49 l0 x34_2).f1)) := (blk_cell BK308.out 1).trans rfl
                              have hfz38_0 := blk_frozen BK308.out 0
                              have hfz38_1 := blk_frozen BK308.out 1
                              obtain ⟨Ao39, co39, eo39⟩ := Kd.S_slice HO_3.out
                              subst eo39
                              go_wp2_with (first | ((with_reducible refine gate_callee (f := 14) rfl ?_); refine goesL_ (some 51) rfl rfl Try.func14 (by kernel_rfl) rfl #[.slice Ao39 x3_2.length co39, .int .i64 (wrap64 (((rd_T49 l0 x34_2).f0) + 1)), .int .i64 0] rfl (by (try simp only [List.map_toArray, List.map_cons, List.map_nil]); first | done | rfl | (simp only [List.length_drop, List.length_take]; rfl)) ?_; (with_reducible refine (itab_Make.calls kj16 _ _ x3_2 (wrap64 (((rd_T49 l0 x34_2).f0) + 1)) 0 t309 t312 t313 t314 _ ?side1 ?side2 A25.out).mono ?_); (case side1 => repeat (first | exact (Kd.S_reads' HO_3.out).2.2 | (with_reducible refine Kd.C_alloc ?_ _) | (with_reducible refine Kd.C_drewN ?_ _) | (with_reducible refine Kd.C_drew ?_))); (case side2 => exact (Kd.S_reads' HO_3.out).2.1); rintro e w40 ⟨v310, rfl, ho0, hb⟩; refine ⟨_, rfl, ?_⟩; have n0_ := Aside0.mk (Kd.S_elder' (by (with_reducible repeat (first | apply Kd.S_alloc | apply Kd.S_drewN | apply Kd.S_drew)); exact HO_3.out) (Kd.S_base ho0) hb); have n1_ := Aside0.mk (Kd.R_below (by (with_reducible repeat (first | apply Kd.R_alloc | apply Kd.R_drewN | apply Kd.R_drew)); exact HO_4.out) hb); have n2_ := Aside0.mk (Kd.R_below (by (with_reducible repeat (first | apply Kd.R_alloc | apply Kd.R_drewN | apply Kd.R_drew)); exact HO_5.out) hb); have n3_ := Aside0.mk (Kd.S_lower (Kd.S_new' ho0 (Kd.S_lt (by (with_reducible repeat (first | apply Kd.S_alloc | apply Kd.S_drewN | apply Kd.S_drew)); exact HO_3.out))) (below_size (by repeat (first | (with_reducible first | exact HB.out | apply below_alloc | apply pw_below_drewN | apply below_drew1 | refine below_set ?_ GE308.out) | exact HB.out)))); have n4_ := Aside0.mk (blk_below (g := gb308) (o := .cells #[.int .i64 ((rd_T49 l0 x34_2).f0), .int .i64 ((rd_T49 l0 x34_2).f1)] 49 (0, 0)) (by (with_reducible repeat (first | refine blk_drewN ?_ _ | refine blk_drew ?_ | refine blk_alloc ?_ _)); exact BK308.out) hb); have n5_ := Aside0.mk (below_step (by repeat (first | (with_reducible first | exact HB.out | apply below_alloc | apply pw_below_drewN | apply below_drew1 | refine below_set ?_ GE308.out) | exact HB.out)) hb); clear HO_3; clear HO_4; clear HO_5; clear BK308; clear HB; have HO_3 := n0_; have HO_4 := n1_; have HO_5 := n2_; have HO311 := n3_; have BK308 := n4_; have HB := n5_; clear n0_ n1_ n2_ n3_ n4_ n5_; (try clear hb); (try clear hb2); (try clear hk); (try clear hi); (try clear ho0)) | ((with_reducible refine gate_dst (N := 9) rfl ?_); (try (refine gate_guard (by rfl) ?_; dsimp only)); refine box_event ?hg (N := 9) ?hd (cs := #[.int .i64 0, .int .i64 0]) (t := 24) ?hr ?_; (case hd => rfl); (case hg => rfl); (case hr => first | (go_simp; done) | (go_simp; rfl)); intro gb315 hg w41 hbox hb; have n0_ := Aside0.mk (Kd.S_below (by (with_reducible repeat (first | apply Kd.S_alloc | apply Kd.S_drewN | apply Kd.S_drew)); exact HO_3.out) hb); have n1_ := Aside0.mk (Kd.R_below (Kd.R_elderB (by (with_reducible repeat (first | apply Kd.R_alloc | apply Kd.R_drewN | apply Kd.R_drew)); exact HO_4.out) gb315 (Nat.le_of_eq hg.symm)) hb); have n2_ := Aside0.mk (Kd.R_below (by (with_reducible repeat (first | apply Kd.R_alloc | apply Kd.R_drewN | apply Kd.R_drew)); exact HO_5.out) hb); have n3_ := Aside0.mk (Kd.S_below (by (with_reducible repeat (first | apply Kd.S_alloc | apply Kd.S_drewN | apply Kd.S_drew)); exact HO311.out) hb); have n4_ := Aside0.mk (blk_below (g := gb308) (o := .cells #[.int .i64 ((rd_T49 l0 x34_2).f0), .int .i64 ((rd_T49 l0 x34_2).f1)] 49 (0, 0)) (by (with_reducible repeat (first | refine blk_drewN ?_ _ | refine blk_drew ?_ | refine blk_alloc ?_ _)); exact BK308.out) hb); have n5_ := Aside0.mk (below_step (by repeat (first | (with_reducible first | exact HB.out | apply below_alloc | apply pw_below_drewN | apply below_drew1 | refine below_set ?_ GE308.out) | exact HB.out)) hb); have n6_ := Aside0.mk (hbox); have n7_ := Aside0.mk ((by rw [hg]; exact (below_size (by repeat (first | (with_reducible first | exact HB.out | apply below_alloc | apply pw_below_drewN | apply below_drew1 | refine below_set ?_ GE308.out) | exact HB.out))) : w.heap.size ≤ gb315)); have n8_ := Aside0.mk ((by rw [hg]; exact (below_size (by repeat (first | (with_reducible first | exact HB.out | apply below_alloc | apply pw_below_drewN | apply below_drew1 | refine below_set ?_ GE308.out) | exact HB.out))) : w.heap.size ≤ gb315)); have n9_ := Aside0.mk ((by rw [hg]; exact Nat.ne_of_lt (blk_lt (g := gb308) (o := .cells #[.int .i64 ((rd_T49 l0 x34_2).f0), .int .i64 ((rd_T49 l0 x34_2).f1)] 49 (0, 0)) (by (with_reducible repeat (first | refine blk_drewN ?_ _ | refine blk_drew ?_ | refine blk_alloc ?_ _)); exact BK308.out)) : gb308 ≠ gb315)); have n10_ := Aside0.mk ((by rw [hg]; exact Nat.ne_of_gt (blk_lt (g := gb308) (o := .cells #[.int .i64 ((rd_T49 l0 x34_2).f0), .int .i64 ((rd_T49 l0 x34_2).f1)] 49 (0, 0)) (by (with_reducible repeat (first | refine blk_drewN ?_ _ | refine blk_drew ?_ | refine blk_alloc ?_ _)); exact BK308.out)) : gb315 ≠ gb308)); clear HO_3; clear HO_4; clear HO_5; clear HO311; clear BK308; clear HB; have HO_3 := n0_; have HO_4 := n1_; have HO_5 := n2_; have HO311 := n3_; have BK308 := n4_; have HB := n5_; have BK315 := n6_; have GW315 := n7_; have GE315 := n8_; have NB308_315 := n9_; have NB315_308 := n10_; clear n0_ n1_ n2_ n3_ n4_ n5_ n6_ n7_ n8_ n9_ n10_; clear hb hbox hg; have hnb42 := NB315_308.out; have hnc42 := NB308_315.out; have hcz43_0 : w41.cell? ⟨gb315, 0, none⟩ = some (.int .i64 0) := (blk_cell BK315.out 0).trans rfl; have hcz43_1 : w41.cell? ⟨gb315, 1, none⟩ = some (.int .i64 0) := (blk_cell BK315.out 1).trans rfl; have hfz43_0 := blk_frozen BK315.out 0; have hfz43_1 := blk_frozen BK315.out 1))
                              go_meet
                              case rel => exact ⟨_, (x3_2), (x4_2), (x5_2), H', ⟨by have := HJ2.out; have := HK2.out; have := HJ16.out; first | omega | exact Nat.le_refl _⟩, ⟨by (with_reducible repeat (first | apply Kd.S_alloc | apply Kd.S_drewN | apply Kd.S_drew)); exact Kd.S_mono (Kd.S_far (p := ⟨gb315, 1, none⟩) (Kd.S_far (p := ⟨gb315, 0, none⟩) (Kd.S_types HO_3.out BK315.out (by decide)) (fun _ hk => hk.2) (.int .i64 t312)) (fun _ hk => hk.2) (.int .i64 t313)) (fun _ hk => trivial)⟩, ⟨by (with_reducible repeat (first | apply Kd.R_alloc | apply Kd.R_drewN | apply Kd.R_drew)); exact Kd.R_mono (Kd.R_far (p := ⟨gb315, 1, none⟩) (Kd.R_far (p := ⟨gb315, 0, none⟩) (Kd.R_mono HO_4.out (fun k_ hk => (⟨hk, hk.2⟩ : _ ∧ k_ ≠ gb315))) (fun _ hk => hk.2) (.int .i64 t312)) (fun _ hk => hk.2) (.int .i64 t313)) (fun _ hk => trivial)⟩, ⟨by (with_reducible repeat (first | apply Kd.R_alloc | apply Kd.R_drewN | apply Kd.R_drew)); exact Kd.R_mono (Kd.R_far (p := ⟨gb315, 1, none⟩) (Kd.R_far (p := ⟨gb315, 0, none⟩) (Kd.R_types HO_5.out BK315.out (by decide)) (fun _ hk => hk.2) (.int .i64 t312)) (fun _ hk => hk.2) (.int .i64 t313)) (fun _ hk => trivial)⟩, ⟨by (with_reducible repeat (first | refine blk_drewN ?_ _ | refine blk_drew ?_ | refine blk_alloc ?_ _)); refine blk_far ?_ NB308_315.out _; (with_reducible repeat (first | refine blk_drewN ?_ _ | refine blk_drew ?_ | refine blk_alloc ?_ _)); refine blk_far ?_ NB308_315.out _; (with_reducible repeat (first | refine blk_drewN ?_ _ | refine blk_drew ?_ | refine blk_alloc ?_ _)); exact BK308.out⟩, ⟨by repeat (first | (with_reducible first | exact HB.out | apply below_alloc | apply pw_below_drewN | apply below_drew1 | refine below_set ?_ GE308.out | refine below_set ?_ GE315.out) | exact HB.out)⟩⟩
                            · rw [if_neg c37] at H
                              have c37b0 : (t314 == 407) = false := beq_eq_false_iff_ne.mpr c37
                              have c37b1 : (t314 != 407) = true := bne_iff_ne.mpr c37
                              cases H
                        · replace c24 := Bool.eq_false_iff.mpr c24
                          subst c24
                          have H1 : (if ((rd_T49 l0 x34_2).f1) ≥ 0 then (sextonlaw09_ItabStale.j3 kj16 x3_2 x4_2 x5_2 l0 (l0.length : Int) x34_2 (decide (((rd_T49 l0 x34_2).f1) < (x4_2.length : Int))) ((rd_T49 l0 x34_2).f0) ((rd_T49 l0 x34_2).f1)) else (sextonlaw09_ItabStale.j3 kj16 x3_2 x4_2 x5_2 l0 (l0.length : Int) x34_2 false ((rd_T49 l0 x34_2).f0) ((rd_T49 l0 x34_2).f1))) = some true := by rw [if_neg (show ¬ (false = true) by decide)] at H; exact H
                          clear H
                          have H := H1
                          clear H1
                          have HC50 := Aside0.mk H
                          clear H
                          go_upto_region 17 with (fail)
                          go_cut [76] (fun v76 wc => ∃ (kq : Nat) (x76_49 : Bool), v76 = .bool x76_49 ∧ Aside0 (sextonlaw09_ItabStale.j3 kq x3_2 x4_2 x5_2 l0 (l0.length : Int) x34_2 x76_49 ((rd_T49 l0 x34_2).f0) ((rd_T49 l0 x34_2).f1) = some true) ∧ Aside0 (kq ≤ kj16) ∧ Aside0 (Kd.S k30 30 wc w.heap.size (fun _ => True) u3 x3_2) ∧ Aside0 (Kd.R k24 24 wc w.heap.size (fun _ => True) u4 x4_2) ∧ Aside0 (Kd.R Kd.bool 4 wc w.heap.size (fun _ => True) u5 x5_2) ∧ Aside0 (wc.heap[gb308]? = some (.cells #[.int .i64 ((rd_T49 l0 x34_2).f0), .int .i64 ((rd_T49 l0 x34_2).f1)] 49 (0, 0))) ∧ Aside0 (Below w.heap.size w wc))
                          case first =>
                            have H := HC50.out
                            clear HC50
                            by_cases c51 : ((rd_T49 l0 x34_2).f1) ≥ 0
                            · rw [if_pos c51] at H
                              have c51b0 : decide (0 ≤ ((rd_T49 l0 x34_2).f1)) = true := decide_eq_true c51
                              clear c51
                              (first | rw [c51b0] | (simp only [i64_w, i32_w]; rw [c51b0]) | skip)
                              have H' := Aside0.mk H
                              clear H
                              have hcz52_0 : wc.cell? ⟨gb308, 0, none⟩ = some (.int .i64 ((rd_T49 l0 x34_2).f0)) := (blk_cell BK308.out 0).trans rfl
                              have hcz52_1 : wc.cell? ⟨gb308, 1, none⟩ = some (.int .i64 ((rd_T49 l0 x34_2).f1)) := (blk_cell BK308.out 1).trans rfl
                              have hfz52_0 := blk_frozen BK308.out 0
                              have hfz52_1 := blk_frozen BK308.out 1
                              obtain ⟨Ao53, co53, eo53⟩ := Kd.R_slice HO_4.out
                              subst eo53
                              go_wp2
                              go_meet
                              case rel => exact ⟨_, (decide (((rd_T49 l0 x34_2).f1) < (x4_2.length : Int))), (by first | rfl | (simp; done) | (simp [*]; done)), H', ⟨by have := HJ2.out; have := HK2.out; have := HJ16.out; first | omega | exact Nat.le_refl _⟩, ⟨by (with_reducible repeat (first | apply Kd.S_alloc | apply Kd.S_drewN | apply Kd.S_drew)); exact HO_3.out⟩, ⟨by (with_reducible repeat (first | apply Kd.R_alloc | apply Kd.R_drewN | apply Kd.R_drew)); exact HO_4.out⟩, ⟨by (with_reducible repeat (first | apply Kd.R_alloc | apply Kd.R_drewN | apply Kd.R_drew)); exact HO_5.out⟩, ⟨by (with_reducible repeat (first | refine blk_drewN ?_ _ | refine blk_drew ?_ | refine blk_alloc ?_ _)); exact BK308.out⟩, ⟨by repeat (first | (with_reducible first | exact HB.out | apply below_alloc | apply pw_below_drewN | apply below_drew1 | refine below_set ?_ GE308.out) | exact HB.out)⟩⟩
                            · rw [if_neg c51] at H
                              have c51b0 : decide (0 ≤ ((rd_T49 l0 x34_2).f1)) = false := decide_eq_false c51
                              clear c51
                              (first | rw [c51b0] | (simp only [i64_w, i32_w]; rw [c51b0]) | skip)
                              have H' := Aside0.mk H
                              clear H
                              have hcz54_0 : wc.cell? ⟨gb308, 0, none⟩ = some (.int .i64 ((rd_T49 l0 x34_2).f0)) := (blk_cell BK308.out 0).trans rfl
                              have hcz54_1 : wc.cell? ⟨gb308, 1, none⟩ = some (.int .i64 ((rd_T49 l0 x34_2).f1)) := (blk_cell BK308.out 1).trans rfl
                              have hfz54_0 := blk_frozen BK308.out 0
                              have hfz54_1 := blk_frozen BK308.out 1
                              go_wp2
                              go_meet
                              case rel => exact ⟨_, (false), (by first | rfl | (simp; done) | (simp [*]; done)), H', ⟨by have := HJ2.out; have := HK2.out; have := HJ16.out; first | omega | exact Nat.le_refl _⟩, ⟨by (with_reducible repeat (first | apply Kd.S_alloc | apply Kd.S_drewN | apply Kd.S_drew)); exact HO_3.out⟩, ⟨by (with_reducible repeat (first | apply Kd.R_alloc | apply Kd.R_drewN | apply Kd.R_drew)); exact HO_4.out⟩, ⟨by (with_reducible repeat (first | apply Kd.R_alloc | apply Kd.R_drewN | apply Kd.R_drew)); exact HO_5.out⟩, ⟨by (with_reducible repeat (first | refine blk_drewN ?_ _ | refine blk_drew ?_ | refine blk_alloc ?_ _)); exact BK308.out⟩, ⟨by repeat (first | (with_reducible first | exact HB.out | apply below_alloc | apply pw_below_drewN | apply below_drew1 | refine below_set ?_ GE308.out) | exact HB.out)⟩⟩
                          case rest =>
                            clear HC50
                            try clear c1
                            try clear c2
                            try clear p2
                            try clear c3
                            try clear p3
                            try clear q3
                            try clear hx3
                            try clear c4
                            try clear c5
                            try clear c5b0
                            try clear c5b1
                            try clear c5b2
                            try clear p6
                            try clear c8
                            try clear c9
                            try clear c9b0
                            try clear c9b1
                            try clear c14
                            try clear c14b0
                            try clear c15
                            try clear c15b0
                            try clear c16
                            try clear c16b0
                            try clear c20
                            try clear c20b0
                            try clear c20b1
                            try clear c24
                            try clear c26
                            try clear c26b0
                            try clear c26b1
                            try clear c27
                            try clear c28
                            try clear p30
                            try clear q30
                            try clear hx30
                            try clear c33
                            try clear c37
                            try clear c37b0
                            try clear c37b1
                            try clear c42
                            try clear c48
                            try clear c51
                            try clear c51b0
                            try clear hcz19_0
                            try clear hcz19_1
                            try clear hcz21_0
                            try clear hcz21_1
                            try clear hcz22_0
                            try clear hcz22_1
                            try clear hcz29_0
                            try clear hcz29_1
                            try clear hcz34_0
                            try clear hcz34_1
                            try clear hcz38_0
                            try clear hcz38_1
                            try clear hcz43_0
                            try clear hcz43_1
                            try clear hcz44_0
                            try clear hcz44_1
                            try clear hcz49_0
                            try clear hcz49_1
                            try clear hcz52_0
                            try clear hcz52_1
                            try clear hcz54_0
                            try clear hcz54_1
                            try clear hfz19_0
                            try clear hfz19_1
                            try clear hfz21_0
                            try clear hfz21_1
                            try clear hfz22_0
                            try clear hfz22_1
                            try clear hfz29_0
                            try clear hfz29_1
                            try clear hfz34_0
                            try clear hfz34_1
                            try clear hfz38_0
                            try clear hfz38_1
                            try clear hfz43_0
                            try clear hfz43_1
                            try clear hfz44_0
                            try clear hfz44_1
                            try clear hfz49_0
                            try clear hfz49_1
                            try clear hfz52_0
                            try clear hfz52_1
                            try clear hfz54_0
                            try clear hfz54_1
                            try clear hx307_0
                            try clear hx307_1
                            try clear p2
                            try clear p3
                            try clear p307
                            try clear q3
                            try clear q307
                            obtain ⟨kq, x76_49, rfl, HA, HJ49, HO_3, HO_4, HO_5, BK308, HB⟩ := hcut
                            cases kq with
                            | zero => exact absurd HA.out (by simp [sextonlaw09_ItabStale.j3])
                            | succ kj49 =>
                              have H := HA.out
                              clear HA
                              simp only [sextonlaw09_ItabStale.j3] at H
                              by_cases c55 : x76_49 = true
                              · subst c55
                                have H1 : (if 0 ≤ ((rd_T49 l0 x34_2).f1) then (if ((rd_T49 l0 x34_2).f1) < (x4_2.length : Int) then ((itab_Drop.f kj49 x3_2 ((rd_T24 x4_2 ((rd_T49 l0 x34_2).f1)).f0) ((rd_T24 x4_2 ((rd_T49 l0 x34_2).f1)).f1)).bind fun bt323 => (if ((rd_T49 l0 x34_2).f1) < (x5_2.length : Int) then (if ((bt323.2 == 0) == (rdOf false x5_2 ((rd_T49 l0 x34_2).f1))) = true then (some false) else (if bt323.2 = 0 then (sextonlaw09_ItabStale.j4 kj49 bt323.1 x4_2 (x5_2.set (((rd_T49 l0 x34_2).f1) : Int).toNat true) l0 (l0.length : Int) x34_2) else (sextonlaw09_ItabStale.j4 kj49 x3_2 x4_2 x5_2 l0 (l0.length : Int) x34_2))) else (none))) else (none)) else (none)) = some true := by rw [if_pos rfl] at H; exact H
                                clear H
                                have H := H1
                                clear H1
                                by_cases c56 : 0 ≤ ((rd_T49 l0 x34_2).f1)
                                · rw [if_pos c56] at H
                                  have c56b0 : decide (0 ≤ ((rd_T49 l0 x34_2).f1)) = true := decide_eq_true c56
                                  clear c56
                                  by_cases c57 : ((rd_T49 l0 x34_2).f1) < (x4_2.length : Int)
                                  · rw [if_pos c57] at H
                                    have c57b0 : decide (((rd_T49 l0 x34_2).f1) < (x4_2.length : Int)) = true := decide_eq_true c57
                                    clear c57
                                    replace H := Option.bind_eq_some_iff.mp H
                                    obtain ⟨⟨t323, t326⟩, A580, H⟩ := H
                                    replace H : (if ((rd_T49 l0 x34_2).f1) < (x5_2.length : Int) then (if ((t326 == 0) == (rdOf false x5_2 ((rd_T49 l0 x34_2).f1))) = true then (some false) else (if t326 = 0 then (sextonlaw09_ItabStale.j4 kj49 t323 x4_2 (x5_2.set (((rd_T49 l0 x34_2).f1) : Int).toNat true) l0 (l0.length : Int) x34_2) else (sextonlaw09_ItabStale.j4 kj49 x3_2 x4_2 x5_2 l0 (l0.length : Int) x34_2))) else (none)) = some true := H
                                    have A58 := Aside0.mk A580
                                    clear A580
                                    by_cases c59 : ((rd_T49 l0 x34_2).f1) < (x5_2.length : Int)
                                    · rw [if_pos c59] at H
                                      have c59b0 : decide (((rd_T49 l0 x34_2).f1) < (x5_2.length : Int)) = true := decide_eq_true c59
                                      clear c59
                                      by_cases c60 : ((t326 == 0) == (rdOf false x5_2 ((rd_T49 l0 x34_2).f1))) = true
                                      · rw [if_pos c60] at H
                                        have c60b0 : ((t326 == 0) == (rdOf false x5_2 ((rd_T49 l0 x34_2).f1))) = true := c60
                                        (try (have c60b1 : decide ((t326 == 0) = (rdOf false x5_2 ((rd_T49 l0 x34_2).f1))) = true := by simpa using c60))
                                        (try (have c60b2 : ((t326 == 0) == (rdOf false x5_2 ((rd_T49 l0 x34_2).f1))) = true := by simpa using c60))
                                        clear c60
                                        cases H
                                      · rw [if_neg c60] at H
                                        have c60b0 : ((t326 == 0) == (rdOf false x5_2 ((rd_T49 l0 x34_2).f1))) = false := by simpa using c60
                                        (try (have c60b1 : decide ((t326 == 0) = (rdOf false x5_2 ((rd_T49 l0 x34_2).f1))) = false := by simpa using c60))
                                        (try (have c60b2 : ((t326 == 0) == (rdOf false x5_2 ((rd_T49 l0 x34_2).f1))) = false := by simpa using c60))
                                        (try (have c60b3 : ¬ ((t326 == 0) = (rdOf false x5_2 ((rd_T49 l0 x34_2).f1))) := by simpa using c60))
                                        clear c60
                                        by_cases c67 : t326 = 0
                                        · rw [if_pos c67] at H
                                          have c67b0 : (t326 == 0) = true := beq_iff_eq.mpr c67
                                          have c67b1 : (t326 != 0) = false := bne_eq_false_iff_eq.mpr c67
                                          have c60g : (rdOf false x5_2 ((rd_T49 l0 x34_2).f1)) = false := by have h := c60b0; rw [c67b0] at h; simpa using h
                                          clear c67
                                          obtain ⟨y328, hy328⟩ : ∃ y_ : List Bool, y_ = (x5_2.set (((rd_T49 l0 x34_2).f1) : Int).toNat true) := ⟨_, rfl⟩
                                          replace H : (sextonlaw09_ItabStale.j4 kj49 t323 x4_2 y328 l0 (l0.length : Int) x34_2) = some true := by first | (rw [hy328]; with_reducible exact H) | (have H2_ := (Option.bind_some _ _).symm.trans H; rw [hy328]; with_reducible exact H2_) | (have H2_ := (Option.bind_some _ _).symm.trans H; with_reducible exact H2_) | with_reducible exact H | (rw [hy328]; exact H) | exact H
                                          have Ny328 := Aside0.mk hy328
                                          clear hy328
                                          have H' := Aside0.mk H
                                          clear H
                                          have hcz69_0 : wc.cell? ⟨gb308, 0, none⟩ = some (.int .i64 ((rd_T49 l0 x34_2).f0)) := (blk_cell BK308.out 0).trans rfl
                                          have hcz69_1 : wc.cell? ⟨gb308, 1, none⟩ = some (.int .i64 ((rd_T49 l0 x34_2).f1)) := (blk_cell BK308.out 1).trans rfl
                                          have hfz69_0 := blk_frozen BK308.out 0
                                          have hfz69_1 := blk_frozen BK308.out 1
                                          obtain ⟨Ao70, co70, eo70⟩ := Kd.R_slice HO_4.out
                                          subst eo70
                                          have p322 : 0 ≤ (((rd_T49 l0 x34_2).f1) : Int) := of_decide_eq_true (by first | (with_reducible assumption) | assumption)
                                          have q322 : ((rd_T49 l0 x34_2).f1) < (x4_2.length : Int) := of_decide_eq_true (by first | (with_reducible assumption) | assumption)
                                          obtain ⟨ad322, e322, hx322_0, hx322_1⟩ := at_T24 (Kd.R_reads' HO_4.out).2.2 ((rd_T49 l0 x34_2).f1) p322 q322
                                          cases e322
                                          replace p322 := eq_true p322
                                          replace q322 := eq_true q322
                                          obtain ⟨Ao71, co71, eo71⟩ := Kd.S_slice HO_3.out
                                          subst eo71
                                          go_wp2_with (first | ((with_reducible refine gate_callee (f := 17) rfl ?_); refine goesL_ (some 84) rfl rfl Try.func17 (by kernel_rfl) rfl #[.slice Ao71 x3_2.length co71, .agg #[.int .i64 ((rd_T24 x4_2 ((rd_T49 l0 x34_2).f1)).f0), .int .i64 ((rd_T24 x4_2 ((rd_T49 l0 x34_2).f1)).f1)]] rfl (by (try simp only [List.map_toArray, List.map_cons, List.map_nil]); first | done | rfl | (simp only [List.length_drop, List.length_take]; rfl)) ?_; (with_reducible refine (itab_Drop.calls kj49 _ _ x3_2 ((rd_T24 x4_2 ((rd_T49 l0 x34_2).f1)).f0) ((rd_T24 x4_2 ((rd_T49 l0 x34_2).f1)).f1) t323 t326 _ ?side1 ?side2 A58.out).mono ?_); (case side1 => repeat (first | exact (Kd.S_reads' HO_3.out).2.2 | (with_reducible refine Kd.C_alloc ?_ _) | (with_reducible refine Kd.C_drewN ?_ _) | (with_reducible refine Kd.C_drew ?_))); (case side2 => exact (Kd.S_reads' HO_3.out).2.1); rintro e w72 ⟨v324, rfl, ho0, hb⟩; refine ⟨_, rfl, ?_⟩; have n0_ := Aside0.mk (Kd.S_elder' (by (with_reducible repeat (first | apply Kd.S_alloc | apply Kd.S_drewN | apply Kd.S_drew)); exact HO_3.out) (Kd.S_base ho0) hb); have n1_ := Aside0.mk (Kd.R_below (by (with_reducible repeat (first | apply Kd.R_alloc | apply Kd.R_drewN | apply Kd.R_drew)); exact HO_4.out) hb); have n2_ := Aside0.mk (Kd.R_below (by (with_reducible repeat (first | apply Kd.R_alloc | apply Kd.R_drewN | apply Kd.R_drew)); exact HO_5.out) hb); have n3_ := Aside0.mk (Kd.S_lower (Kd.S_new' ho0 (Kd.S_lt (by (with_reducible repeat (first | apply Kd.S_alloc | apply Kd.S_drewN | apply Kd.S_drew)); exact HO_3.out))) (below_size (by repeat (first | (with_reducible first | exact HB.out | apply below_alloc | apply pw_below_drewN | apply below_drew1 | refine below_set ?_ GE308.out) | exact HB.out)))); have n4_ := Aside0.mk (blk_below (g := gb308) (o := .cells #[.int .i64 ((rd_T49 l0 x34_2).f0), .int .i64 ((rd_T49 l0 x34_2).f1)] 49 (0, 0)) (by (with_reducible repeat (first | refine blk_drewN ?_ _ | refine blk_drew ?_ | refine blk_alloc ?_ _)); exact BK308.out) hb); have n5_ := Aside0.mk (below_step (by repeat (first | (with_reducible first | exact HB.out | apply below_alloc | apply pw_below_drewN | apply below_drew1 | refine below_set ?_ GE308.out) | exact HB.out)) hb); clear HO_3; clear HO_4; clear HO_5; clear BK308; clear HB; have HO_3 := n0_; have HO_4 := n1_; have HO_5 := n2_; have HO325 := n3_; have BK308 := n4_; have HB := n5_; clear n0_ n1_ n2_ n3_ n4_ n5_; (try clear hb); (try clear hb2); (try clear hk); (try clear hi); (try clear ho0); have hcz73_0 : w72.cell? ⟨gb308, 0, none⟩ = some (.int .i64 ((rd_T49 l0 x34_2).f0)) := (blk_cell BK308.out 0).trans rfl; have hcz73_1 : w72.cell? ⟨gb308, 1, none⟩ = some (.int .i64 ((rd_T49 l0 x34_2).f1)) := (blk_cell BK308.out 1).trans rfl; have hfz73_0 := blk_frozen BK308.out 0; have hfz73_1 := blk_frozen BK308.out 1; obtain ⟨Ao74, co74, eo74⟩ := Kd.R_slice HO_5.out; subst eo74; have p327 : 0 ≤ (((rd_T49 l0 x34_2).f1) : Int) := of_decide_eq_true (by first | (with_reducible assumption) | assumption); have q327 : ((rd_T49 l0 x34_2).f1) < (x5_2.length : Int) := of_decide_eq_true (by first | (with_reducible assumption) | assumption); obtain ⟨ad327, e327, hx327_0⟩ := Kd.at_bool (Kd.R_reads' HO_5.out).2.2 ((rd_T49 l0 x34_2).f1) p327 q327; cases e327; replace p327 := eq_true p327; replace q327 := eq_true q327; have p68 : 0 ≤ (((rd_T49 l0 x34_2).f1) : Int) := of_decide_eq_true (by first | (with_reducible assumption) | assumption); have q68 : (((rd_T49 l0 x34_2).f1) : Int) < ((x5_2.length : Int) : Int) := of_decide_eq_true (by first | (with_reducible assumption) | assumption); obtain ⟨go68, co68, eo68, gb68, gl68, cl68, HG68⟩ := Kd.R_form HO_5.out (by omega); (first | cases eo68 | (injection eo68 with ea_ en_ ec_; (first | subst ea_ | (injection ea_ with ea_; subst ea_)); subst ec_; clear en_)); have GB68 := Aside0.mk gb68; have GG68 := Aside0.mk HG68; clear gb68 gl68 HG68; (first | simp only [add_plain] at hx327_0 | skip); obtain ⟨hx68_0, hf68_0⟩ := Kd.R_celln false HO_5.out (((rd_T49 l0 x34_2).f1) : Int) p68 q68; replace p68 := eq_true p68; replace q68 := eq_true q68; obtain ⟨hy75_, hz75_⟩ := Kd.R_celln false HO_5.out (((rd_T49 l0 x34_2).f1) : Int) (of_decide_eq_true (by first | (with_reducible assumption) | assumption)) (of_decide_eq_true (by first | (with_reducible assumption) | assumption)); have HP75 := Kd.R_putg HO_5.out (((rd_T49 l0 x34_2).f1) : Int) true) | ((with_reducible refine gate_store (t := 4) (p := 101) rfl ?_); refine store_event (t := 4) (p := 101) (v := ?vo_w76) (w1 := (w72.setCell ⟨go68, (((rd_T49 l0 x34_2).f1) : Int).toNat, none⟩ (.bool true))) ?hg ?ho ?hn ?hr ?_; (case ho => rfl); (case hg => rfl); (case hn => rfl); (case hr => first | (go_simp; done) | (go_simp; rfl)); intro w76 hw; have hg : w72.grownBy w76 (some go68) := (by rw [hw]; exact HP75.2); have hp_ : Kd.R Kd.bool 4 w76 w.heap.size (fun _ => True) (.slice (some ⟨go68, 0, none⟩) x5_2.length co74) y328 := (by rw [hw, Ny328.out]; exact HP75.1); clear HP75; have n0_ := Aside0.mk (Kd.S_over' (v := (.slice (some ⟨go68, 0, none⟩) x5_2.length co74)) (by (with_reducible repeat (first | apply Kd.S_alloc | apply Kd.S_drewN | apply Kd.S_drew)); exact HO_3.out) (Kd.R_typed HO_5.out) (by decide) hg); have n1_ := Aside0.mk (Kd.R_over' (v := (.slice (some ⟨go68, 0, none⟩) x5_2.length co74)) (by (with_reducible repeat (first | apply Kd.R_alloc | apply Kd.R_drewN | apply Kd.R_drew)); exact HO_4.out) (Kd.R_typed HO_5.out) (by decide) hg); have n2_ := Aside0.mk (hp_); have n3_ := Aside0.mk (blk_grown (g := gb308) (o := .cells #[.int .i64 ((rd_T49 l0 x34_2).f0), .int .i64 ((rd_T49 l0 x34_2).f1)] 49 (0, 0)) (by (with_reducible repeat (first | refine blk_drewN ?_ _ | refine blk_drew ?_ | refine blk_alloc ?_ _)); exact BK308.out) hg (Kd.R_ne HO_5.out BK308.out (by decide))); have n4_ := Aside0.mk (Kd.S_over' (v := (.slice (some ⟨go68, 0, none⟩) x5_2.length co74)) (by (with_reducible repeat (first | apply Kd.S_alloc | apply Kd.S_drewN | apply Kd.S_drew)); exact HO325.out) (Kd.R_typed HO_5.out) (by decide) hg); have n5_ := Aside0.mk ((by rw [hw]; exact below_set (HB.out) GB68.out : Below w.heap.size w w76)); clear HO_3; clear HO_4; clear HO_5; clear BK308; clear HO325; clear HB; have HO_3 := n0_; have HO_4 := n1_; have HO_5 := n2_; have BK308 := n3_; have HO325 := n4_; have HB := n5_; clear n0_ n1_ n2_ n3_ n4_ n5_; clear hg hw hp_))
                                          go_meet
                                          case rel => exact ⟨_, (t323), (x4_2), (y328), H', ⟨by have := HJ2.out; have := HK2.out; have := HJ16.out; have := HJ49.out; first | omega | exact Nat.le_refl _⟩, ⟨by (with_reducible repeat (first | apply Kd.S_alloc | apply Kd.S_drewN | apply Kd.S_drew)); exact Kd.S_mono HO325.out (fun _ hk => trivial)⟩, ⟨by (with_reducible repeat (first | apply Kd.R_alloc | apply Kd.R_drewN | apply Kd.R_drew)); exact HO_4.out⟩, ⟨by (with_reducible repeat (first | apply Kd.R_alloc | apply Kd.R_drewN | apply Kd.R_drew)); exact HO_5.out⟩, ⟨by (with_reducible repeat (first | refine blk_drewN ?_ _ | refine blk_drew ?_ | refine blk_alloc ?_ _)); exact BK308.out⟩, ⟨by repeat (first | (with_reducible first | exact HB.out | apply below_alloc | apply pw_below_drewN | apply below_drew1 | refine below_set ?_ GE308.out) | exact HB.out)⟩⟩
                                        · rw [if_neg c67] at H
                                          have c67b0 : (t326 == 0) = false := beq_eq_false_iff_ne.mpr c67
                                          have c67b1 : (t326 != 0) = true := bne_iff_ne.mpr c67
                                          have c60g : (rdOf false x5_2 ((rd_T49 l0 x34_2).f1)) = true := by have h := c60b0; rw [c67b0] at h; simpa using h
                                          have H' := Aside0.mk H
                                          clear H
                                          have hcz77_0 : wc.cell? ⟨gb308, 0, none⟩ = some (.int .i64 ((rd_T49 l0 x34_2).f0)) := (blk_cell BK308.out 0).trans rfl
                                          have hcz77_1 : wc.cell? ⟨gb308, 1, none⟩ = some (.int .i64 ((rd_T49 l0 x34_2).f1)) := (blk_cell BK308.out 1).trans rfl
                                          have hfz77_0 := blk_frozen BK308.out 0
                                          have hfz77_1 := blk_frozen BK308.out 1
                                          obtain ⟨Ao78, co78, eo78⟩ := Kd.R_slice HO_4.out
                                          subst eo78
                                          have p322 : 0 ≤ (((rd_T49 l0 x34_2).f1) : Int) := of_decide_eq_true (by first | (with_reducible assumption) | assumption)
                                          have q322 : ((rd_T49 l0 x34_2).f1) < (x4_2.length : Int) := of_decide_eq_true (by first | (with_reducible assumption) | assumption)
                                          obtain ⟨ad322, e322, hx322_0, hx322_1⟩ := at_T24 (Kd.R_reads' HO_4.out).2.2 ((rd_T49 l0 x34_2).f1) p322 q322
                                          cases e322
                                          replace p322 := eq_true p322
                                          replace q322 := eq_true q322
                                          obtain ⟨Ao79, co79, eo79⟩ := Kd.S_slice HO_3.out
                                          subst eo79
                                          go_wp2_with (first | ((with_reducible refine gate_callee (f := 17) rfl ?_); refine goesL_ (some 84) rfl rfl Try.func17 (by kernel_rfl) rfl #[.slice Ao79 x3_2.length co79, .agg #[.int .i64 ((rd_T24 x4_2 ((rd_T49 l0 x34_2).f1)).f0), .int .i64 ((rd_T24 x4_2 ((rd_T49 l0 x34_2).f1)).f1)]] rfl (by (try simp only [List.map_toArray, List.map_cons, List.map_nil]); first | done | rfl | (simp only [List.length_drop, List.length_take]; rfl)) ?_; (with_reducible refine (itab_Drop.calls kj49 _ _ x3_2 ((rd_T24 x4_2 ((rd_T49 l0 x34_2).f1)).f0) ((rd_T24 x4_2 ((rd_T49 l0 x34_2).f1)).f1) t323 t326 _ ?side1 ?side2 A58.out).mono ?_); (case side1 => repeat (first | exact (Kd.S_reads' HO_3.out).2.2 | (with_reducible refine Kd.C_alloc ?_ _) | (with_reducible refine Kd.C_drewN ?_ _) | (with_reducible refine Kd.C_drew ?_))); (case side2 => exact (Kd.S_reads' HO_3.out).2.1); rintro e w80 ⟨v324, rfl, ho0, hb⟩; refine ⟨_, rfl, ?_⟩; have n0_ := Aside0.mk (Kd.S_elder' (by (with_reducible repeat (first | apply Kd.S_alloc | apply Kd.S_drewN | apply Kd.S_drew)); exact HO_3.out) (Kd.S_base ho0) hb); have n1_ := Aside0.mk (Kd.R_below (by (with_reducible repeat (first | apply Kd.R_alloc | apply Kd.R_drewN | apply Kd.R_drew)); exact HO_4.out) hb); have n2_ := Aside0.mk (Kd.R_below (by (with_reducible repeat (first | apply Kd.R_alloc | apply Kd.R_drewN | apply Kd.R_drew)); exact HO_5.out) hb); have n3_ := Aside0.mk (Kd.S_lower (Kd.S_new' ho0 (Kd.S_lt (by (with_reducible repeat (first | apply Kd.S_alloc | apply Kd.S_drewN | apply Kd.S_drew)); exact HO_3.out))) (below_size (by repeat (first | (with_reducible first | exact HB.out | apply below_alloc | apply pw_below_drewN | apply below_drew1 | refine below_set ?_ GE308.out) | exact HB.out)))); have n4_ := Aside0.mk (blk_below (g := gb308) (o := .cells #[.int .i64 ((rd_T49 l0 x34_2).f0), .int .i64 ((rd_T49 l0 x34_2).f1)] 49 (0, 0)) (by (with_reducible repeat (first | refine blk_drewN ?_ _ | refine blk_drew ?_ | refine blk_alloc ?_ _)); exact BK308.out) hb); have n5_ := Aside0.mk (below_step (by repeat (first | (with_reducible first | exact HB.out | apply below_alloc | apply pw_below_drewN | apply below_drew1 | refine below_set ?_ GE308.out) | exact HB.out)) hb); clear HO_3; clear HO_4; clear HO_5; clear BK308; clear HB; have HO_3 := n0_; have HO_4 := n1_; have HO_5 := n2_; have HO325 := n3_; have BK308 := n4_; have HB := n5_; clear n0_ n1_ n2_ n3_ n4_ n5_; (try clear hb); (try clear hb2); (try clear hk); (try clear hi); (try clear ho0); have hcz81_0 : w80.cell? ⟨gb308, 0, none⟩ = some (.int .i64 ((rd_T49 l0 x34_2).f0)) := (blk_cell BK308.out 0).trans rfl; have hcz81_1 : w80.cell? ⟨gb308, 1, none⟩ = some (.int .i64 ((rd_T49 l0 x34_2).f1)) := (blk_cell BK308.out 1).trans rfl; have hfz81_0 := blk_frozen BK308.out 0; have hfz81_1 := blk_frozen BK308.out 1; obtain ⟨Ao82, co82, eo82⟩ := Kd.R_slice HO_5.out; subst eo82; have p327 : 0 ≤ (((rd_T49 l0 x34_2).f1) : Int) := of_decide_eq_true (by first | (with_reducible assumption) | assumption); have q327 : ((rd_T49 l0 x34_2).f1) < (x5_2.length : Int) := of_decide_eq_true (by first | (with_reducible assumption) | assumption); obtain ⟨ad327, e327, hx327_0⟩ := Kd.at_bool (Kd.R_reads' HO_5.out).2.2 ((rd_T49 l0 x34_2).f1) p327 q327; cases e327; replace p327 := eq_true p327; replace q327 := eq_true q327))
                                          go_meet
                                          case rel => exact ⟨_, (x3_2), (x4_2), (x5_2), H', ⟨by have := HJ2.out; have := HK2.out; have := HJ16.out; have := HJ49.out; first | omega | exact Nat.le_refl _⟩, ⟨by (with_reducible repeat (first | apply Kd.S_alloc | apply Kd.S_drewN | apply Kd.S_drew)); exact Kd.S_mono HO_3.out (fun _ hk => trivial)⟩, ⟨by (with_reducible repeat (first | apply Kd.R_alloc | apply Kd.R_drewN | apply Kd.R_drew)); exact HO_4.out⟩, ⟨by (with_reducible repeat (first | apply Kd.R_alloc | apply Kd.R_drewN | apply Kd.R_drew)); exact HO_5.out⟩, ⟨by (with_reducible repeat (first | refine blk_drewN ?_ _ | refine blk_drew ?_ | refine blk_alloc ?_ _)); exact BK308.out⟩, ⟨by repeat (first | (with_reducible first | exact HB.out | apply below_alloc | apply pw_below_drewN | apply below_drew1 | refine below_set ?_ GE308.out) | exact HB.out)⟩⟩
                                    · rw [if_neg c59] at H
                                      exact absurd H (by simp)
                                  · rw [if_neg c57] at H
                                    exact absurd H (by simp)
                                · rw [if_neg c56] at H
                                  exact absurd H (by simp)
                              · replace c55 := Bool.eq_false_iff.mpr c55
                                subst c55
                                have H1 : (sextonlaw09_ItabStale.j4 kj49 x3_2 x4_2 x5_2 l0 (l0.length : Int) x34_2) = some true := by rw [if_neg (show ¬ (false = true) by decide)] at H; exact H
                                clear H
                                have H := H1
                                clear H1
                                have H' := Aside0.mk H
                                clear H
                                go_wp2
                                go_meet
                                case rel => exact ⟨_, (x3_2), (x4_2), (x5_2), H', ⟨by have := HJ2.out; have := HK2.out; have := HJ16.out; have := HJ49.out; first | omega | exact Nat.le_refl _⟩, ⟨by (with_reducible repeat (first | apply Kd.S_alloc | apply Kd.S_drewN | apply Kd.S_drew)); exact HO_3.out⟩, ⟨by (with_reducible repeat (first | apply Kd.R_alloc | apply Kd.R_drewN | apply Kd.R_drew)); exact HO_4.out⟩, ⟨by (with_reducible repeat (first | apply Kd.R_alloc | apply Kd.R_drewN | apply Kd.R_drew)); exact HO_5.out⟩, ⟨by (with_reducible repeat (first | refine blk_drewN ?_ _ | refine blk_drew ?_ | refine blk_alloc ?_ _)); exact BK308.out⟩, ⟨by repeat (first | (with_reducible first | exact HB.out | apply below_alloc | apply pw_below_drewN | apply below_drew1 | refine below_set ?_ GE308.out) | exact HB.out)⟩⟩
                      case rest =>
                        clear HC23
                        try clear c1
                        try clear c2
                        try clear p2
                        try clear c3
                        try clear p3
                        try clear q3
                        try clear hx3
                        try clear c4
                        try clear c5
                        try clear c5b0
                        try clear c5b1
                        try clear c5b2
                        try clear c6
                        try clear p6
                        try clear q6
                        try clear hx6
                        try clear hf6
                        try clear c8
                        try clear c9
                        try clear c9b0
                        try clear c9b1
                        try clear c14
                        try clear c14b0
                        try clear c15
                        try clear c15b0
                        try clear c16
                        try clear c16b0
                        try clear c17
                        try clear c20
                        try clear c20b0
                        try clear c20b1
                        try clear c24
                        try clear c26
                        try clear c26b0
                        try clear c26b1
                        try clear c27
                        try clear c28
                        try clear p30
                        try clear q30
                        try clear hx30
                        try clear p32
                        try clear q32
                        try clear hx32
                        try clear c33
                        try clear c37
                        try clear c37b0
                        try clear c37b1
                        try clear c42
                        try clear c48
                        try clear c51
                        try clear c51b0
                        try clear c55
                        try clear c56
                        try clear c56b0
                        try clear c57
                        try clear c57b0
                        try clear c59
                        try clear c59b0
                        try clear c60
                        try clear c60b0
                        try clear c60b1
                        try clear c60b2
                        try clear p64
                        try clear c67
                        try clear c67b0
                        try clear c67b1
                        try clear p68
                        try clear q68
                        try clear hx68
                        try clear hf68
                        try clear hcz19_0
                        try clear hcz19_1
                        try clear hcz21_0
                        try clear hcz21_1
                        try clear hcz22_0
                        try clear hcz22_1
                        try clear hcz29_0
                        try clear hcz29_1
                        try clear hcz34_0
                        try clear hcz34_1
                        try clear hcz38_0
                        try clear hcz38_1
                        try clear hcz43_0
                        try clear hcz43_1
                        try clear hcz44_0
                        try clear hcz44_1
                        try clear hcz49_0
                        try clear hcz49_1
                        try clear hcz52_0
                        try clear hcz52_1
                        try clear hcz54_0
                        try clear hcz54_1
                        try clear hcz61_0
                        try clear hcz61_1
                        try clear hcz65_0
                        try clear hcz65_1
                        try clear hcz69_0
                        try clear hcz69_1
                        try clear hcz73_0
                        try clear hcz73_1
                        try clear hcz77_0
                        try clear hcz77_1
                        try clear hcz81_0
                        try clear hcz81_1
                        try clear hfz19_0
                        try clear hfz19_1
                        try clear hfz21_0
                        try clear hfz21_1
                        try clear hfz22_0
                        try clear hfz22_1
                        try clear hfz29_0
                        try clear hfz29_1
                        try clear hfz34_0
                        try clear hfz34_1
                        try clear hfz38_0
                        try clear hfz38_1
                        try clear hfz43_0
                        try clear hfz43_1
                        try clear hfz44_0
                        try clear hfz44_1
                        try clear hfz49_0
                        try clear hfz49_1
                        try clear hfz52_0
                        try clear hfz52_1
                        try clear hfz54_0
                        try clear hfz54_1
                        try clear hfz61_0
                        try clear hfz61_1
                        try clear hfz65_0
                        try clear hfz65_1
                        try clear hfz69_0
                        try clear hfz69_1
                        try clear hfz73_0
                        try clear hfz73_1
                        try clear hfz77_0
                        try clear hfz77_1
                        try clear hfz81_0
                        try clear hfz81_1
                        try clear hx307_0
                        try clear hx307_1
                        try clear hx322_0
                        try clear hx322_1
                        try clear hx327_0
                        try clear hx68_0
                        try clear p2
                        try clear p3
                        try clear p30
                        try clear p307
                        try clear p322
                        try clear p327
                        try clear p6
                        try clear p68
                        try clear q3
                        try clear q30
                        try clear q307
                        try clear q322
                        try clear q327
                        try clear q68
                        obtain ⟨kq, x3_22, x4_22, x5_22, HA, HJ22, HO_3, HO_4, HO_5, BK308, HB⟩ := hcut
                        cases kq with
                        | zero => exact absurd HA.out (by simp [sextonlaw09_ItabStale.j4])
                        | succ kj22 =>
                          have H := HA.out
                          clear HA
                          simp only [sextonlaw09_ItabStale.j4] at H
                          have H' := Aside0.mk H
                          clear H
                          obtain ⟨Ao83, co83, eo83⟩ := Kd.R_slice HO_4.out
                          subst eo83
                          go_wp2
                          go_loopg [104] kj22 (fun kq v104 w' => ∃ (x104_5 : Int), v104 = .int .i64 x104_5 ∧ Aside0 (sextonlaw09_ItabStale.l1 kq x3_22 x4_22 x5_22 l0 (l0.length : Int) x34_2 x4_22 (x4_22.length : Int) x104_5 = some true) ∧ Aside0 (kq ≤ kj22) ∧ Aside0 (Kd.S k30 30 w' w.heap.size (fun _ => True) u3 x3_22) ∧ Aside0 (Kd.R k24 24 w' w.heap.size (fun _ => True) (.slice Ao83 x4_22.length co83) x4_22) ∧ Aside0 (Kd.R Kd.bool 4 w' w.heap.size (fun _ => True) u5 x5_22) ∧ Aside0 (Kd.R k24 24 w' w.heap.size (fun _ => True) (.slice Ao83 x4_22.length co83) x4_22) ∧ Aside0 (w'.heap[gb308]? = some (.cells #[.int .i64 ((rd_T49 l0 x34_2).f0), .int .i64 ((rd_T49 l0 x34_2).f1)] 49 (0, 0))) ∧ Aside0 (Below w.heap.size w w'))
                          case atStart => exact ⟨(0), (by first | rfl | (simp; done) | (simp [*]; done)), H', ⟨Nat.le_refl _⟩, ⟨by (with_reducible repeat (first | apply Kd.S_alloc | apply Kd.S_drewN | apply Kd.S_drew)); exact HO_3.out⟩, ⟨by (with_reducible repeat (first | apply Kd.R_alloc | apply Kd.R_drewN | apply Kd.R_drew)); exact HO_4.out⟩, ⟨by (with_reducible repeat (first | apply Kd.R_alloc | apply Kd.R_drewN | apply Kd.R_drew)); exact HO_5.out⟩, ⟨by (with_reducible repeat (first | apply Kd.R_alloc | apply Kd.R_drewN | apply Kd.R_drew)); exact HO_4.out⟩, ⟨by (with_reducible repeat (first | refine blk_drewN ?_ _ | refine blk_drew ?_ | refine blk_alloc ?_ _)); exact BK308.out⟩, ⟨by repeat (first | (with_reducible first | exact HB.out | apply below_alloc | apply pw_below_drewN | apply below_drew1 | refine below_set ?_ GE308.out) | exact HB.out)⟩⟩
                          case round =>
                            clear H'
                            try clear c1
                            try clear c2
                            try clear p2
                            try clear c3
                            try clear p3
                            try clear q3
                            try clear hx3
                            try clear c4
                            try clear c5
                            try clear c5b0
                            try clear c5b1
                            try clear c5b2
                            try clear c6
                            try clear p6
                            try clear q6
                            try clear hx6
                            try clear hf6
                            try clear c8
                            try clear c9
                            try clear c9b0
                            try clear c9b1
                            try clear c14
                            try clear c14b0
                            try clear c15
                            try clear c15b0
                            try clear c16
                            try clear c16b0
                            try clear c17
                            try clear c20
                            try clear c20b0
                            try clear c20b1
                            try clear c24
                            try clear c26
                            try clear c26b0
                            try clear c26b1
                            try clear c27
                            try clear c28
                            try clear p30
                            try clear q30
                            try clear hx30
                            try clear p32
                            try clear q32
                            try clear hx32
                            try clear c33
                            try clear c37
                            try clear c37b0
                            try clear c37b1
                            try clear c42
                            try clear c48
                            try clear c51
                            try clear c51b0
                            try clear c55
                            try clear c56
                            try clear c56b0
                            try clear c57
                            try clear c57b0
                            try clear c59
                            try clear c59b0
                            try clear c60
                            try clear c60b0
                            try clear c60b1
                            try clear c60b2
                            try clear p64
                            try clear c67
                            try clear c67b0
                            try clear c67b1
                            try clear p68
                            try clear q68
                            try clear hx68
                            try clear hf68
                            try clear hcz19_0
                            try clear hcz19_1
                            try clear hcz21_0
                            try clear hcz21_1
                            try clear hcz22_0
                            try clear hcz22_1
                            try clear hcz29_0
                            try clear hcz29_1
                            try clear hcz34_0
                            try clear hcz34_1
                            try clear hcz38_0
                            try clear hcz38_1
                            try clear hcz43_0
                            try clear hcz43_1
                            try clear hcz44_0
                            try clear hcz44_1
                            try clear hcz49_0
                            try clear hcz49_1
                            try clear hcz52_0
                            try clear hcz52_1
                            try clear hcz54_0
                            try clear hcz54_1
                            try clear hcz61_0
                            try clear hcz61_1
                            try clear hcz65_0
                            try clear hcz65_1
                            try clear hcz69_0
                            try clear hcz69_1
                            try clear hcz73_0
                            try clear hcz73_1
                            try clear hcz77_0
                            try clear hcz77_1
                            try clear hcz81_0
                            try clear hcz81_1
                            try clear hfz19_0
                            try clear hfz19_1
                            try clear hfz21_0
                            try clear hfz21_1
                            try clear hfz22_0
                            try clear hfz22_1
                            try clear hfz29_0
                            try clear hfz29_1
                            try clear hfz34_0
                            try clear hfz34_1
                            try clear hfz38_0
                            try clear hfz38_1
                            try clear hfz43_0
                            try clear hfz43_1
                            try clear hfz44_0
                            try clear hfz44_1
                            try clear hfz49_0
                            try clear hfz49_1
                            try clear hfz52_0
                            try clear hfz52_1
                            try clear hfz54_0
                            try clear hfz54_1
                            try clear hfz61_0
                            try clear hfz61_1
                            try clear hfz65_0
                            try clear hfz65_1
                            try clear hfz69_0
                            try clear hfz69_1
                            try clear hfz73_0
                            try clear hfz73_1
                            try clear hfz77_0
                            try clear hfz77_1
                            try clear hfz81_0
                            try clear hfz81_1
                            try clear hx307_0
                            try clear hx307_1
                            try clear hx322_0
                            try clear hx322_1
                            try clear hx327_0
                            try clear hx68_0
                            try clear p2
                            try clear p3
                            try clear p30
                            try clear p307
                            try clear p32
                            try clear p322
                            try clear p327
                            try clear p6
                            try clear p64
                            try clear p68
                            try clear q3
                            try clear q30
                            try clear q307
                            try clear q32
                            try clear q322
                            try clear q327
                            try clear q6
                            try clear q68
                            obtain ⟨x104_5, rfl, HA, HK5, HO_3, HO_4, HO_5, HO_102, BK308, HB⟩ := hrel
                            cases gk with
                            | zero => exact absurd HA.out (by simp [sextonlaw09_ItabStale.l1])
                            | succ k5 =>
                              have H := HA.out
                              clear HA
                              simp only [sextonlaw09_ItabStale.l1] at H
                              by_cases c84 : x104_5 < (x4_22.length : Int)
                              · rw [if_pos c84] at H
                                have c84b0 : decide (x104_5 < (x4_22.length : Int)) = true := decide_eq_true c84
                                clear c84
                                by_cases c85 : 0 ≤ x104_5
                                · rw [if_pos c85] at H
                                  have c85b0 : decide (0 ≤ x104_5) = true := decide_eq_true c85
                                  clear c85
                                  by_cases c86 : x104_5 < (x4_22.length : Int)
                                  · rw [if_pos c86] at H
                                    have c86b0 : decide (x104_5 < (x4_22.length : Int)) = true := decide_eq_true c86
                                    clear c86
                                    replace H := Option.bind_eq_some_iff.mp H
                                    obtain ⟨⟨t331, t332, t333, t334, t335, t336, t339, t342, t343⟩, A870, H⟩ := H
                                    replace H : (if x104_5 < (x5_22.length : Int) then (if ((rdOf false x5_22 x104_5) != (t343 == 401)) = true then (some false) else (if rdOf false x5_22 x104_5 = true then (sextonlaw09_ItabStale.l1 k5 x3_22 x4_22 x5_22 l0 (l0.length : Int) x34_2 x4_22 (x4_22.length : Int) (wrap64 (x104_5 + 1))) else (if t343 = 0 then (sextonlaw09_ItabStale.l1 k5 x3_22 x4_22 x5_22 l0 (l0.length : Int) x34_2 x4_22 (x4_22.length : Int) (wrap64 (x104_5 + 1))) else (some false)))) else (none)) = some true := H
                                    have A87 := Aside0.mk A870
                                    clear A870
                                    by_cases c88 : x104_5 < (x5_22.length : Int)
                                    · rw [if_pos c88] at H
                                      have c88b0 : decide (x104_5 < (x5_22.length : Int)) = true := decide_eq_true c88
                                      clear c88
                                      by_cases c89 : ((rdOf false x5_22 x104_5) != (t343 == 401)) = true
                                      · rw [if_pos c89] at H
                                        have c89b0 : ((rdOf false x5_22 x104_5) != (t343 == 401)) = true := c89
                                        (try (have c89b1 : decide ((rdOf false x5_22 x104_5) = (t343 == 401)) = false := by simpa using c89))
                                        (try (have c89b2 : ((rdOf false x5_22 x104_5) == (t343 == 401)) = false := by simpa using c89))
                                        (try (have c89b3 : ¬ ((rdOf false x5_22 x104_5) = (t343 == 401)) := by simpa using c89))
                                        clear c89
                                        cases H
                                      · rw [if_neg c89] at H
                                        have c89b0 : ((rdOf false x5_22 x104_5) != (t343 == 401)) = false := by simpa using c89
                                        (try (have c89b1 : decide ((rdOf false x5_22 x104_5) = (t343 == 401)) = true := by simpa using c89))
                                        (try (have c89b2 : ((rdOf false x5_22 x104_5) == (t343 == 401)) = true := by simpa using c89))
                                        clear c89
                                        obtain ⟨bq102, hbq102⟩ : ∃ b_ : Bool, b_ = (rdOf false x5_22 x104_5) := ⟨_, rfl⟩
                                        replace H : (if bq102 = true then (sextonlaw09_ItabStale.l1 k5 x3_22 x4_22 x5_22 l0 (l0.length : Int) x34_2 x4_22 (x4_22.length : Int) (wrap64 (x104_5 + 1))) else (if t343 = 0 then (sextonlaw09_ItabStale.l1 k5 x3_22 x4_22 x5_22 l0 (l0.length : Int) x34_2 x4_22 (x4_22.length : Int) (wrap64 (x104_5 + 1))) else (some false))) = some true := by rw [← hbq102] at H; exact H
                                        have Nbq102 := Aside0.mk hbq102
                                        clear hbq102
                                        by_cases c103 : bq102 = true
                                        · subst c103
                                          have c103g : (rdOf false x5_22 x104_5) = true := Nbq102.out.symm
                                          have c103h : (t343 == 401) = true := by have h := c89b0; rw [c103g] at h; simpa using h
                                          have H1 : (sextonlaw09_ItabStale.l1 k5 x3_22 x4_22 x5_22 l0 (l0.length : Int) x34_2 x4_22 (x4_22.length : Int) (wrap64 (x104_5 + 1))) = some true := by rw [if_pos rfl] at H; exact H
                                          clear H
                                          have H := H1
                                          clear H1
                                          have H' := Aside0.mk H
                                          clear H
                                          have p329 : 0 ≤ (x104_5 : Int) := of_decide_eq_true (by first | (with_reducible assumption) | assumption)
                                          have q329 : x104_5 < (x4_22.length : Int) := of_decide_eq_true (by first | (with_reducible assumption) | assumption)
                                          obtain ⟨ad329, e329, hx329_0, hx329_1⟩ := at_T24 (Kd.R_reads' HO_102.out).2.2 x104_5 p329 q329
                                          cases e329
                                          replace p329 := eq_true p329
                                          replace q329 := eq_true q329
                                          go_wp2_with (first | ((with_reducible refine gate_dst (N := 14) rfl ?_); (try (refine gate_guard (by rfl) ?_; dsimp only)); refine box_event ?hg (N := 14) ?hd (cs := #[.int .i64 0, .int .i64 0]) (t := 24) ?hr ?_; (case hd => rfl); (case hg => rfl); (case hr => first | (go_simp; done) | (go_simp; rfl)); intro gb330 hg w104 hbox hb; have n0_ := Aside0.mk (Kd.S_below (by (with_reducible repeat (first | apply Kd.S_alloc | apply Kd.S_drewN | apply Kd.S_drew)); exact HO_3.out) hb); have n1_ := Aside0.mk (Kd.R_below (Kd.R_elderB (by (with_reducible repeat (first | apply Kd.R_alloc | apply Kd.R_drewN | apply Kd.R_drew)); exact HO_4.out) gb330 (Nat.le_of_eq hg.symm)) hb); have n2_ := Aside0.mk (Kd.R_below (by (with_reducible repeat (first | apply Kd.R_alloc | apply Kd.R_drewN | apply Kd.R_drew)); exact HO_5.out) hb); have n3_ := Aside0.mk (Kd.R_below (Kd.R_elderB (by (with_reducible repeat (first | apply Kd.R_alloc | apply Kd.R_drewN | apply Kd.R_drew)); exact HO_102.out) gb330 (Nat.le_of_eq hg.symm)) hb); have n4_ := Aside0.mk (blk_below (g := gb308) (o := .cells #[.int .i64 ((rd_T49 l0 x34_2).f0), .int .i64 ((rd_T49 l0 x34_2).f1)] 49 (0, 0)) (by (with_reducible repeat (first | refine blk_drewN ?_ _ | refine blk_drew ?_ | refine blk_alloc ?_ _)); exact BK308.out) hb); have n5_ := Aside0.mk (below_step (by repeat (first | (with_reducible first | exact HB.out | apply below_alloc | apply pw_below_drewN | apply below_drew1 | refine below_set ?_ GE308.out) | exact HB.out)) hb); have n6_ := Aside0.mk (hbox); have n7_ := Aside0.mk ((by rw [hg]; exact (below_size (by repeat (first | (with_reducible first | exact HB.out | apply below_alloc | apply pw_below_drewN | apply below_drew1 | refine below_set ?_ GE308.out) | exact HB.out))) : w.heap.size ≤ gb330)); have n8_ := Aside0.mk ((by rw [hg]; exact (below_size (by repeat (first | (with_reducible first | exact HB.out | apply below_alloc | apply pw_below_drewN | apply below_drew1 | refine below_set ?_ GE308.out) | exact HB.out))) : w.heap.size ≤ gb330)); have n9_ := Aside0.mk ((by rw [hg]; exact Nat.ne_of_lt (blk_lt (g := gb308) (o := .cells #[.int .i64 ((rd_T49 l0 x34_2).f0), .int .i64 ((rd_T49 l0 x34_2).f1)] 49 (0, 0)) (by (with_reducible repeat (first | refine blk_drewN ?_ _ | refine blk_drew ?_ | refine blk_alloc ?_ _)); exact BK308.out)) : gb308 ≠ gb330)); have n10_ := Aside0.mk ((by rw [hg]; exact Nat.ne_of_gt (blk_lt (g := gb308) (o := .cells #[.int .i64 ((rd_T49 l0 x34_2).f0), .int .i64 ((rd_T49 l0 x34_2).f1)] 49 (0, 0)) (by (with_reducible repeat (first | refine blk_drewN ?_ _ | refine blk_drew ?_ | refine blk_alloc ?_ _)); exact BK308.out)) : gb330 ≠ gb308)); clear HO_3; clear HO_4; clear HO_5; clear HO_102; clear BK308; clear HB; have HO_3 := n0_; have HO_4 := n1_; have HO_5 := n2_; have HO_102 := n3_; have BK308 := n4_; have HB := n5_; have BK330 := n6_; have GW330 := n7_; have GE330 := n8_; have NB308_330 := n9_; have NB330_308 := n10_; clear n0_ n1_ n2_ n3_ n4_ n5_ n6_ n7_ n8_ n9_ n10_; clear hb hbox hg; have hnb105 := NB330_308.out; have hnc105 := NB308_330.out; have hcz106_0 : w104.cell? ⟨gb330, 0, none⟩ = some (.int .i64 0) := (blk_cell BK330.out 0).trans rfl; have hcz106_1 : w104.cell? ⟨gb330, 1, none⟩ = some (.int .i64 0) := (blk_cell BK330.out 1).trans rfl; have hfz106_0 := blk_frozen BK330.out 0; have hfz106_1 := blk_frozen BK330.out 1; obtain ⟨Ao107, co107, eo107⟩ := Kd.S_slice HO_3.out; subst eo107) | ((with_reducible refine gate_callee (f := 10) rfl ?_); refine goesL_ (some 112) rfl rfl Try.func10 (by kernel_rfl) rfl #[.slice Ao107 x3_22.length co107, .agg #[.int .i64 ((rd_T24 x4_22 x104_5).f0), .int .i64 ((rd_T24 x4_22 x104_5).f1)]] rfl (by (try simp only [List.map_toArray, List.map_cons, List.map_nil]); first | done | rfl | (simp only [List.length_drop, List.length_take]; rfl)) ?_; (with_reducible refine (itab_Find.calls k5 _ _ x3_22 ((rd_T24 x4_22 x104_5).f0) ((rd_T24 x4_22 x104_5).f1) t331 t332 t333 t334 t335 t336 t339 t342 t343 _ ?side1 ?side2 A87.out).mono ?_); (case side1 => refine (Kd.S_reads' (e := 30) (base := w.heap.size) (ok := fun k_ => True) (n := x3_22.length) (c := co107) ?_).2.2; exact (by (with_reducible repeat (first | apply Kd.S_alloc | apply Kd.S_drewN | apply Kd.S_drew)); exact (Kd.S_mono (Kd.S_far (p := ⟨gb330, 1, none⟩) (Kd.S_far (p := ⟨gb330, 0, none⟩) (Kd.S_types HO_3.out BK330.out (by decide)) (fun _ hk => hk.2) (.int .i64 ((rd_T24 x4_22 x104_5).f0))) (fun _ hk => hk.2) (.int .i64 ((rd_T24 x4_22 x104_5).f1))) (fun _ h_ => h_.1)))); (case side2 => exact (Kd.S_reads' HO_3.out).2.1); rintro e w108 ⟨v337, v340, rfl, ho0, ho1, hb⟩; refine ⟨_, rfl, ?_⟩; have n0_ := Aside0.mk (Kd.S_mono (Kd.S_told (Kd.S_told (Kd.S_old (by (with_reducible repeat (first | apply Kd.S_alloc | apply Kd.S_drewN | apply Kd.S_drew)); exact (Kd.S_mono (Kd.S_far (p := ⟨gb330, 1, none⟩) (Kd.S_far (p := ⟨gb330, 0, none⟩) (Kd.S_types HO_3.out BK330.out (by decide)) (fun _ hk => hk.2) (.int .i64 ((rd_T24 x4_22 x104_5).f0))) (fun _ hk => hk.2) (.int .i64 ((rd_T24 x4_22 x104_5).f1))) (fun _ h_ => h_.1))) hb) (Kd.R_base ho0)) (Kd.R_base ho1)) (fun _ h_ => h_.1)); have n1_ := Aside0.mk (Kd.R_below (by (with_reducible repeat (first | apply Kd.R_alloc | apply Kd.R_drewN | apply Kd.R_drew)); exact (Kd.R_mono (Kd.R_far (p := ⟨gb330, 1, none⟩) (Kd.R_far (p := ⟨gb330, 0, none⟩) (Kd.R_mono HO_4.out (fun k_ hk => (⟨hk, hk.2⟩ : _ ∧ k_ ≠ gb330))) (fun _ hk => hk.2) (.int .i64 ((rd_T24 x4_22 x104_5).f0))) (fun _ hk => hk.2) (.int .i64 ((rd_T24 x4_22 x104_5).f1))) (fun _ h_ => h_.1))) hb); have n2_ := Aside0.mk (Kd.R_below (by (with_reducible repeat (first | apply Kd.R_alloc | apply Kd.R_drewN | apply Kd.R_drew)); exact (Kd.R_mono (Kd.R_far (p := ⟨gb330, 1, none⟩) (Kd.R_far (p := ⟨gb330, 0, none⟩) (Kd.R_types HO_5.out BK330.out (by decide)) (fun _ hk => hk.2) (.int .i64 ((rd_T24 x4_22 x104_5).f0))) (fun _ hk => hk.2) (.int .i64 ((rd_T24 x4_22 x104_5).f1))) (fun _ h_ => h_.1))) hb); have n3_ := Aside0.mk (Kd.R_below (by (with_reducible repeat (first | apply Kd.R_alloc | apply Kd.R_drewN | apply Kd.R_drew)); exact (Kd.R_mono (Kd.R_far (p := ⟨gb330, 1, none⟩) (Kd.R_far (p := ⟨gb330, 0, none⟩) (Kd.R_mono HO_102.out (fun k_ hk => (⟨hk, hk.2⟩ : _ ∧ k_ ≠ gb330))) (fun _ hk => hk.2) (.int .i64 ((rd_T24 x4_22 x104_5).f0))) (fun _ hk => hk.2) (.int .i64 ((rd_T24 x4_22 x104_5).f1))) (fun _ h_ => h_.1))) hb); have n4_ := Aside0.mk (Kd.R_lower ho0 (below_size (by repeat (first | (with_reducible first | exact HB.out | apply below_alloc | apply pw_below_drewN | apply below_drew1 | refine below_set ?_ GE308.out | refine below_set ?_ GE330.out) | exact HB.out)))); have n5_ := Aside0.mk (Kd.R_lower ho1 (below_size (by repeat (first | (with_reducible first | exact HB.out | apply below_alloc | apply pw_below_drewN | apply below_drew1 | refine below_set ?_ GE308.out | refine below_set ?_ GE330.out) | exact HB.out)))); have n6_ := Aside0.mk (blk_below (g := gb308) (o := .cells #[.int .i64 ((rd_T49 l0 x34_2).f0), .int .i64 ((rd_T49 l0 x34_2).f1)] 49 (0, 0)) (by (with_reducible repeat (first | refine blk_drewN ?_ _ | refine blk_drew ?_ | refine blk_alloc ?_ _)); refine blk_far ?_ NB308_330.out _; (with_reducible repeat (first | refine blk_drewN ?_ _ | refine blk_drew ?_ | refine blk_alloc ?_ _)); refine blk_far ?_ NB308_330.out _; (with_reducible repeat (first | refine blk_drewN ?_ _ | refine blk_drew ?_ | refine blk_alloc ?_ _)); exact BK308.out) hb); have n7_ := Aside0.mk (blk_below (g := gb330) (o := .cells #[.int .i64 ((rd_T24 x4_22 x104_5).f0), .int .i64 ((rd_T24 x4_22 x104_5).f1)] 24 (0, 0)) (by (with_reducible repeat (first | refine blk_drewN ?_ _ | refine blk_drew ?_ | refine blk_alloc ?_ _)); refine blk_put (cs := #[.int .i64 ((rd_T24 x4_22 x104_5).f0), .int .i64 0]) ?_ 1 _ rfl; (with_reducible repeat (first | refine blk_drewN ?_ _ | refine blk_drew ?_ | refine blk_alloc ?_ _)); refine blk_put (cs := #[.int .i64 0, .int .i64 0]) ?_ 0 _ rfl; (with_reducible repeat (first | refine blk_drewN ?_ _ | refine blk_drew ?_ | refine blk_alloc ?_ _)); exact BK330.out) hb); have n8_ := Aside0.mk (below_step (by repeat (first | (with_reducible first | exact HB.out | apply below_alloc | apply pw_below_drewN | apply below_drew1 | refine below_set ?_ GE308.out | refine below_set ?_ GE330.out) | exact HB.out)) hb); clear HO_3; clear HO_4; clear HO_5; clear HO_102; clear BK308; clear BK330; clear HB; have HO_3 := n0_; have HO_4 := n1_; have HO_5 := n2_; have HO_102 := n3_; have HO338 := n4_; have HO341 := n5_; have BK308 := n6_; have BK330 := n7_; have HB := n8_; clear n0_ n1_ n2_ n3_ n4_ n5_ n6_ n7_ n8_; (try clear hb); (try clear hb2); (try clear hk); (try clear hi); (try clear ho0); (try clear ho1)) | ((with_reducible refine gate_dst (N := 15) rfl ?_); (try (refine gate_guard (by rfl) ?_; dsimp only)); refine box_event ?hg (N := 15) ?hd (cs := #[.int .i64 0, .int .i64 0, .int .i64 0, .int .i64 0, .int .i64 0, .slice none 0 0, .slice none 0 0, .int .i64 0]) (t := 30) ?hr ?_; (case hd => rfl); (case hg => rfl); (case hr => first | (go_simp; done) | (go_simp; rfl)); intro gb344 hg w109 hbox hb; have n0_ := Aside0.mk (Kd.S_below (Kd.S_elderB (by (with_reducible repeat (first | apply Kd.S_alloc | apply Kd.S_drewN | apply Kd.S_drew)); exact HO_3.out) gb344 (Nat.le_of_eq hg.symm)) hb); have n1_ := Aside0.mk (Kd.R_below (by (with_reducible repeat (first | apply Kd.R_alloc | apply Kd.R_drewN | apply Kd.R_drew)); exact HO_4.out) hb); have n2_ := Aside0.mk (Kd.R_below (by (with_reducible repeat (first | apply Kd.R_alloc | apply Kd.R_drewN | apply Kd.R_drew)); exact HO_5.out) hb); have n3_ := Aside0.mk (Kd.R_below (by (with_reducible repeat (first | apply Kd.R_alloc | apply Kd.R_drewN | apply Kd.R_drew)); exact HO_102.out) hb); have n4_ := Aside0.mk (Kd.R_below (by (with_reducible repeat (first | apply Kd.R_alloc | apply Kd.R_drewN | apply Kd.R_drew)); exact HO338.out) hb); have n5_ := Aside0.mk (Kd.R_below (by (with_reducible repeat (first | apply Kd.R_alloc | apply Kd.R_drewN | apply Kd.R_drew)); exact HO341.out) hb); have n6_ := Aside0.mk (blk_below (g := gb308) (o := .cells #[.int .i64 ((rd_T49 l0 x34_2).f0), .int .i64 ((rd_T49 l0 x34_2).f1)] 49 (0, 0)) (by (with_reducible repeat (first | refine blk_drewN ?_ _ | refine blk_drew ?_ | refine blk_alloc ?_ _)); exact BK308.out) hb); have n7_ := Aside0.mk (blk_below (g := gb330) (o := .cells #[.int .i64 ((rd_T24 x4_22 x104_5).f0), .int .i64 ((rd_T24 x4_22 x104_5).f1)] 24 (0, 0)) (by (with_reducible repeat (first | refine blk_drewN ?_ _ | refine blk_drew ?_ | refine blk_alloc ?_ _)); exact BK330.out) hb); have n8_ := Aside0.mk (below_step (by repeat (first | (with_reducible first | exact HB.out | apply below_alloc | apply pw_below_drewN | apply below_drew1 | refine below_set ?_ GE308.out | refine below_set ?_ GE330.out) | exact HB.out)) hb); have n9_ := Aside0.mk (hbox); have n10_ := Aside0.mk ((by rw [hg]; exact (below_size (by repeat (first | (with_reducible first | exact HB.out | apply below_alloc | apply pw_below_drewN | apply below_drew1 | refine below_set ?_ GE308.out | refine below_set ?_ GE330.out) | exact HB.out))) : w.heap.size ≤ gb344)); have n11_ := Aside0.mk ((by rw [hg]; exact (below_size (by repeat (first | (with_reducible first | exact HB.out | apply below_alloc | apply pw_below_drewN | apply below_drew1 | refine below_set ?_ GE308.out | refine below_set ?_ GE330.out) | exact HB.out))) : w.heap.size ≤ gb344)); have n12_ := Aside0.mk ((by rw [hg]; exact Nat.ne_of_lt (blk_lt (g := gb308) (o := .cells #[.int .i64 ((rd_T49 l0 x34_2).f0), .int .i64 ((rd_T49 l0 x34_2).f1)] 49 (0, 0)) (by (with_reducible repeat (first | refine blk_drewN ?_ _ | refine blk_drew ?_ | refine blk_alloc ?_ _)); exact BK308.out)) : gb308 ≠ gb344)); have n13_ := Aside0.mk ((by rw [hg]; exact Nat.ne_of_gt (blk_lt (g := gb308) (o := .cells #[.int .i64 ((rd_T49 l0 x34_2).f0), .int .i64 ((rd_T49 l0 x34_2).f1)] 49 (0, 0)) (by (with_reducible repeat (first | refine blk_drewN ?_ _ | refine blk_drew ?_ | refine blk_alloc ?_ _)); exact BK308.out)) : gb344 ≠ gb308)); have n14_ := Aside0.mk ((by rw [hg]; exact Nat.ne_of_lt (blk_lt (g := gb330) (o := .cells #[.int .i64 ((rd_T24 x4_22 x104_5).f0), .int .i64 ((rd_T24 x4_22 x104_5).f1)] 24 (0, 0)) (by (with_reducible repeat (first | refine blk_drewN ?_ _ | refine blk_drew ?_ | refine blk_alloc ?_ _)); exact BK330.out)) : gb330 ≠ gb344)); have n15_ := Aside0.mk ((by rw [hg]; exact Nat.ne_of_gt (blk_lt (g := gb330) (o := .cells #[.int .i64 ((rd_T24 x4_22 x104_5).f0), .int .i64 ((rd_T24 x4_22 x104_5).f1)] 24 (0, 0)) (by (with_reducible repeat (first | refine blk_drewN ?_ _ | refine blk_drew ?_ | refine blk_alloc ?_ _)); exact BK330.out)) : gb344 ≠ gb330)); clear HO_3; clear HO_4; clear HO_5; clear HO_102; clear HO338; clear HO341; clear BK308; clear BK330; clear HB; have HO_3 := n0_; have HO_4 := n1_; have HO_5 := n2_; have HO_102 := n3_; have HO338 := n4_; have HO341 := n5_; have BK308 := n6_; have BK330 := n7_; have HB := n8_; have BK344 := n9_; have GW344 := n10_; have GE344 := n11_; have NB308_344 := n12_; have NB344_308 := n13_; have NB330_344 := n14_; have NB344_330 := n15_; clear n0_ n1_ n2_ n3_ n4_ n5_ n6_ n7_ n8_ n9_ n10_ n11_ n12_ n13_ n14_ n15_; clear hb hbox hg; have hnb110 := NB344_308.out; have hnc110 := NB308_344.out; have hnb111 := NB344_330.out; have hnc111 := NB330_344.out; have hcz112_0 : w109.cell? ⟨gb344, 0, none⟩ = some (.int .i64 0) := (blk_cell BK344.out 0).trans rfl; have hcz112_1 : w109.cell? ⟨gb344, 1, none⟩ = some (.int .i64 0) := (blk_cell BK344.out 1).trans rfl; have hcz112_2 : w109.cell? ⟨gb344, 2, none⟩ = some (.int .i64 0) := (blk_cell BK344.out 2).trans rfl; have hcz112_3 : w109.cell? ⟨gb344, 3, none⟩ = some (.int .i64 0) := (blk_cell BK344.out 3).trans rfl; have hcz112_4 : w109.cell? ⟨gb344, 4, none⟩ = some (.int .i64 0) := (blk_cell BK344.out 4).trans rfl; have hcz112_5 : w109.cell? ⟨gb344, 5, none⟩ = some (.slice none 0 0) := (blk_cell BK344.out 5).trans rfl; have hcz112_6 : w109.cell? ⟨gb344, 6, none⟩ = some (.slice none 0 0) := (blk_cell BK344.out 6).trans rfl; have hcz112_7 : w109.cell? ⟨gb344, 7, none⟩ = some (.int .i64 0) := (blk_cell BK344.out 7).trans rfl; have hfz112_0 := blk_frozen BK344.out 0; have hfz112_1 := blk_frozen BK344.out 1; have hfz112_2 := blk_frozen BK344.out 2; have hfz112_3 := blk_frozen BK344.out 3; have hfz112_4 := blk_frozen BK344.out 4; have hfz112_5 := blk_frozen BK344.out 5; have hfz112_6 := blk_frozen BK344.out 6; have hfz112_7 := blk_frozen BK344.out 7; obtain ⟨Ao113, co113, eo113⟩ := Kd.R_slice HO338.out; subst eo113; obtain ⟨Ao114, co114, eo114⟩ := Kd.R_slice HO341.out; subst eo114; obtain ⟨Ao115, co115, eo115⟩ := Kd.R_slice HO_5.out; subst eo115; have p345 : 0 ≤ (x104_5 : Int) := of_decide_eq_true (by first | (with_reducible assumption) | assumption); have q345 : x104_5 < (x5_22.length : Int) := of_decide_eq_true (by first | (with_reducible assumption) | assumption); obtain ⟨ad345, e345, hx345_0⟩ := Kd.at_bool (Kd.R_reads' HO_5.out).2.2 x104_5 p345 q345; (try rw [← Nbq102.out] at hx345_0); cases e345; have hn345_0 : ad345.block ≠ gb344 := Kd.own_blk (Kd.R_ne HO_5.out BK344.out (by decide)); have hn345_1 : ad345.block ≠ gb344 := Kd.own_blk (Kd.R_ne HO_5.out BK344.out (by decide)); have hn345_2 : ad345.block ≠ gb344 := Kd.own_blk (Kd.R_ne HO_5.out BK344.out (by decide)); have hn345_3 : ad345.block ≠ gb344 := Kd.own_blk (Kd.R_ne HO_5.out BK344.out (by decide)); have hn345_4 : ad345.block ≠ gb344 := Kd.own_blk (Kd.R_ne HO_5.out BK344.out (by decide)); have hn345_5 : ad345.block ≠ gb344 := Kd.own_blk (Kd.R_ne HO_5.out BK344.out (by decide)); have hn345_6 : ad345.block ≠ gb344 := Kd.own_blk (Kd.R_ne HO_5.out BK344.out (by decide)); have hn345_7 : ad345.block ≠ gb344 := Kd.own_blk (Kd.R_ne HO_5.out BK344.out (by decide)); replace hx345_0 := (cell_far (p := ⟨gb344, 0, none⟩) (by first | (rw [add_block]; exact hn345_0) | (show (Addr.add _ _).block ≠ _; rw [add_block]; exact hn345_0) | exact hn345_0) (.int .i64 t331)).trans hx345_0; replace hx345_0 := (cell_far (p := ⟨gb344, 1, none⟩) (by first | (rw [add_block]; exact hn345_1) | (show (Addr.add _ _).block ≠ _; rw [add_block]; exact hn345_1) | exact hn345_1) (.int .i64 t332)).trans hx345_0; replace hx345_0 := (cell_far (p := ⟨gb344, 2, none⟩) (by first | (rw [add_block]; exact hn345_2) | (show (Addr.add _ _).block ≠ _; rw [add_block]; exact hn345_2) | exact hn345_2) (.int .i64 t333)).trans hx345_0; replace hx345_0 := (cell_far (p := ⟨gb344, 3, none⟩) (by first | (rw [add_block]; exact hn345_3) | (show (Addr.add _ _).block ≠ _; rw [add_block]; exact hn345_3) | exact hn345_3) (.int .i64 t334)).trans hx345_0; replace hx345_0 := (cell_far (p := ⟨gb344, 4, none⟩) (by first | (rw [add_block]; exact hn345_4) | (show (Addr.add _ _).block ≠ _; rw [add_block]; exact hn345_4) | exact hn345_4) (.int .i64 t335)).trans hx345_0; replace hx345_0 := (cell_far (p := ⟨gb344, 5, none⟩) (by first | (rw [add_block]; exact hn345_5) | (show (Addr.add _ _).block ≠ _; rw [add_block]; exact hn345_5) | exact hn345_5) (.slice Ao113 t336.length co113)).trans hx345_0; replace hx345_0 := (cell_far (p := ⟨gb344, 6, none⟩) (by first | (rw [add_block]; exact hn345_6) | (show (Addr.add _ _).block ≠ _; rw [add_block]; exact hn345_6) | exact hn345_6) (.slice Ao114 t339.length co114)).trans hx345_0; replace hx345_0 := (cell_far (p := ⟨gb344, 7, none⟩) (by first | (rw [add_block]; exact hn345_7) | (show (Addr.add _ _).block ≠ _; rw [add_block]; exact hn345_7) | exact hn345_7) (.int .i64 t342)).trans hx345_0; clear hn345_0; clear hn345_1; clear hn345_2; clear hn345_3; clear hn345_4; clear hn345_5; clear hn345_6; clear hn345_7; replace p345 := eq_true p345; replace q345 := eq_true q345; have p346 : 0 ≤ (x104_5 : Int) := of_decide_eq_true (by first | (with_reducible assumption) | assumption); have q346 : x104_5 < (x5_22.length : Int) := of_decide_eq_true (by first | (with_reducible assumption) | assumption); obtain ⟨ad346, e346, hx346_0⟩ := Kd.at_bool (Kd.R_reads' HO_5.out).2.2 x104_5 p346 q346; (try rw [← Nbq102.out] at hx346_0); obtain rfl : ad345 = ad346 := (by injection e346); have hn346_0 : ad345.block ≠ gb344 := Kd.own_blk (Kd.R_ne HO_5.out BK344.out (by decide)); have hn346_1 : ad345.block ≠ gb344 := Kd.own_blk (Kd.R_ne HO_5.out BK344.out (by decide)); have hn346_2 : ad345.block ≠ gb344 := Kd.own_blk (Kd.R_ne HO_5.out BK344.out (by decide)); have hn346_3 : ad345.block ≠ gb344 := Kd.own_blk (Kd.R_ne HO_5.out BK344.out (by decide)); have hn346_4 : ad345.block ≠ gb344 := Kd.own_blk (Kd.R_ne HO_5.out BK344.out (by decide)); have hn346_5 : ad345.block ≠ gb344 := Kd.own_blk (Kd.R_ne HO_5.out BK344.out (by decide)); have hn346_6 : ad345.block ≠ gb344 := Kd.own_blk (Kd.R_ne HO_5.out BK344.out (by decide)); have hn346_7 : ad345.block ≠ gb344 := Kd.own_blk (Kd.R_ne HO_5.out BK344.out (by decide)); replace hx346_0 := (cell_far (p := ⟨gb344, 0, none⟩) (by first | (rw [add_block]; exact hn346_0) | (show (Addr.add _ _).block ≠ _; rw [add_block]; exact hn346_0) | exact hn346_0) (.int .i64 t331)).trans hx346_0; replace hx346_0 := (cell_far (p := ⟨gb344, 1, none⟩) (by first | (rw [add_block]; exact hn346_1) | (show (Addr.add _ _).block ≠ _; rw [add_block]; exact hn346_1) | exact hn346_1) (.int .i64 t332)).trans hx346_0; replace hx346_0 := (cell_far (p := ⟨gb344, 2, none⟩) (by first | (rw [add_block]; exact hn346_2) | (show (Addr.add _ _).block ≠ _; rw [add_block]; exact hn346_2) | exact hn346_2) (.int .i64 t333)).trans hx346_0; replace hx346_0 := (cell_far (p := ⟨gb344, 3, none⟩) (by first | (rw [add_block]; exact hn346_3) | (show (Addr.add _ _).block ≠ _; rw [add_block]; exact hn346_3) | exact hn346_3) (.int .i64 t334)).trans hx346_0; replace hx346_0 := (cell_far (p := ⟨gb344, 4, none⟩) (by first | (rw [add_block]; exact hn346_4) | (show (Addr.add _ _).block ≠ _; rw [add_block]; exact hn346_4) | exact hn346_4) (.int .i64 t335)).trans hx346_0; replace hx346_0 := (cell_far (p := ⟨gb344, 5, none⟩) (by first | (rw [add_block]; exact hn346_5) | (show (Addr.add _ _).block ≠ _; rw [add_block]; exact hn346_5) | exact hn346_5) (.slice Ao113 t336.length co113)).trans hx346_0; replace hx346_0 := (cell_far (p := ⟨gb344, 6, none⟩) (by first | (rw [add_block]; exact hn346_6) | (show (Addr.add _ _).block ≠ _; rw [add_block]; exact hn346_6) | exact hn346_6) (.slice Ao114 t339.length co114)).trans hx346_0; replace hx346_0 := (cell_far (p := ⟨gb344, 7, none⟩) (by first | (rw [add_block]; exact hn346_7) | (show (Addr.add _ _).block ≠ _; rw [add_block]; exact hn346_7) | exact hn346_7) (.int .i64 t342)).trans hx346_0; clear hn346_0; clear hn346_1; clear hn346_2; clear hn346_3; clear hn346_4; clear hn346_5; clear hn346_6; clear hn346_7; replace p346 := eq_true p346; replace q346 := eq_true q346))
                                          go_roundg k5
                                          case measure => have := HJ2.out; have := HK2.out; have := HJ16.out; have := HJ22.out; have := HK5.out; omega
                                          case rel => exact ⟨(wrap64 (x104_5 + 1)), (by first | rfl | (simp; done) | (simp [*]; done)), H', ⟨by have := HJ2.out; have := HK2.out; have := HJ16.out; have := HJ22.out; have := HK5.out; omega⟩, ⟨by (with_reducible repeat (first | apply Kd.S_alloc | apply Kd.S_drewN | apply Kd.S_drew)); exact Kd.S_mono (Kd.S_far (p := ⟨gb344, 7, none⟩) (Kd.S_far (p := ⟨gb344, 6, none⟩) (Kd.S_far (p := ⟨gb344, 5, none⟩) (Kd.S_far (p := ⟨gb344, 4, none⟩) (Kd.S_far (p := ⟨gb344, 3, none⟩) (Kd.S_far (p := ⟨gb344, 2, none⟩) (Kd.S_far (p := ⟨gb344, 1, none⟩) (Kd.S_far (p := ⟨gb344, 0, none⟩) (Kd.S_mono HO_3.out (fun k_ hk => (⟨hk, hk.2⟩ : _ ∧ k_ ≠ gb344))) (fun _ hk => hk.2) (.int .i64 t331)) (fun _ hk => hk.2) (.int .i64 t332)) (fun _ hk => hk.2) (.int .i64 t333)) (fun _ hk => hk.2) (.int .i64 t334)) (fun _ hk => hk.2) (.int .i64 t335)) (fun _ hk => hk.2) (.slice Ao113 t336.length co113)) (fun _ hk => hk.2) (.slice Ao114 t339.length co114)) (fun _ hk => hk.2) (.int .i64 t342)) (fun _ hk => trivial)⟩, ⟨by (with_reducible repeat (first | apply Kd.R_alloc | apply Kd.R_drewN | apply Kd.R_drew)); exact Kd.R_mono (Kd.R_far (p := ⟨gb344, 7, none⟩) (Kd.R_far (p := ⟨gb344, 6, none⟩) (Kd.R_far (p := ⟨gb344, 5, none⟩) (Kd.R_far (p := ⟨gb344, 4, none⟩) (Kd.R_far (p := ⟨gb344, 3, none⟩) (Kd.R_far (p := ⟨gb344, 2, none⟩) (Kd.R_far (p := ⟨gb344, 1, none⟩) (Kd.R_far (p := ⟨gb344, 0, none⟩) (Kd.R_types HO_4.out BK344.out (by decide)) (fun _ hk => hk.2) (.int .i64 t331)) (fun _ hk => hk.2) (.int .i64 t332)) (fun _ hk => hk.2) (.int .i64 t333)) (fun _ hk => hk.2) (.int .i64 t334)) (fun _ hk => hk.2) (.int .i64 t335)) (fun _ hk => hk.2) (.slice Ao113 t336.length co113)) (fun _ hk => hk.2) (.slice Ao114 t339.length co114)) (fun _ hk => hk.2) (.int .i64 t342)) (fun _ hk => trivial)⟩, ⟨by (with_reducible repeat (first | apply Kd.R_alloc | apply Kd.R_drewN | apply Kd.R_drew)); exact Kd.R_mono (Kd.R_far (p := ⟨gb344, 7, none⟩) (Kd.R_far (p := ⟨gb344, 6, none⟩) (Kd.R_far (p := ⟨gb344, 5, none⟩) (Kd.R_far (p := ⟨gb344, 4, none⟩) (Kd.R_far (p := ⟨gb344, 3, none⟩) (Kd.R_far (p := ⟨gb344, 2, none⟩) (Kd.R_far (p := ⟨gb344, 1, none⟩) (Kd.R_far (p := ⟨gb344, 0, none⟩) (Kd.R_types HO_5.out BK344.out (by decide)) (fun _ hk => hk.2) (.int .i64 t331)) (fun _ hk => hk.2) (.int .i64 t332)) (fun _ hk => hk.2) (.int .i64 t333)) (fun _ hk => hk.2) (.int .i64 t334)) (fun _ hk => hk.2) (.int .i64 t335)) (fun _ hk => hk.2) (.slice Ao113 t336.length co113)) (fun _ hk => hk.2) (.slice Ao114 t339.length co114)) (fun _ hk => hk.2) (.int .i64 t342)) (fun _ hk => trivial)⟩, ⟨by (with_reducible repeat (first | apply Kd.R_alloc | apply Kd.R_drewN | apply Kd.R_drew)); exact Kd.R_mono (Kd.R_far (p := ⟨gb344, 7, none⟩) (Kd.R_far (p := ⟨gb344, 6, none⟩) (Kd.R_far (p := ⟨gb344, 5, none⟩) (Kd.R_far (p := ⟨gb344, 4, none⟩) (Kd.R_far (p := ⟨gb344, 3, none⟩) (Kd.R_far (p := ⟨gb344, 2, none⟩) (Kd.R_far (p := ⟨gb344, 1, none⟩) (Kd.R_far (p := ⟨gb344, 0, none⟩) (Kd.R_types HO_102.out BK344.out (by decide)) (fun _ hk => hk.2) (.int .i64 t331)) (fun _ hk => hk.2) (.int .i64 t332)) (fun _ hk => hk.2) (.int .i64 t333)) (fun _ hk => hk.2) (.int .i64 t334)) (fun _ hk => hk.2) (.int .i64 t335)) (fun _ hk => hk.2) (.slice Ao113 t336.length co113)) (fun _ hk => hk.2) (.slice Ao114 t339.length co114)) (fun _ hk => hk.2) (.int .i64 t342)) (fun _ hk => trivial)⟩, ⟨by (with_reducible repeat (first | refine blk_drewN ?_ _ | refine blk_drew ?_ | refine blk_alloc ?_ _)); refine blk_far ?_ NB308_344.out _; (with_reducible repeat (first | refine blk_drewN ?_ _ | refine blk_drew ?_ | refine blk_alloc ?_ _)); refine blk_far ?_ NB308_344.out _; (with_reducible repeat (first | refine blk_drewN ?_ _ | refine blk_drew ?_ | refine blk_alloc ?_ _)); refine blk_far ?_ NB308_344.out _; (with_reducible repeat (first | refine blk_drewN ?_ _ | refine blk_drew ?_ | refine blk_alloc ?_ _)); refine blk_far ?_ NB308_344.out _; (with_reducible repeat (first | refine blk_drewN ?_ _ | refine blk_drew ?_ | refine blk_alloc ?_ _)); refine blk_far ?_ NB308_344.out _; (with_reducible repeat (first | refine blk_drewN ?_ _ | refine blk_drew ?_ | refine blk_alloc ?_ _)); refine blk_far ?_ NB308_344.out _; (with_reducible repeat (first | refine blk_drewN ?_ _ | refine blk_drew ?_ | refine blk_alloc ?_ _)); refine blk_far ?_ NB308_344.out _; (with_reducible repeat (first | refine blk_drewN ?_ _ | refine blk_drew ?_ | refine blk_alloc ?_ _)); refine blk_far ?_ NB308_344.out _; (with_reducible repeat (first | refine blk_drewN ?_ _ | refine blk_drew ?_ | refine blk_alloc ?_ _)); exact BK308.out⟩, ⟨by repeat (first | (with_reducible first | exact HB.out | apply below_alloc | apply pw_below_drewN | apply below_drew1 | refine below_set ?_ GE308.out | refine below_set ?_ GE330.out | refine below_set ?_ GE344.out) | exact HB.out)⟩⟩
                                        · replace c103 := Bool.eq_false_iff.mpr c103
                                          subst c103
                                          have c103g : (rdOf false x5_22 x104_5) = false := Nbq102.out.symm
                                          have c103h : (t343 == 401) = false := by have h := c89b0; rw [c103g] at h; simpa using h
                                          have H1 : (if t343 = 0 then (sextonlaw09_ItabStale.l1 k5 x3_22 x4_22 x5_22 l0 (l0.length : Int) x34_2 x4_22 (x4_22.length : Int) (wrap64 (x104_5 + 1))) else (some false)) = some true := by rw [if_neg (show ¬ (false = true) by decide)] at H; exact H
                                          clear H
                                          have H := H1
                                          clear H1
                                          by_cases c116 : t343 = 0
                                          · rw [if_pos c116] at H
                                            have c116b0 : (t343 == 0) = true := beq_iff_eq.mpr c116
                                            have c116b1 : (t343 != 0) = false := bne_eq_false_iff_eq.mpr c116
                                            clear c116
                                            have H' := Aside0.mk H
                                            clear H
                                            have p329 : 0 ≤ (x104_5 : Int) := of_decide_eq_true (by first | (with_reducible assumption) | assumption)
                                            have q329 : x104_5 < (x4_22.length : Int) := of_decide_eq_true (by first | (with_reducible assumption) | assumption)
                                            obtain ⟨ad329, e329, hx329_0, hx329_1⟩ := at_T24 (Kd.R_reads' HO_102.out).2.2 x104_5 p329 q329
                                            cases e329
                                            replace p329 := eq_true p329
                                            replace q329 := eq_true q329
                                            go_wp2_with (first | ((with_reducible refine gate_dst (N := 14) rfl ?_); (try (refine gate_guard (by rfl) ?_; dsimp only)); refine box_event ?hg (N := 14) ?hd (cs := #[.int .i64 0, .int .i64 0]) (t := 24) ?hr ?_; (case hd => rfl); (case hg => rfl); (case hr => first | (go_simp; done) | (go_simp; rfl)); intro gb330 hg w117 hbox hb; have n0_ := Aside0.mk (Kd.S_below (by (with_reducible repeat (first | apply Kd.S_alloc | apply Kd.S_drewN | apply Kd.S_drew)); exact HO_3.out) hb); have n1_ := Aside0.mk (Kd.R_below (Kd.R_elderB (by (with_reducible repeat (first | apply Kd.R_alloc | apply Kd.R_drewN | apply Kd.R_drew)); exact HO_4.out) gb330 (Nat.le_of_eq hg.symm)) hb); have n2_ := Aside0.mk (Kd.R_below (by (with_reducible repeat (first | apply Kd.R_alloc | apply Kd.R_drewN | apply Kd.R_drew)); exact HO_5.out) hb); have n3_ := Aside0.mk (Kd.R_below (Kd.R_elderB (by (with_reducible repeat (first | apply Kd.R_alloc | apply Kd.R_drewN | apply Kd.R_drew)); exact HO_102.out) gb330 (Nat.le_of_eq hg.symm)) hb); have n4_ := Aside0.mk (blk_below (g := gb308) (o := .cells #[.int .i64 ((rd_T49 l0 x34_2).f0), .int .i64 ((rd_T49 l0 x34_2).f1)] 49 (0, 0)) (by (with_reducible repeat (first | refine blk_drewN ?_ _ | refine blk_drew ?_ | refine blk_alloc ?_ _)); exact BK308.out) hb); have n5_ := Aside0.mk (below_step (by repeat (first | (with_reducible first | exact HB.out | apply below_alloc | apply pw_below_drewN | apply below_drew1 | refine below_set ?_ GE308.out) | exact HB.out)) hb); have n6_ := Aside0.mk (hbox); have n7_ := Aside0.mk ((by rw [hg]; exact (below_size (by repeat (first | (with_reducible first | exact HB.out | apply below_alloc | apply pw_below_drewN | apply below_drew1 | refine below_set ?_ GE308.out) | exact HB.out))) : w.heap.size ≤ gb330)); have n8_ := Aside0.mk ((by rw [hg]; exact (below_size (by repeat (first | (with_reducible first | exact HB.out | apply below_alloc | apply pw_below_drewN | apply below_drew1 | refine below_set ?_ GE308.out) | exact HB.out))) : w.heap.size ≤ gb330)); have n9_ := Aside0.mk ((by rw [hg]; exact Nat.ne_of_lt (blk_lt (g := gb308) (o := .cells #[.int .i64 ((rd_T49 l0 x34_2).f0), .int .i64 ((rd_T49 l0 x34_2).f1)] 49 (0, 0)) (by (with_reducible repeat (first | refine blk_drewN ?_ _ | refine blk_drew ?_ | refine blk_alloc ?_ _)); exact BK308.out)) : gb308 ≠ gb330)); have n10_ := Aside0.mk ((by rw [hg]; exact Nat.ne_of_gt (blk_lt (g := gb308) (o := .cells #[.int .i64 ((rd_T49 l0 x34_2).f0), .int .i64 ((rd_T49 l0 x34_2).f1)] 49 (0, 0)) (by (with_reducible repeat (first | refine blk_drewN ?_ _ | refine blk_drew ?_ | refine blk_alloc ?_ _)); exact BK308.out)) : gb330 ≠ gb308)); clear HO_3; clear HO_4; clear HO_5; clear HO_102; clear BK308; clear HB; have HO_3 := n0_; have HO_4 := n1_; have HO_5 := n2_; have HO_102 := n3_; have BK308 := n4_; have HB := n5_; have BK330 := n6_; have GW330 := n7_; have GE330 := n8_; have NB308_330 := n9_; have NB330_308 := n10_; clear n0_ n1_ n2_ n3_ n4_ n5_ n6_ n7_ n8_ n9_ n10_; clear hb hbox hg; have hnb118 := NB330_308.out; have hnc118 := NB308_330.out; have hcz119_0 : w117.cell? ⟨gb330, 0, none⟩ = some (.int .i64 0) := (blk_cell BK330.out 0).trans rfl; have hcz119_1 : w117.cell? ⟨gb330, 1, none⟩ = some (.int .i64 0) := (blk_cell BK330.out 1).trans rfl; have hfz119_0 := blk_frozen BK330.out 0; have hfz119_1 := blk_frozen BK330.out 1; obtain ⟨Ao120, co120, eo120⟩ := Kd.S_slice HO_3.out; subst eo120) | ((with_reducible refine gate_callee (f := 10) rfl ?_); refine goesL_ (some 112) rfl rfl Try.func10 (by kernel_rfl) rfl #[.slice Ao120 x3_22.length co120, .agg #[.int .i64 ((rd_T24 x4_22 x104_5).f0), .int .i64 ((rd_T24 x4_22 x104_5).f1)]] rfl (by (try simp only [List.map_toArray, List.map_cons, List.map_nil]); first | done | rfl | (simp only [List.length_drop, List.length_take]; rfl)) ?_; (with_reducible refine (itab_Find.calls k5 _ _ x3_22 ((rd_T24 x4_22 x104_5).f0) ((rd_T24 x4_22 x104_5).f1) t331 t332 t333 t334 t335 t336 t339 t342 t343 _ ?side1 ?side2 A87.out).mono ?_); (case side1 => refine (Kd.S_reads' (e := 30) (base := w.heap.size) (ok := fun k_ => True) (n := x3_22.length) (c := co120) ?_).2.2; exact (by (with_reducible repeat (first | apply Kd.S_alloc | apply Kd.S_drewN | apply Kd.S_drew)); exact (Kd.S_mono (Kd.S_far (p := ⟨gb330, 1, none⟩) (Kd.S_far (p := ⟨gb330, 0, none⟩) (Kd.S_types HO_3.out BK330.out (by decide)) (fun _ hk => hk.2) (.int .i64 ((rd_T24 x4_22 x104_5).f0))) (fun _ hk => hk.2) (.int .i64 ((rd_T24 x4_22 x104_5).f1))) (fun _ h_ => h_.1)))); (case side2 => exact (Kd.S_reads' HO_3.out).2.1); rintro e w121 ⟨v337, v340, rfl, ho0, ho1, hb⟩; refine ⟨_, rfl, ?_⟩; have n0_ := Aside0.mk (Kd.S_mono (Kd.S_told (Kd.S_told (Kd.S_old (by (with_reducible repeat (first | apply Kd.S_alloc | apply Kd.S_drewN | apply Kd.S_drew)); exact (Kd.S_mono (Kd.S_far (p := ⟨gb330, 1, none⟩) (Kd.S_far (p := ⟨gb330, 0, none⟩) (Kd.S_types HO_3.out BK330.out (by decide)) (fun _ hk => hk.2) (.int .i64 ((rd_T24 x4_22 x104_5).f0))) (fun _ hk => hk.2) (.int .i64 ((rd_T24 x4_22 x104_5).f1))) (fun _ h_ => h_.1))) hb) (Kd.R_base ho0)) (Kd.R_base ho1)) (fun _ h_ => h_.1)); have n1_ := Aside0.mk (Kd.R_below (by (with_reducible repeat (first | apply Kd.R_alloc | apply Kd.R_drewN | apply Kd.R_drew)); exact (Kd.R_mono (Kd.R_far (p := ⟨gb330, 1, none⟩) (Kd.R_far (p := ⟨gb330, 0, none⟩) (Kd.R_mono HO_4.out (fun k_ hk => (⟨hk, hk.2⟩ : _ ∧ k_ ≠ gb330))) (fun _ hk => hk.2) (.int .i64 ((rd_T24 x4_22 x104_5).f0))) (fun _ hk => hk.2) (.int .i64 ((rd_T24 x4_22 x104_5).f1))) (fun _ h_ => h_.1))) hb); have n2_ := Aside0.mk (Kd.R_below (by (with_reducible repeat (first | apply Kd.R_alloc | apply Kd.R_drewN | apply Kd.R_drew)); exact (Kd.R_mono (Kd.R_far (p := ⟨gb330, 1, none⟩) (Kd.R_far (p := ⟨gb330, 0, none⟩) (Kd.R_types HO_5.out BK330.out (by decide)) (fun _ hk => hk.2) (.int .i64 ((rd_T24 x4_22 x104_5).f0))) (fun _ hk => hk.2) (.int .i64 ((rd_T24 x4_22 x104_5).f1))) (fun _ h_ => h_.1))) hb); have n3_ := Aside0.mk (Kd.R_below (by (with_reducible repeat (first | apply Kd.R_alloc | apply Kd.R_drewN | apply Kd.R_drew)); exact (Kd.R_mono (Kd.R_far (p := ⟨gb330, 1, none⟩) (Kd.R_far (p := ⟨gb330, 0, none⟩) (Kd.R_mono HO_102.out (fun k_ hk => (⟨hk, hk.2⟩ : _ ∧ k_ ≠ gb330))) (fun _ hk => hk.2) (.int .i64 ((rd_T24 x4_22 x104_5).f0))) (fun _ hk => hk.2) (.int .i64 ((rd_T24 x4_22 x104_5).f1))) (fun _ h_ => h_.1))) hb); have n4_ := Aside0.mk (Kd.R_lower ho0 (below_size (by repeat (first | (with_reducible first | exact HB.out | apply below_alloc | apply pw_below_drewN | apply below_drew1 | refine below_set ?_ GE308.out | refine below_set ?_ GE330.out) | exact HB.out)))); have n5_ := Aside0.mk (Kd.R_lower ho1 (below_size (by repeat (first | (with_reducible first | exact HB.out | apply below_alloc | apply pw_below_drewN | apply below_drew1 | refine below_set ?_ GE308.out | refine below_set ?_ GE330.out) | exact HB.out)))); have n6_ := Aside0.mk (blk_below (g := gb308) (o := .cells #[.int .i64 ((rd_T49 l0 x34_2).f0), .int .i64 ((rd_T49 l0 x34_2).f1)] 49 (0, 0)) (by (with_reducible repeat (first | refine blk_drewN ?_ _ | refine blk_drew ?_ | refine blk_alloc ?_ _)); refine blk_far ?_ NB308_330.out _; (with_reducible repeat (first | refine blk_drewN ?_ _ | refine blk_drew ?_ | refine blk_alloc ?_ _)); refine blk_far ?_ NB308_330.out _; (with_reducible repeat (first | refine blk_drewN ?_ _ | refine blk_drew ?_ | refine blk_alloc ?_ _)); exact BK308.out) hb); have n7_ := Aside0.mk (blk_below (g := gb330) (o := .cells #[.int .i64 ((rd_T24 x4_22 x104_5).f0), .int .i64 ((rd_T24 x4_22 x104_5).f1)] 24 (0, 0)) (by (with_reducible repeat (first | refine blk_drewN ?_ _ | refine blk_drew ?_ | refine blk_alloc ?_ _)); refine blk_put (cs := #[.int .i64 ((rd_T24 x4_22 x104_5).f0), .int .i64 0]) ?_ 1 _ rfl; (with_reducible repeat (first | refine blk_drewN ?_ _ | refine blk_drew ?_ | refine blk_alloc ?_ _)); refine blk_put (cs := #[.int .i64 0, .int .i64 0]) ?_ 0 _ rfl; (with_reducible repeat (first | refine blk_drewN ?_ _ | refine blk_drew ?_ | refine blk_alloc ?_ _)); exact BK330.out) hb); have n8_ := Aside0.mk (below_step (by repeat (first | (with_reducible first | exact HB.out | apply below_alloc | apply pw_below_drewN | apply below_drew1 | refine below_set ?_ GE308.out | refine below_set ?_ GE330.out) | exact HB.out)) hb); clear HO_3; clear HO_4; clear HO_5; clear HO_102; clear BK308; clear BK330; clear HB; have HO_3 := n0_; have HO_4 := n1_; have HO_5 := n2_; have HO_102 := n3_; have HO338 := n4_; have HO341 := n5_; have BK308 := n6_; have BK330 := n7_; have HB := n8_; clear n0_ n1_ n2_ n3_ n4_ n5_ n6_ n7_ n8_; (try clear hb); (try clear hb2); (try clear hk); (try clear hi); (try clear ho0); (try clear ho1)) | ((with_reducible refine gate_dst (N := 15) rfl ?_); (try (refine gate_guard (by rfl) ?_; dsimp only)); refine box_event ?hg (N := 15) ?hd (cs := #[.int .i64 0, .int .i64 0, .int .i64 0, .int .i64 0, .int .i64 0, .slice none 0 0, .slice none 0 0, .int .i64 0]) (t := 30) ?hr ?_; (case hd => rfl); (case hg => rfl); (case hr => first | (go_simp; done) | (go_simp; rfl)); intro gb344 hg w122 hbox hb; have n0_ := Aside0.mk (Kd.S_below (Kd.S_elderB (by (with_reducible repeat (first | apply Kd.S_alloc | apply Kd.S_drewN | apply Kd.S_drew)); exact HO_3.out) gb344 (Nat.le_of_eq hg.symm)) hb); have n1_ := Aside0.mk (Kd.R_below (by (with_reducible repeat (first | apply Kd.R_alloc | apply Kd.R_drewN | apply Kd.R_drew)); exact HO_4.out) hb); have n2_ := Aside0.mk (Kd.R_below (by (with_reducible repeat (first | apply Kd.R_alloc | apply Kd.R_drewN | apply Kd.R_drew)); exact HO_5.out) hb); have n3_ := Aside0.mk (Kd.R_below (by (with_reducible repeat (first | apply Kd.R_alloc | apply Kd.R_drewN | apply Kd.R_drew)); exact HO_102.out) hb); have n4_ := Aside0.mk (Kd.R_below (by (with_reducible repeat (first | apply Kd.R_alloc | apply Kd.R_drewN | apply Kd.R_drew)); exact HO338.out) hb); have n5_ := Aside0.mk (Kd.R_below (by (with_reducible repeat (first | apply Kd.R_alloc | apply Kd.R_drewN | apply Kd.R_drew)); exact HO341.out) hb); have n6_ := Aside0.mk (blk_below (g := gb308) (o := .cells #[.int .i64 ((rd_T49 l0 x34_2).f0), .int .i64 ((rd_T49 l0 x34_2).f1)] 49 (0, 0)) (by (with_reducible repeat (first | refine blk_drewN ?_ _ | refine blk_drew ?_ | refine blk_alloc ?_ _)); exact BK308.out) hb); have n7_ := Aside0.mk (blk_below (g := gb330) (o := .cells #[.int .i64 ((rd_T24 x4_22 x104_5).f0), .int .i64 ((rd_T24 x4_22 x104_5).f1)] 24 (0, 0)) (by (with_reducible repeat (first | refine blk_drewN ?_ _ | refine blk_drew ?_ | refine blk_alloc ?_ _)); exact BK330.out) hb); have n8_ := Aside0.mk (below_step (by repeat (first | (with_reducible first | exact HB.out | apply below_alloc | apply pw_below_drewN | apply below_drew1 | refine below_set ?_ GE308.out | refine below_set ?_ GE330.out) | exact HB.out)) hb); have n9_ := Aside0.mk (hbox); have n10_ := Aside0.mk ((by rw [hg]; exact (below_size (by repeat (first | (with_reducible first | exact HB.out | apply below_alloc | apply pw_below_drewN | apply below_drew1 | refine below_set ?_ GE308.out | refine below_set ?_ GE330.out) | exact HB.out))) : w.heap.size ≤ gb344)); have n11_ := Aside0.mk ((by rw [hg]; exact (below_size (by repeat (first | (with_reducible first | exact HB.out | apply below_alloc | apply pw_below_drewN | apply below_drew1 | refine below_set ?_ GE308.out | refine below_set ?_ GE330.out) | exact HB.out))) : w.heap.size ≤ gb344)); have n12_ := Aside0.mk ((by rw [hg]; exact Nat.ne_of_lt (blk_lt (g := gb308) (o := .cells #[.int .i64 ((rd_T49 l0 x34_2).f0), .int .i64 ((rd_T49 l0 x34_2).f1)] 49 (0, 0)) (by (with_reducible repeat (first | refine blk_drewN ?_ _ | refine blk_drew ?_ | refine blk_alloc ?_ _)); exact BK308.out)) : gb308 ≠ gb344)); have n13_ := Aside0.mk ((by rw [hg]; exact Nat.ne_of_gt (blk_lt (g := gb308) (o := .cells #[.int .i64 ((rd_T49 l0 x34_2).f0), .int .i64 ((rd_T49 l0 x34_2).f1)] 49 (0, 0)) (by (with_reducible repeat (first | refine blk_drewN ?_ _ | refine blk_drew ?_ | refine blk_alloc ?_ _)); exact BK308.out)) : gb344 ≠ gb308)); have n14_ := Aside0.mk ((by rw [hg]; exact Nat.ne_of_lt (blk_lt (g := gb330) (o := .cells #[.int .i64 ((rd_T24 x4_22 x104_5).f0), .int .i64 ((rd_T24 x4_22 x104_5).f1)] 24 (0, 0)) (by (with_reducible repeat (first | refine blk_drewN ?_ _ | refine blk_drew ?_ | refine blk_alloc ?_ _)); exact BK330.out)) : gb330 ≠ gb344)); have n15_ := Aside0.mk ((by rw [hg]; exact Nat.ne_of_gt (blk_lt (g := gb330) (o := .cells #[.int .i64 ((rd_T24 x4_22 x104_5).f0), .int .i64 ((rd_T24 x4_22 x104_5).f1)] 24 (0, 0)) (by (with_reducible repeat (first | refine blk_drewN ?_ _ | refine blk_drew ?_ | refine blk_alloc ?_ _)); exact BK330.out)) : gb344 ≠ gb330)); clear HO_3; clear HO_4; clear HO_5; clear HO_102; clear HO338; clear HO341; clear BK308; clear BK330; clear HB; have HO_3 := n0_; have HO_4 := n1_; have HO_5 := n2_; have HO_102 := n3_; have HO338 := n4_; have HO341 := n5_; have BK308 := n6_; have BK330 := n7_; have HB := n8_; have BK344 := n9_; have GW344 := n10_; have GE344 := n11_; have NB308_344 := n12_; have NB344_308 := n13_; have NB330_344 := n14_; have NB344_330 := n15_; clear n0_ n1_ n2_ n3_ n4_ n5_ n6_ n7_ n8_ n9_ n10_ n11_ n12_ n13_ n14_ n15_; clear hb hbox hg; have hnb123 := NB344_308.out; have hnc123 := NB308_344.out; have hnb124 := NB344_330.out; have hnc124 := NB330_344.out; have hcz125_0 : w122.cell? ⟨gb344, 0, none⟩ = some (.int .i64 0) := (blk_cell BK344.out 0).trans rfl; have hcz125_1 : w122.cell? ⟨gb344, 1, none⟩ = some (.int .i64 0) := (blk_cell BK344.out 1).trans rfl; have hcz125_2 : w122.cell? ⟨gb344, 2, none⟩ = some (.int .i64 0) := (blk_cell BK344.out 2).trans rfl; have hcz125_3 : w122.cell? ⟨gb344, 3, none⟩ = some (.int .i64 0) := (blk_cell BK344.out 3).trans rfl; have hcz125_4 : w122.cell? ⟨gb344, 4, none⟩ = some (.int .i64 0) := (blk_cell BK344.out 4).trans rfl; have hcz125_5 : w122.cell? ⟨gb344, 5, none⟩ = some (.slice none 0 0) := (blk_cell BK344.out 5).trans rfl; have hcz125_6 : w122.cell? ⟨gb344, 6, none⟩ = some (.slice none 0 0) := (blk_cell BK344.out 6).trans rfl; have hcz125_7 : w122.cell? ⟨gb344, 7, none⟩ = some (.int .i64 0) := (blk_cell BK344.out 7).trans rfl; have hfz125_0 := blk_frozen BK344.out 0; have hfz125_1 := blk_frozen BK344.out 1; have hfz125_2 := blk_frozen BK344.out 2; have hfz125_3 := blk_frozen BK344.out 3; have hfz125_4 := blk_frozen BK344.out 4; have hfz125_5 := blk_frozen BK344.out 5; have hfz125_6 := blk_frozen BK344.out 6; have hfz125_7 := blk_frozen BK344.out 7; obtain ⟨Ao126, co126, eo126⟩ := Kd.R_slice HO338.out; subst eo126; obtain ⟨Ao127, co127, eo127⟩ := Kd.R_slice HO341.out; subst eo127; obtain ⟨Ao128, co128, eo128⟩ := Kd.R_slice HO_5.out; subst eo128; have p345 : 0 ≤ (x104_5 : Int) := of_decide_eq_true (by first | (with_reducible assumption) | assumption); have q345 : x104_5 < (x5_22.length : Int) := of_decide_eq_true (by first | (with_reducible assumption) | assumption); obtain ⟨ad345, e345, hx345_0⟩ := Kd.at_bool (Kd.R_reads' HO_5.out).2.2 x104_5 p345 q345; (try rw [← Nbq102.out] at hx345_0); cases e345; have hn345_0 : ad345.block ≠ gb344 := Kd.own_blk (Kd.R_ne HO_5.out BK344.out (by decide)); have hn345_1 : ad345.block ≠ gb344 := Kd.own_blk (Kd.R_ne HO_5.out BK344.out (by decide)); have hn345_2 : ad345.block ≠ gb344 := Kd.own_blk (Kd.R_ne HO_5.out BK344.out (by decide)); have hn345_3 : ad345.block ≠ gb344 := Kd.own_blk (Kd.R_ne HO_5.out BK344.out (by decide)); have hn345_4 : ad345.block ≠ gb344 := Kd.own_blk (Kd.R_ne HO_5.out BK344.out (by decide)); have hn345_5 : ad345.block ≠ gb344 := Kd.own_blk (Kd.R_ne HO_5.out BK344.out (by decide)); have hn345_6 : ad345.block ≠ gb344 := Kd.own_blk (Kd.R_ne HO_5.out BK344.out (by decide)); have hn345_7 : ad345.block ≠ gb344 := Kd.own_blk (Kd.R_ne HO_5.out BK344.out (by decide)); replace hx345_0 := (cell_far (p := ⟨gb344, 0, none⟩) (by first | (rw [add_block]; exact hn345_0) | (show (Addr.add _ _).block ≠ _; rw [add_block]; exact hn345_0) | exact hn345_0) (.int .i64 t331)).trans hx345_0; replace hx345_0 := (cell_far (p := ⟨gb344, 1, none⟩) (by first | (rw [add_block]; exact hn345_1) | (show (Addr.add _ _).block ≠ _; rw [add_block]; exact hn345_1) | exact hn345_1) (.int .i64 t332)).trans hx345_0; replace hx345_0 := (cell_far (p := ⟨gb344, 2, none⟩) (by first | (rw [add_block]; exact hn345_2) | (show (Addr.add _ _).block ≠ _; rw [add_block]; exact hn345_2) | exact hn345_2) (.int .i64 t333)).trans hx345_0; replace hx345_0 := (cell_far (p := ⟨gb344, 3, none⟩) (by first | (rw [add_block]; exact hn345_3) | (show (Addr.add _ _).block ≠ _; rw [add_block]; exact hn345_3) | exact hn345_3) (.int .i64 t334)).trans hx345_0; replace hx345_0 := (cell_far (p := ⟨gb344, 4, none⟩) (by first | (rw [add_block]; exact hn345_4) | (show (Addr.add _ _).block ≠ _; rw [add_block]; exact hn345_4) | exact hn345_4) (.int .i64 t335)).trans hx345_0; replace hx345_0 := (cell_far (p := ⟨gb344, 5, none⟩) (by first | (rw [add_block]; exact hn345_5) | (show (Addr.add _ _).block ≠ _; rw [add_block]; exact hn345_5) | exact hn345_5) (.slice Ao126 t336.length co126)).trans hx345_0; replace hx345_0 := (cell_far (p := ⟨gb344, 6, none⟩) (by first | (rw [add_block]; exact hn345_6) | (show (Addr.add _ _).block ≠ _; rw [add_block]; exact hn345_6) | exact hn345_6) (.slice Ao127 t339.length co127)).trans hx345_0; replace hx345_0 := (cell_far (p := ⟨gb344, 7, none⟩) (by first | (rw [add_block]; exact hn345_7) | (show (Addr.add _ _).block ≠ _; rw [add_block]; exact hn345_7) | exact hn345_7) (.int .i64 t342)).trans hx345_0; clear hn345_0; clear hn345_1; clear hn345_2; clear hn345_3; clear hn345_4; clear hn345_5; clear hn345_6; clear hn345_7; replace p345 := eq_true p345; replace q345 := eq_true q345; have p346 : 0 ≤ (x104_5 : Int) := of_decide_eq_true (by first | (with_reducible assumption) | assumption); have q346 : x104_5 < (x5_22.length : Int) := of_decide_eq_true (by first | (with_reducible assumption) | assumption); obtain ⟨ad346, e346, hx346_0⟩ := Kd.at_bool (Kd.R_reads' HO_5.out).2.2 x104_5 p346 q346; (try rw [← Nbq102.out] at hx346_0); obtain rfl : ad345 = ad346 := (by injection e346); have hn346_0 : ad345.block ≠ gb344 := Kd.own_blk (Kd.R_ne HO_5.out BK344.out (by decide)); have hn346_1 : ad345.block ≠ gb344 := Kd.own_blk (Kd.R_ne HO_5.out BK344.out (by decide)); have hn346_2 : ad345.block ≠ gb344 := Kd.own_blk (Kd.R_ne HO_5.out BK344.out (by decide)); have hn346_3 : ad345.block ≠ gb344 := Kd.own_blk (Kd.R_ne HO_5.out BK344.out (by decide)); have hn346_4 : ad345.block ≠ gb344 := Kd.own_blk (Kd.R_ne HO_5.out BK344.out (by decide)); have hn346_5 : ad345.block ≠ gb344 := Kd.own_blk (Kd.R_ne HO_5.out BK344.out (by decide)); have hn346_6 : ad345.block ≠ gb344 := Kd.own_blk (Kd.R_ne HO_5.out BK344.out (by decide)); have hn346_7 : ad345.block ≠ gb344 := Kd.own_blk (Kd.R_ne HO_5.out BK344.out (by decide)); replace hx346_0 := (cell_far (p := ⟨gb344, 0, none⟩) (by first | (rw [add_block]; exact hn346_0) | (show (Addr.add _ _).block ≠ _; rw [add_block]; exact hn346_0) | exact hn346_0) (.int .i64 t331)).trans hx346_0; replace hx346_0 := (cell_far (p := ⟨gb344, 1, none⟩) (by first | (rw [add_block]; exact hn346_1) | (show (Addr.add _ _).block ≠ _; rw [add_block]; exact hn346_1) | exact hn346_1) (.int .i64 t332)).trans hx346_0; replace hx346_0 := (cell_far (p := ⟨gb344, 2, none⟩) (by first | (rw [add_block]; exact hn346_2) | (show (Addr.add _ _).block ≠ _; rw [add_block]; exact hn346_2) | exact hn346_2) (.int .i64 t333)).trans hx346_0; replace hx346_0 := (cell_far (p := ⟨gb344, 3, none⟩) (by first | (rw [add_block]; exact hn346_3) | (show (Addr.add _ _).block ≠ _; rw [add_block]; exact hn346_3) | exact hn346_3) (.int .i64 t334)).trans hx346_0; replace hx346_0 := (cell_far (p := ⟨gb344, 4, none⟩) (by first | (rw [add_block]; exact hn346_4) | (show (Addr.add _ _).block ≠ _; rw [add_block]; exact hn346_4) | exact hn346_4) (.int .i64 t335)).trans hx346_0; replace hx346_0 := (cell_far (p := ⟨gb344, 5, none⟩) (by first | (rw [add_block]; exact hn346_5) | (show (Addr.add _ _).block ≠ _; rw [add_block]; exact hn346_5) | exact hn346_5) (.slice Ao126 t336.length co126)).trans hx346_0; replace hx346_0 := (cell_far (p := ⟨gb344, 6, none⟩) (by first | (rw [add_block]; exact hn346_6) | (show (Addr.add _ _).block ≠ _; rw [add_block]; exact hn346_6) | exact hn346_6) (.slice Ao127 t339.length co127)).trans hx346_0; replace hx346_0 := (cell_far (p := ⟨gb344, 7, none⟩) (by first | (rw [add_block]; exact hn346_7) | (show (Addr.add _ _).block ≠ _; rw [add_block]; exact hn346_7) | exact hn346_7) (.int .i64 t342)).trans hx346_0; clear hn346_0; clear hn346_1; clear hn346_2; clear hn346_3; clear hn346_4; clear hn346_5; clear hn346_6; clear hn346_7; replace p346 := eq_true p346; replace q346 := eq_true q346))
                                            go_roundg k5
                                            case measure => have := HJ2.out; have := HK2.out; have := HJ16.out; have := HJ22.out; have := HK5.out; omega
                                            case rel => exact ⟨(wrap64 (x104_5 + 1)), (by first | rfl | (simp; done) | (simp [*]; done)), H', ⟨by have := HJ2.out; have := HK2.out; have := HJ16.out; have := HJ22.out; have := HK5.out; omega⟩, ⟨by (with_reducible repeat (first | apply Kd.S_alloc | apply Kd.S_drewN | apply Kd.S_drew)); exact Kd.S_mono (Kd.S_far (p := ⟨gb344, 7, none⟩) (Kd.S_far (p := ⟨gb344, 6, none⟩) (Kd.S_far (p := ⟨gb344, 5, none⟩) (Kd.S_far (p := ⟨gb344, 4, none⟩) (Kd.S_far (p := ⟨gb344, 3, none⟩) (Kd.S_far (p := ⟨gb344, 2, none⟩) (Kd.S_far (p := ⟨gb344, 1, none⟩) (Kd.S_far (p := ⟨gb344, 0, none⟩) (Kd.S_mono HO_3.out (fun k_ hk => (⟨hk, hk.2⟩ : _ ∧ k_ ≠ gb344))) (fun _ hk => hk.2) (.int .i64 t331)) (fun _ hk => hk.2) (.int .i64 t332)) (fun _ hk => hk.2) (.int .i64 t333)) (fun _ hk => hk.2) (.int .i64 t334)) (fun _ hk => hk.2) (.int .i64 t335)) (fun _ hk => hk.2) (.slice Ao126 t336.length co126)) (fun _ hk => hk.2) (.slice Ao127 t339.length co127)) (fun _ hk => hk.2) (.int .i64 t342)) (fun _ hk => trivial)⟩, ⟨by (with_reducible repeat (first | apply Kd.R_alloc | apply Kd.R_drewN | apply Kd.R_drew)); exact Kd.R_mono (Kd.R_far (p := ⟨gb344, 7, none⟩) (Kd.R_far (p := ⟨gb344, 6, none⟩) (Kd.R_far (p := ⟨gb344, 5, none⟩) (Kd.R_far (p := ⟨gb344, 4, none⟩) (Kd.R_far (p := ⟨gb344, 3, none⟩) (Kd.R_far (p := ⟨gb344, 2, none⟩) (Kd.R_far (p := ⟨gb344, 1, none⟩) (Kd.R_far (p := ⟨gb344, 0, none⟩) (Kd.R_types HO_4.out BK344.out (by decide)) (fun _ hk => hk.2) (.int .i64 t331)) (fun _ hk => hk.2) (.int .i64 t332)) (fun _ hk => hk.2) (.int .i64 t333)) (fun _ hk => hk.2) (.int .i64 t334)) (fun _ hk => hk.2) (.int .i64 t335)) (fun _ hk => hk.2) (.slice Ao126 t336.length co126)) (fun _ hk => hk.2) (.slice Ao127 t339.length co127)) (fun _ hk => hk.2) (.int .i64 t342)) (fun _ hk => trivial)⟩, ⟨by (with_reducible repeat (first | apply Kd.R_alloc | apply Kd.R_drewN | apply Kd.R_drew)); exact Kd.R_mono (Kd.R_far (p := ⟨gb344, 7, none⟩) (Kd.R_far (p := ⟨gb344, 6, none⟩) (Kd.R_far (p := ⟨gb344, 5, none⟩) (Kd.R_far (p := ⟨gb344, 4, none⟩) (Kd.R_far (p := ⟨gb344, 3, none⟩) (Kd.R_far (p := ⟨gb344, 2, none⟩) (Kd.R_far (p := ⟨gb344, 1, none⟩) (Kd.R_far (p := ⟨gb344, 0, none⟩) (Kd.R_types HO_5.out BK344.out (by decide)) (fun _ hk => hk.2) (.int .i64 t331)) (fun _ hk => hk.2) (.int .i64 t332)) (fun _ hk => hk.2) (.int .i64 t333)) (fun _ hk => hk.2) (.int .i64 t334)) (fun _ hk => hk.2) (.int .i64 t335)) (fun _ hk => hk.2) (.slice Ao126 t336.length co126)) (fun _ hk => hk.2) (.slice Ao127 t339.length co127)) (fun _ hk => hk.2) (.int .i64 t342)) (fun _ hk => trivial)⟩, ⟨by (with_reducible repeat (first | apply Kd.R_alloc | apply Kd.R_drewN | apply Kd.R_drew)); exact Kd.R_mono (Kd.R_far (p := ⟨gb344, 7, none⟩) (Kd.R_far (p := ⟨gb344, 6, none⟩) (Kd.R_far (p := ⟨gb344, 5, none⟩) (Kd.R_far (p := ⟨gb344, 4, none⟩) (Kd.R_far (p := ⟨gb344, 3, none⟩) (Kd.R_far (p := ⟨gb344, 2, none⟩) (Kd.R_far (p := ⟨gb344, 1, none⟩) (Kd.R_far (p := ⟨gb344, 0, none⟩) (Kd.R_types HO_102.out BK344.out (by decide)) (fun _ hk => hk.2) (.int .i64 t331)) (fun _ hk => hk.2) (.int .i64 t332)) (fun _ hk => hk.2) (.int .i64 t333)) (fun _ hk => hk.2) (.int .i64 t334)) (fun _ hk => hk.2) (.int .i64 t335)) (fun _ hk => hk.2) (.slice Ao126 t336.length co126)) (fun _ hk => hk.2) (.slice Ao127 t339.length co127)) (fun _ hk => hk.2) (.int .i64 t342)) (fun _ hk => trivial)⟩, ⟨by (with_reducible repeat (first | refine blk_drewN ?_ _ | refine blk_drew ?_ | refine blk_alloc ?_ _)); refine blk_far ?_ NB308_344.out _; (with_reducible repeat (first | refine blk_drewN ?_ _ | refine blk_drew ?_ | refine blk_alloc ?_ _)); refine blk_far ?_ NB308_344.out _; (with_reducible repeat (first | refine blk_drewN ?_ _ | refine blk_drew ?_ | refine blk_alloc ?_ _)); refine blk_far ?_ NB308_344.out _; (with_reducible repeat (first | refine blk_drewN ?_ _ | refine blk_drew ?_ | refine blk_alloc ?_ _)); refine blk_far ?_ NB308_344.out _; (with_reducible repeat (first | refine blk_drewN ?_ _ | refine blk_drew ?_ | refine blk_alloc ?_ _)); refine blk_far ?_ NB308_344.out _; (with_reducible repeat (first | refine blk_drewN ?_ _ | refine blk_drew ?_ | refine blk_alloc ?_ _)); refine blk_far ?_ NB308_344.out _; (with_reducible repeat (first | refine blk_drewN ?_ _ | refine blk_drew ?_ | refine blk_alloc ?_ _)); refine blk_far ?_ NB308_344.out _; (with_reducible repeat (first | refine blk_drewN ?_ _ | refine blk_drew ?_ | refine blk_alloc ?_ _)); refine blk_far ?_ NB308_344.out _; (with_reducible repeat (first | refine blk_drewN ?_ _ | refine blk_drew ?_ | refine blk_alloc ?_ _)); exact BK308.out⟩, ⟨by repeat (first | (with_reducible first | exact HB.out | apply below_alloc | apply pw_below_drewN | apply below_drew1 | refine below_set ?_ GE308.out | refine below_set ?_ GE330.out | refine below_set ?_ GE344.out) | exact HB.out)⟩⟩
                                          · rw [if_neg c116] at H
                                            have c116b0 : (t343 == 0) = false := beq_eq_false_iff_ne.mpr c116
                                            have c116b1 : (t343 != 0) = true := bne_iff_ne.mpr c116
                                            cases H
                                    · rw [if_neg c88] at H
                                      exact absurd H (by simp)
                                  · rw [if_neg c86] at H
                                    exact absurd H (by simp)
                                · rw [if_neg c85] at H
                                  exact absurd H (by simp)
                              · rw [if_neg c84] at H
                                have c84b0 : decide (x104_5 < (x4_22.length : Int)) = false := decide_eq_false c84
                                clear c84
                                have H' := Aside0.mk H
                                clear H
                                go_wp2
                                go_roundg k5
                                case measure => have := HJ2.out; have := HK2.out; have := HJ16.out; have := HJ22.out; have := HK5.out; omega
                                case rel => exact ⟨(x3_22), (x4_22), (x5_22), (wrap64 (x34_2 + 1)), (by first | rfl | (simp; done) | (simp [*]; done)), H', ⟨by have := HJ2.out; have := HK2.out; have := HJ16.out; have := HJ22.out; have := HK5.out; omega⟩, ⟨by (with_reducible repeat (first | apply Kd.S_alloc | apply Kd.S_drewN | apply Kd.S_drew)); exact HO_3.out⟩, ⟨by (with_reducible repeat (first | apply Kd.R_alloc | apply Kd.R_drewN | apply Kd.R_drew)); exact HO_4.out⟩, ⟨by (with_reducible repeat (first | apply Kd.R_alloc | apply Kd.R_drewN | apply Kd.R_drew)); exact HO_5.out⟩, ⟨by repeat (first | (with_reducible first | exact HB.out | apply below_alloc | apply pw_below_drewN | apply below_drew1 | refine below_set ?_ GE308.out) | exact HB.out)⟩⟩
                · rw [if_neg c16] at H
                  exact absurd H (by simp)
              · rw [if_neg c15] at H
                exact absurd H (by simp)
            · rw [if_neg c14] at H
              have c14b0 : decide (x34_2 < (l0.length : Int)) = false := decide_eq_false c14
              clear c14
              replace H := Option.bind_eq_some_iff.mp H
              obtain ⟨t306, A1410, H⟩ := H
              replace H : (some t306) = some true := H
              have A141 := Aside0.mk A1410
              clear A1410
              obtain rfl := Option.some.inj H
              go_wp2_with (first | ((with_reducible refine gate_callee (f := 13) rfl ?_); refine goesL_ (some 135) rfl rfl Try.func13 (by kernel_rfl) rfl #[] rfl (by (try simp only [List.map_toArray, List.map_cons, List.map_nil]); first | done | rfl | (simp only [List.length_drop, List.length_take]; rfl)) ?_; (with_reducible refine (sextonlaw09_again.calls k2 _ A141.out).mono ?_); rintro e w142 ⟨rfl, hb⟩; refine ⟨_, rfl, ?_⟩; have n0_ := Aside0.mk (Kd.S_below (by (with_reducible repeat (first | apply Kd.S_alloc | apply Kd.S_drewN | apply Kd.S_drew)); exact HO_3.out) hb); have n1_ := Aside0.mk (Kd.R_below (by (with_reducible repeat (first | apply Kd.R_alloc | apply Kd.R_drewN | apply Kd.R_drew)); exact HO_4.out) hb); have n2_ := Aside0.mk (Kd.R_below (by (with_reducible repeat (first | apply Kd.R_alloc | apply Kd.R_drewN | apply Kd.R_drew)); exact HO_5.out) hb); have n3_ := Aside0.mk (below_step (by repeat (first | (with_reducible first | exact HB.out | apply below_alloc | apply pw_below_drewN | apply below_drew1) | exact HB.out)) hb); clear HO_3; clear HO_4; clear HO_5; clear HB; have HO_3 := n0_; have HO_4 := n1_; have HO_5 := n2_; have HB := n3_; clear n0_ n1_ n2_ n3_; (try clear hb); (try clear hb2); (try clear hk); (try clear hi)))
              go_ret
              exact ⟨by first | rfl | (simp [errW_none, errW_some] <;> rfl) | (simp [*, errW_none, errW_some] <;> rfl), by repeat (first | (with_reducible first | exact HB.out | apply below_alloc | apply pw_below_drewN | apply below_drew1) | exact HB.out)⟩

end Go.Proofs.Ytgepphlkibnhdaa.PItab
