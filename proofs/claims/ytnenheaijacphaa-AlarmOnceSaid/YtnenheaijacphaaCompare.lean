/- The comparison that Due hands to slices.SortFunc. -/
import Derived.Test.YtnenheaijacphaaMethods
import Derived.StillTailTactics
import Derived.Shelf.SlicesG.Cmp
import Derived.Sort.Grow
namespace Go.Proofs.Ytnenheaijacphaa.PAlarm
open Go Go.RowKit Go.Maps Go.Sort Go.Proofs.YtnenheaijacphaaW.PrintWords Go.Proofs.YtnenheaijacphaaW.PrintLast Go.Proofs.YtnenheaijacphaaW.PrintMore Go.Proofs.Ytnenheaijacphaa.Sl
set_option linter.unusedVariables false
set_option linter.unusedSimpArgs false

def cmpI (x y : Int) : Int := if x < y then -1 else if y < x then 1 else 0
theorem nan_calls (x : Int) (w : World) : Calls Try.prog 30 #[.int .i64 x] w fun e w' => e = .returned (.bool false) ∧ w' = w := by
  have d : (x != x) = false := by simp
  go_enter Try.func30, Try.ntmps30
  go_wp2
  go_ret
  exact ⟨by simp, rfl⟩
theorem compare_calls (x y : Int) (w : World) : Calls Try.prog 25 #[.int .i64 x, .int .i64 y] w fun e w' => e = .returned (.int .i64 (cmpI x y)) ∧ w' = w := by
  unfold cmpI
  by_cases h : x < y
  · simp only [if_pos h]
    go_enter Try.func25, Try.ntmps25
    go_wp2_with (go_at_call 30; refine (nan_calls _ _).mono ?_; rintro e w' ⟨rfl, rfl⟩)
    go_ret
    exact ⟨rfl, rfl⟩
  · simp only [if_neg h]
    by_cases k : y < x
    · simp only [if_pos k]
      go_enter Try.func25, Try.ntmps25
      go_wp2_with (go_at_call 30; refine (nan_calls _ _).mono ?_; rintro e w' ⟨rfl, rfl⟩)
      go_ret
      exact ⟨rfl, rfl⟩
    · simp only [if_neg k]
      go_enter Try.func25, Try.ntmps25
      go_wp2_with (go_at_call 30; refine (nan_calls _ _).mono ?_; rintro e w' ⟨rfl, rfl⟩)
      go_ret
      exact ⟨rfl, rfl⟩
def orI (a b : Int) : Int := if a = 0 then b else a
theorem or_calls (g : Nat) (a b : Int) (w : World) (h0 : w.cell? ⟨g, 0, none⟩ = some (.int .i64 a)) (h1 : w.cell? ⟨g, 1, none⟩ = some (.int .i64 b)) : Calls Try.prog 24 #[.slice (some ⟨g, 0, none⟩) 2 2] w fun e w' => e = .returned (.int .i64 (orI a b)) ∧ w' = w := by
  unfold orI
  by_cases ha : a = 0
  · subst ha
    by_cases hb : b = 0
    · subst hb
      go_enter Try.func24, Try.ntmps24
      go_wp2
      refine wp_loop_rounds 3 ?_
      rw [rounds_succ]
      go_wp2
      rw [rounds_succ]
      go_wp2
      rw [rounds_succ]
      go_wp2
      go_ret
      exact ⟨by simp, rfl⟩
    · have d : (b != 0) = true := by simpa using hb
      go_enter Try.func24, Try.ntmps24
      go_wp2
      refine wp_loop_rounds 3 ?_
      rw [rounds_succ]
      go_wp2
      rw [rounds_succ]
      go_wp2
      go_ret
      exact ⟨by simp, rfl⟩
  · have d : (a != 0) = true := by simpa using ha
    simp only [if_neg ha]
    go_enter Try.func24, Try.ntmps24
    go_wp2
    refine wp_loop_rounds 3 ?_
    rw [rounds_succ]
    go_wp2
    go_ret
    exact ⟨rfl, rfl⟩
def cf (L : List S53) (x y : Int) : Int := orI (cmpI ((at_ L x).getD 0) ((at_ L y).getD 0)) (cmpI x y)
set_option maxHeartbeats 2000000 in
theorem closure_calls (B p b gb : Nat) (L : List S53) (x y : Int) (w : World) (H : Cl w B p b L) (hg : w.cell? ⟨gb, 0, none⟩ = some (.pointer (some ⟨p, 0, none⟩))) (hx : (Lit.int .i64 x).wf = true) (hy : (Lit.int .i64 y).wf = true) :
    Calls Try.prog 23 #[.int .i64 x, .int .i64 y, .pointer (some ⟨gb, 0, none⟩)] w fun e w' => e = .returned (.int .i64 (cf L x y)) ∧ ∃ q os, w' = grow (w.drewN q) os := by
  have hW := (Cl.move (W := w.drew) H ((Kp.refl (fun _ => False) w).drew) (fun h => h) (fun h => h))
  have hgW : w.drew.cell? ⟨gb, 0, none⟩ = some (.pointer (some ⟨p, 0, none⟩)) := hg
  have c0 := hW.cell
  have lx := hW.2.2.2.look x hx
  have ly := hW.2.2.2.look y hy
  unfold cf
  clear H hg hW
  go_enter Try.func23, Try.ntmps23
  go_wp2_with fail
  refine wp_region_still_tail 16 (by kernel_rfl) (by kernel_rfl) ?_
  simp only [List.take_succ_cons, List.take_zero, List.drop_succ_cons, List.drop_zero]
  change wpStill _ _ w.drew (fun a' => wpList _ _ _ _ a' w.drew) _ _
  have HW := Aside0.mk (show ∀ o, ∃ q os, w.drew.alloc o = grow (w.drewN q) os from fun o => ⟨1, #[o], alloc_eq_grow _ _⟩)
  generalize w.drew = W at *
  repeat (first | still_step | still_call (compare_calls _ _ _))
  refine wpStill_nil ?_
  go_wp2_with (go_at_call 24; refine (or_calls W.heap.size (cmpI ((at_ L x).getD 0) ((at_ L y).getD 0)) (cmpI x y) _ ?c1 ?c2).mono ?_; (case c1 => go_simp); (case c2 => go_simp); rintro e w' ⟨rfl, rfl⟩)
  go_ret
  exact ⟨rfl, HW.out _⟩
end Go.Proofs.Ytnenheaijacphaa.PAlarm
