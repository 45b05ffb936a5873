import Derived.Lib.LazyBuf
import Derived.Test.YtmknehabmloebaaGiven2
import Derived.Test.YtmknehabmloebaaPBlobx3
namespace Go.Proofs.Ytmknehabmloebaa.PBlob
open Go.RowKit Go.Proofs.YtmknehabmloebaaW.PrintWords Go.Proofs.YtmknehabmloebaaW.PrintLast Go.Proofs.YtmknehabmloebaaW.PrintMore
set_option linter.unusedVariables false
set_option linter.unusedSimpArgs false
def slices_Clone.f (l0 : List S41) : Option (List S41) := if l0.length < 5864062014805 then some l0 else none
set_option maxHeartbeats 8000000 in
set_option maxRecDepth 100000 in
theorem slices_Clone.calls (A0 : Option Addr) (c0 : Nat) (l0 r : List S41) (w : World) (hr0 : Kd.C k41 w A0 l0.length l0) (hc0 : l0.length ≤ c0) (h : slices_Clone.f l0 = some r) :
    Calls Try.prog 26 #[.slice A0 l0.length c0] w fun e w' => ∃ v0_ : Value, e = .returned (v0_) ∧ Kd.R k41 41 w' w.heap.size (fun _ => True) v0_ r ∧ Below w.heap.size w w' := by
  have hu41 := Try.underlying41
  unfold slices_Clone.f at h
  split at h
  · rename_i hlim
    obtain rfl := Option.some.inj h
    have HR0 := Aside0.mk hr0
    have HC0 := Aside0.mk hc0
    have HL := Aside0.mk hlim
    clear hr0 hc0 hlim h
    have HB := Aside0.mk (Below.refl w.heap.size w)
    cases A0 with
    | none =>
      have hq : ∀ W : World, (binOp .eql 22 (.slice none l0.length c0) (.slice none 0 0)).run Try.prog W = .ok (.bool true) W := fun W => Go.run_eql_slice_nil W 22 41 none l0.length c0 Try.underlying22
      go_enter Try.func26, Try.ntmps26
      go_wp2_with fail
      go_ret
      have hl : l0 = [] := by
        have := HR0.out.2.2
        cases l0 with
        | nil => rfl
        | cons a l => obtain ⟨ad, h, _⟩ := this (by simp); cases h
      subst hl
      exact ⟨_, rfl, Kd.R_nil _ _ _ _ _, HB.out⟩
    | some a0 =>
      have hq : ∀ W : World, (binOp .eql 22 (.slice (some a0) l0.length c0) (.slice none 0 0)).run Try.prog W = .ok (.bool false) W := fun W => Go.run_eql_slice_nil W 22 41 (some a0) l0.length c0 Try.underlying22
      have hE : Kd.R k41 41 (w.alloc (.cells #[] 41)) w.heap.size (fun _ => True) (.slice (some ⟨w.heap.size, 0, none⟩) 0 0) [] := ⟨fun _ _ => trivial, OwnRow.lit w w.heap.size (Reps.none _ _) (Nat.le_refl _) (by simp)⟩
      have hE' := Aside0.mk hE
      clear hE
      go_enter Try.func26, Try.ntmps26
      go_wp2_with (at_builtin; refine Kd.R_append_rows k41 (Rr := k41.K w) (w0 := w) w.heap.size rfl (.tmp 5) (.tmp 6) 22 41 (.agg #[(.int .i64 0), (.string ⟨#[]⟩)]) 24 rfl Try.underlying22 info41 rfl (by decide) (by decide) _ [] l0 (some a0) l0.length c0 (fun _ => True) (fun _ => False) rfl rfl hE'.out (HR0.out.imp_ (below_alloc HB.out _) (fun _ _ h => h)) (fun x cs h => by obtain rfl := k41_open h; exact k41_mkM _ _ _ _) (fun _ h => h.elim) (fun _ _ => trivial) (below_alloc HB.out _) (by simp) (by have := HL.out; simp; omega) ?_; intro v1 w1 hR1 hB1 _ _; rw [List.nil_append] at hR1; have HR1 := Aside0.mk hR1; have HB1 := Aside0.mk hB1; clear hR1 hB1; obtain ⟨A1, c1, rfl⟩ := Kd.R_slice HR1.out)
      go_ret
      exact ⟨_, rfl, HR1.out, HB1.out⟩
  · cases h

def blob_Cut.f (l0 : List S41) (a1 : Int) : Option (List S41 × Int) := some (if chk 0 l0 = true then (if a1 < 0 then ([], 1) else (clip l0 0 a1, 0)) else ([], 80))
set_option maxHeartbeats 8000000 in
set_option maxRecDepth 100000 in
theorem blob_Cut.calls (A0 : Option Addr) (c0 : Nat) (l0 : List S41) (a1 : Int) (r1 : List S41) (r2 : Int) (w : World) (hr0 : Kd.C k41 w A0 l0.length l0) (hc0 : l0.length ≤ c0) (h : blob_Cut.f l0 a1 = some (r1, r2)) :
    Calls Try.prog 21 #[.slice A0 l0.length c0, .int .i64 a1] w fun e w' => ∃ v0_ : Value, e = .returned (.tuple #[v0_, .int .i64 r2]) ∧ Kd.R k41 41 w' w.heap.size (fun _ => True) v0_ r1 ∧ Below w.heap.size w w' := by
  have hck := blob_Check.calls (l0.length + 1) A0 c0 l0 _ w hr0 hc0 (check_f l0 hr0.2.1)
  have HR0 := Aside0.mk hr0
  clear hr0 hc0
  unfold blob_Cut.f at h
  have h := Option.some.inj h
  by_cases hch : chk 0 l0 = true
  · rw [if_pos hch] at h hck
    by_cases hneg : a1 < 0
    · rw [if_pos hneg] at h
      obtain ⟨rfl, rfl⟩ := Prod.mk.inj h
      clear h
      have HCK := Aside0.mk hck
      clear hck hch
      go_enter Try.func21, Try.ntmps21
      go_wp2_with (go_at_call 18; refine HCK.out.mono ?_; rintro e w1 ⟨rfl, hb⟩; have HB := Aside0.mk hb; clear hb)
      go_ret2
      exact ⟨_, rfl, Kd.R_nil _ _ _ _ _, HB.out⟩
    · rw [if_neg hneg] at h
      obtain ⟨rfl, rfl⟩ := Prod.mk.inj h
      clear h
      have HCK := Aside0.mk hck
      have HCH := Aside0.mk hch
      have HN := Aside0.mk (Int.not_lt.1 hneg)
      clear hck hch
      go_enter Try.func21, Try.ntmps21
      go_wp2_with (first
        | (go_at_call 18; refine HCK.out.mono ?_; rintro e w1 ⟨rfl, hb⟩; have HB := Aside0.mk hb; clear hb)
        | (go_at_call 28; refine (clipped_calls _ _ _ _ _ _).mono ?_; rintro e w2 ⟨rfl, rfl⟩)
        | (go_at_call 27; refine (collected A0 c0 l0 0 a1 (chk_good (by omega) HCH.out) (by omega) (by omega) HN.out (by have := (chk_few (by omega) HCH.out).1; omega) _ (HR0.out.imp_ HB.out (fun _ _ h => h))).mono ?_; rintro e w2 ⟨v, rfl, hR, hb⟩; have HR := Aside0.mk hR; have HB2 := Aside0.mk hb; clear hR hb; obtain ⟨A1, c1, rfl⟩ := own_slice HR.out))
      go_ret2
      exact ⟨_, rfl, R41_of_owns (own_weaken HR.out HB.out.size), below_step HB.out HB2.out⟩
  · rw [if_neg hch] at h hck
    obtain ⟨rfl, rfl⟩ := Prod.mk.inj h
    clear h
    have HCK := Aside0.mk hck
    clear hck hch
    go_enter Try.func21, Try.ntmps21
    go_wp2_with (go_at_call 18; refine HCK.out.mono ?_; rintro e w1 ⟨rfl, hb⟩; have HB := Aside0.mk hb; clear hb)
    go_ret2
    exact ⟨_, rfl, Kd.R_nil _ _ _ _ _, HB.out⟩
end Go.Proofs.Ytmknehabmloebaa.PBlob
