/- The contracts of blob.Write and blob.Read (that of blob.Cut stands in YtmknehabmloebaaGiven3): what each computes, for every input. -/
import Derived.Test.YtmknehabmloebaaGiven5
namespace Go.Proofs.Ytmknehabmloebaa.PBlob
open Go.RowKit Go.Shelf Go.Proofs.YtmknehabmloebaaW.PrintWords Go.Proofs.YtmknehabmloebaaW.PrintLast Go.Proofs.YtmknehabmloebaaW.PrintMore
set_option linter.unusedVariables false
set_option linter.unusedSimpArgs false

def blob_Write.f (l0 : List S41) (a1 : Int) (a2 : ByteArray) : Option (List S41 × Int) :=
  if chk 0 l0 = true then (if a1 < 0 then some ([], 1) else if (a2.size : Int) > 1048576 ∨ a1 > 1048576 - a2.size then some ([], 408) else if a2.toList = ([] : List UInt8) then some (l0, 0) else (blob_joined.f ((laid l0 a1 a2).length + 1) (laid l0 a1 a2)).map (fun r => (r, 0))) else some ([], 80)

set_option maxHeartbeats 8000000 in
set_option maxRecDepth 100000 in
theorem blob_Write.calls (A0 : Option Addr) (c0 : Nat) (l0 : List S41) (a1 : Int) (a2 : ByteArray) (r1 : List S41) (r2 : Int) (w : World) (hr0 : Kd.C k41 w A0 l0.length l0) (hc0 : l0.length ≤ c0) (h : blob_Write.f l0 a1 a2 = some (r1, r2)) :
    Calls Try.prog 13 #[.slice A0 l0.length c0, .int .i64 a1, .string a2] w fun e w' => ∃ v0_ : Value, e = .returned (.tuple #[v0_, .int .i64 r2]) ∧ Kd.R k41 41 w' w.heap.size (fun _ => True) v0_ r1 ∧ Below w.heap.size w w' := by
  have hck := blob_Check.calls (l0.length + 1) A0 c0 l0 _ w hr0 hc0 (check_f l0 hr0.2.1)
  unfold blob_Write.f at h
  by_cases hch : chk 0 l0 = true
  · rw [if_pos hch] at h hck
    by_cases hneg : a1 < 0
    · rw [if_pos hneg] at h
      obtain ⟨rfl, rfl⟩ := Prod.mk.inj (Option.some.inj h)
      clear h hr0 hc0
      have HCK := Aside0.mk hck
      clear hck hch
      go_enter Try.func13, Try.ntmps13
      go_wp2_with (go_at_call 18; refine HCK.out.mono ?_; rintro e w1 ⟨rfl, hb⟩; have HB := Aside0.mk hb; clear hb)
      go_ret2
      exact ⟨_, rfl, Kd.R_nil _ _ _ _ _, HB.out⟩
    · rw [if_neg hneg] at h
      by_cases hfar : (a2.size : Int) > 1048576 ∨ a1 > 1048576 - a2.size
      · rw [if_pos hfar] at h
        obtain ⟨rfl, rfl⟩ := Prod.mk.inj (Option.some.inj h)
        clear h hr0 hc0
        have HCK := Aside0.mk hck
        clear hck hch
        have t1 : decide (a1 < 0) = false := decide_eq_false hneg
        by_cases h2 : (a2.size : Int) > 1048576
        · have t2 : decide (1048576 < (a2.size : Int)) = true := decide_eq_true h2
          have t2' : decide (1048576 < a2.size) = true := decide_eq_true (by omega)
          clear hfar h2 hneg
          go_enter Try.func13, Try.ntmps13
          go_wp2_with (go_at_call 18; refine HCK.out.mono ?_; rintro e w1 ⟨rfl, hb⟩; have HB := Aside0.mk hb; clear hb)
          go_ret2
          exact ⟨_, rfl, Kd.R_nil _ _ _ _ _, HB.out⟩
        · have t2 : decide (1048576 < (a2.size : Int)) = false := decide_eq_false h2
          have t2' : decide (1048576 < a2.size) = false := decide_eq_false (by omega)
          have t3 : decide (1048576 - (a2.size : Int) < a1) = true := decide_eq_true (by omega)
          have b1 : (a2.size : Int) ≤ 1048576 := by omega
          clear hfar h2 hneg
          go_enter Try.func13, Try.ntmps13
          go_wp2_with (go_at_call 18; refine HCK.out.mono ?_; rintro e w1 ⟨rfl, hb⟩; have HB := Aside0.mk hb; clear hb)
          go_ret2
          exact ⟨_, rfl, Kd.R_nil _ _ _ _ _, HB.out⟩
      · rw [if_neg hfar] at h
        by_cases hem : a2.toList = ([] : List UInt8)
        · rw [if_pos hem] at h
          obtain ⟨rfl, rfl⟩ := Prod.mk.inj (Option.some.inj h)
          clear h
          have hcl : ∀ W : World, Below w.heap.size w W → Calls Try.prog 26 #[.slice A0 l0.length c0] W fun e w' => ∃ v0_ : Value, e = .returned (v0_) ∧ Kd.R k41 41 w' W.heap.size (fun _ => True) v0_ l0 ∧ Below W.heap.size W w' := fun W hb =>
            slices_Clone.calls A0 c0 l0 l0 W (hr0.imp_ hb (fun _ _ h => h)) hc0 (by unfold slices_Clone.f; rw [if_pos (by have := (chk_few (by omega) hch).1; omega)])
          have HCL := Aside0.mk hcl
          have HCK := Aside0.mk hck
          have t1 : decide (a1 < 0) = false := decide_eq_false hneg
          have t2 : decide (1048576 < (a2.size : Int)) = false := decide_eq_false (fun h => hfar (.inl h))
          have t2' : decide (1048576 < a2.size) = false := decide_eq_false (by omega)
          have t3 : decide (1048576 - (a2.size : Int) < a1) = false := decide_eq_false (fun h => hfar (.inr h))
          have t4 : (a2.toList == ([] : List UInt8)) = true := beq_iff_eq.mpr hem
          have b1 : (a2.size : Int) ≤ 1048576 := by omega
          clear hck hch hcl hr0 hc0 hfar hneg hem
          go_enter Try.func13, Try.ntmps13
          go_wp2_with (first | (go_at_call 18; refine HCK.out.mono ?_; rintro e w1 ⟨rfl, hb⟩; have HB := Aside0.mk hb; clear hb) | (go_at_call 26; refine (HCL.out _ HB.out).mono ?_; rintro e w2 ⟨v, rfl, hR, hb⟩; have HR := Aside0.mk hR; have HB2 := Aside0.mk hb; clear hR hb; obtain ⟨A1, c1, rfl⟩ := Kd.R_slice HR.out))
          go_ret2
          exact ⟨_, rfl, Kd.R_lower HR.out HB.out.size, below_step HB.out HB2.out⟩
        · rw [if_neg hem] at h
          obtain ⟨r, hj, he⟩ := Option.map_eq_some_iff.1 h
          obtain ⟨rfl, rfl⟩ := Prod.mk.inj he
          exact write_main _ A0 c0 l0 a1 a2 r w hr0 hc0 hch (by omega) (by omega) (by omega) hem hj
  · rw [if_neg hch] at h hck
    obtain ⟨rfl, rfl⟩ := Prod.mk.inj (Option.some.inj h)
    clear h hr0 hc0
    have HCK := Aside0.mk hck
    clear hck hch
    go_enter Try.func13, Try.ntmps13
    go_wp2_with (go_at_call 18; refine HCK.out.mono ?_; rintro e w1 ⟨rfl, hb⟩; have HB := Aside0.mk hb; clear hb)
    go_ret2
    exact ⟨_, rfl, Kd.R_nil _ _ _ _ _, HB.out⟩

/-- The bytes that are read. -/
def readOf (l : List S41) (at_ : Int) (m : Nat) : ByteArray := strOfNums ((List.range m).map (seen at_ (clip l at_ (at_ + m))))

def blob_Read.f (l0 : List S41) (a1 a2 a3 : Int) : Option (ByteArray × Int) :=
  if chk 0 l0 = true then (if a1 < 0 ∨ a1 > 1048576 ∨ a2 < 0 ∨ a3 < 0 ∨ a3 > 512 then some (⟨#[]⟩, 1) else if a2 ≥ a1 then some (⟨#[]⟩, 0) else some (readOf l0 a2 (mn a3 (a1 - a2)).toNat, 0)) else some (⟨#[]⟩, 80)

set_option maxHeartbeats 8000000 in
set_option maxRecDepth 100000 in
theorem blob_Read.calls (A0 : Option Addr) (c0 : Nat) (l0 : List S41) (a1 a2 a3 : Int) (r1 : ByteArray) (r2 : Int) (w : World) (hr0 : Kd.C k41 w A0 l0.length l0) (hc0 : l0.length ≤ c0) (h : blob_Read.f l0 a1 a2 a3 = some (r1, r2)) :
    Calls Try.prog 16 #[.slice A0 l0.length c0, .int .i64 a1, .int .i64 a2, .int .i64 a3] w fun e w' => e = .returned (.tuple #[.string r1, .int .i64 r2]) ∧ Below w.heap.size w w' := by
  have hck := fun (W : World) (hb : Below w.heap.size w W) => blob_Check.calls (l0.length + 1) A0 c0 l0 _ W (hr0.imp_ hb (fun _ _ h => h)) hc0 (check_f l0 hr0.2.1)
  unfold blob_Read.f at h
  by_cases hch : chk 0 l0 = true
  · rw [if_pos hch] at h
    simp only [if_pos hch] at hck
    have HCK := Aside0.mk hck
    have HB0 := Aside0.mk (below_alloc (Below.refl w.heap.size w) (.cells #[.int .i64 a2] 3))
    by_cases hbad : a1 < 0 ∨ a1 > 1048576 ∨ a2 < 0 ∨ a3 < 0 ∨ a3 > 512
    · rw [if_pos hbad] at h
      obtain ⟨rfl, rfl⟩ := Prod.mk.inj (Option.some.inj h)
      clear h hr0 hc0 hck hch
      have hxc := (Boxed.new w 3 (.int .i64 a2)).cell
      by_cases b1 : a1 < 0
      · clear hbad
        go_enter Try.func16, Try.ntmps16
        go_wp2_with (go_at_call 18; refine (HCK.out _ HB0.out).mono ?_; rintro e w1 ⟨rfl, hb⟩; have HB := Aside0.mk (below_step HB0.out hb); have hxc1 := pw_cell_below hb hxc; clear hb)
        go_ret2
        exact ⟨rfl, HB.out⟩
      · by_cases b2 : 1048576 < a1
        · clear hbad
          go_enter Try.func16, Try.ntmps16
          go_wp2_with (go_at_call 18; refine (HCK.out _ HB0.out).mono ?_; rintro e w1 ⟨rfl, hb⟩; have HB := Aside0.mk (below_step HB0.out hb); have hxc1 := pw_cell_below hb hxc; clear hb)
          go_ret2
          exact ⟨rfl, HB.out⟩
        · by_cases b3 : a2 < 0
          · clear hbad
            go_enter Try.func16, Try.ntmps16
            go_wp2_with (go_at_call 18; refine (HCK.out _ HB0.out).mono ?_; rintro e w1 ⟨rfl, hb⟩; have HB := Aside0.mk (below_step HB0.out hb); have hxc1 := pw_cell_below hb hxc; clear hb)
            go_ret2
            exact ⟨rfl, HB.out⟩
          · by_cases b4 : a3 < 0
            · clear hbad
              go_enter Try.func16, Try.ntmps16
              go_wp2_with (go_at_call 18; refine (HCK.out _ HB0.out).mono ?_; rintro e w1 ⟨rfl, hb⟩; have HB := Aside0.mk (below_step HB0.out hb); have hxc1 := pw_cell_below hb hxc; clear hb)
              go_ret2
              exact ⟨rfl, HB.out⟩
            · have b5 : 512 < a3 := by omega
              clear hbad
              go_enter Try.func16, Try.ntmps16
              go_wp2_with (go_at_call 18; refine (HCK.out _ HB0.out).mono ?_; rintro e w1 ⟨rfl, hb⟩; have HB := Aside0.mk (below_step HB0.out hb); have hxc1 := pw_cell_below hb hxc; clear hb)
              go_ret2
              exact ⟨rfl, HB.out⟩
    · rw [if_neg hbad] at h
      by_cases hge : a2 ≥ a1
      · rw [if_pos hge] at h
        obtain ⟨rfl, rfl⟩ := Prod.mk.inj (Option.some.inj h)
        clear h hr0 hc0 hck hch
        have hxc := (Boxed.new w 3 (.int .i64 a2)).cell
        have b1 : 0 ≤ a1 := by omega
        have b2 : a1 ≤ 1048576 := by omega
        have b3 : 0 ≤ a2 := by omega
        have b4 : 0 ≤ a3 := by omega
        have b5 : a3 ≤ 512 := by omega
        clear hbad
        go_enter Try.func16, Try.ntmps16
        go_wp2_with (go_at_call 18; refine (HCK.out _ HB0.out).mono ?_; rintro e w1 ⟨rfl, hb⟩; have HB := Aside0.mk (below_step HB0.out hb); have hxc1 := pw_cell_below hb hxc; clear hb)
        go_ret2
        exact ⟨rfl, HB.out⟩
      · rw [if_neg hge] at h
        obtain ⟨rfl, rfl⟩ := Prod.mk.inj (Option.some.inj h)
        have hm : mn a3 (a1 - a2) = ((mn a3 (a1 - a2)).toNat : Int) := by unfold mn; split <;> omega
        exact read_main A0 c0 l0 a1 a2 a3 _ w hr0 hc0 hch (by omega) (by omega) (by omega) (by omega) (by omega) hm
  · rw [if_neg hch] at h
    simp only [if_neg hch] at hck
    have HCK := Aside0.mk hck
    have HB0 := Aside0.mk (below_alloc (Below.refl w.heap.size w) (.cells #[.int .i64 a2] 3))
    obtain ⟨rfl, rfl⟩ := Prod.mk.inj (Option.some.inj h)
    clear h hr0 hc0 hck hch
    go_enter Try.func16, Try.ntmps16
    go_wp2_with (go_at_call 18; refine (HCK.out _ HB0.out).mono ?_; rintro e w1 ⟨rfl, hb⟩; have HB := Aside0.mk (below_step HB0.out hb); clear hb)
    go_ret2
    exact ⟨rfl, HB.out⟩
end Go.Proofs.Ytmknehabmloebaa.PBlob
