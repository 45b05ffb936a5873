import Derived.RangeFuncBox
import Derived.RangeFuncNested
import Derived.RangeFuncBound
import Derived.RangeFuncCalls
import Derived.RangeFuncLeaves
import Derived.Shelf.Abstract
import Derived.Shelf.RegionOpen
import Derived.WalkKit
import Derived.OwnWalkIn
import Derived.TacticsInMore
import Derived.LoopNIn
import Derived.LoopIn
import Derived.Maps.AppendAt
import Derived.Stop.RegionWithIn
import Derived.Sort.CutIn
import Derived.Lib.Hide
import Derived.Deep.RegionHeld3
import Derived.Test.YtmknehabmloebaaPBlobx0
import Derived.Test.YtmknehabmloebaaPBlobx2
import Derived.Test.YtmknehabmloebaaPlain
namespace Go.Proofs.Ytmknehabmloebaa.PBlob
open Go.RowKit Go.Shelf Go.Proofs.YtmknehabmloebaaW.PrintWords Go.Proofs.YtmknehabmloebaaW.PrintLast Go.Proofs.YtmknehabmloebaaW.PrintMore
set_option linter.unusedVariables false
set_option linter.unusedSimpArgs false
theorem max2_mx (k k' : IntKind) (x y : Int) : Builtin.max2 (.int k x) (.int k' y) = pure (.int k (mx x y)) := max2_int k k' x y
theorem min2_mn (k k' : IntKind) (x y : Int) : Builtin.min2 (.int k x) (.int k' y) = pure (.int k (mn x y)) := min2_int k k' x y
attribute [local go_sem] max2_mx min2_mn max_two min_two
attribute [local go_sem] Oper.semAt_some

/-- The part of one run. -/
def cut1 (x : S41) (fr tt : Int) : Option S41 :=
  if mx x.f0 fr < mn (x.f0 + x.f1.size) tt then some ⟨mx x.f0 fr, x.f1.extract (mx x.f0 fr - x.f0).toNat (mn (x.f0 + x.f1.size) tt - x.f0).toNat⟩ else none
def clip (l : List S41) (fr tt : Int) : List S41 := l.filterMap fun x => cut1 x fr tt

theorem clip_take_succ (l : List S41) (fr tt : Int) (k : Nat) (hk : k < l.length) : clip (l.take (k + 1)) fr tt = clip (l.take k) fr tt ++ (cut1 (rd_T41 l k) fr tt).toList := by
  have : l.take (k + 1) = l.take k ++ [l[k]] := by simp
  rw [this]
  simp only [clip, List.filterMap_append, rd_T41, Int.toNat_natCast, List.getD_eq_getElem?_getD, List.getElem?_eq_getElem hk, Option.getD_some]
  cases h : cut1 l[k] fr tt <;> simp [h]

theorem hw1 {k n : Nat} (h : n ≤ 9223372036854775807) (hk : k < n) : wrap64 ((k : Int) + 1) = ((k + 1 : Nat) : Int) := by unfold wrap64; omega
theorem hmeas {k n : Nat} (h : n ≤ 9223372036854775807) (hk : k < n) : n - (intOf (.int .i64 (wrap64 ((k : Int) + 1)))).toNat < n - (intOf (.int .i64 (k : Int))).toNat := by rw [hw1 h hk]; simp [intOf]; omega
theorem bcell {W w1 : World} (hb : Below W.heap.size W w1) : (∀ b o, b < W.heap.size → w1.cell? ⟨b, o, none⟩ = W.cell? ⟨b, o, none⟩) ∧ (∀ b o, b < W.heap.size → w1.frozen? ⟨b, o, none⟩ = W.frozen? ⟨b, o, none⟩) :=
  ⟨fun b o h => hb.cell (p := ⟨b, o, none⟩) h, fun b o h => hb.frozen (p := ⟨b, o, none⟩) h⟩
/-- What a round keeps: what lay below n₀, and the iterator's boxes. -/
def KpB (n₀ : Nat) (Bx : Nat → Prop) (W W' : World) : Prop := Below n₀ W W' ∧ ∀ k, Bx k → W'.heap[k]? = W.heap[k]?
theorem KpB.refl (n₀ : Nat) (Bx : Nat → Prop) (W : World) : KpB n₀ Bx W W := ⟨Below.refl _ _, fun _ _ => rfl⟩
theorem KpB.trans {n₀ : Nat} {Bx : Nat → Prop} {A B C : World} (h : KpB n₀ Bx A B) (k : KpB n₀ Bx B C) : KpB n₀ Bx A C := ⟨h.1.trans k.1, fun j hj => (k.2 j hj).trans (h.2 j hj)⟩
theorem KpB.of_below {n₀ : Nat} {Bx : Nat → Prop} {W W' : World} (h : Below W.heap.size W W') (hn : n₀ ≤ W.heap.size) (hB : ∀ k, Bx k → k < W.heap.size) : KpB n₀ Bx W W' := ⟨h.mono hn, fun k hk => h.block k (hB k hk)⟩
theorem KpB.cell {n₀ : Nat} {Bx : Nat → Prop} {W W' : World} (h : KpB n₀ Bx W W') {b : Nat} (hb : Bx b) : W'.cell? ⟨b, 0, none⟩ = W.cell? ⟨b, 0, none⟩ := by simp [World.cell?, h.2 b hb]
theorem KpB.lt {n₀ : Nat} {Bx : Nat → Prop} {W W' : World} (h : KpB n₀ Bx W W') (hB : ∀ k, Bx k → k < W.heap.size) : ∀ k, Bx k → k < W'.heap.size := fun k hk => Nat.lt_of_lt_of_le (hB k hk) h.1.size
theorem KpB.putObj {n₀ B : Nat} {Bx : Nat → Prop} (hn : n₀ ≤ B) (hB : ∀ k, Bx k → k < B) (W : World) (l : Nat) (o o' : Obj) (hl : B ≤ l) (ho : W.heap[l]? = some o) (hc : o.isCells = false) : KpB n₀ Bx W (W.putObj l o') :=
  ⟨(Below.refl n₀ W).grown (grownBy_putObj' W l o') (by have := (Array.getElem?_eq_some_iff.1 ho).1; omega) (fun k e => by cases e; omega), fun k hk => World.putObj_heap_other (fun e => by have := hB k hk; omega)⟩
set_option maxRecDepth 100000 in
set_option maxHeartbeats 4000000 in
theorem clipped1_in (n : Nat) (hn : 1 ≤ n) (l Bl Bf Bt n₀ : Nat) (Bx : Nat → Prop) (A0 : Option Addr) (c0 : Nat) (l0 : List S41) (fr tt : Int) (hg : Good l0) (hfr : 0 ≤ fr) (hfr2 : fr ≤ 2097152) (hto : 0 ≤ tt)
    (J Jx : List S41 → World → Prop)
    (W : World) (hJ : AbidesFrom W.heap.size J) (hJx : AbidesFrom W.heap.size Jx) (hn₀ : n₀ ≤ W.heap.size)
    (hY : ∀ pre x W, fr ≤ x.f0 → x.f0 + x.f1.size ≤ tt → 0 < x.f1.size → J pre W → pre.length < l0.length → YieldAt Fence.wide (n - 1) Try.prog l #[.agg #[.int .i64 x.f0, .string x.f1]] W fun e W' =>
      (e = .returned (.bool true) ∧ J (pre ++ [x]) W' ∧ KpB n₀ Bx W W') ∨ (e = .returned (.bool false) ∧ Jx (pre ++ [x]) W'))
    (hBl : W.cell? ⟨Bl, 0, none⟩ = some (.slice A0 l0.length c0)) (hBf : W.cell? ⟨Bf, 0, none⟩ = some (.int .i64 fr)) (hBt : W.cell? ⟨Bt, 0, none⟩ = some (.int .i64 tt))
    (hl1 : Bx Bl) (hl2 : Bx Bf) (hl3 : Bx Bt) (hBx : ∀ k, Bx k → k < W.heap.size)
    (hC : ∀ W', Below n₀ W W' → Kd.C k41 W' A0 l0.length l0) (h0 : J [] W) :
    CallsIn Fence.wide n Try.prog 32 #[.func (.yield l) #[] #[], .pointer (some ⟨Bl, 0, none⟩), .pointer (some ⟨Bf, 0, none⟩), .pointer (some ⟨Bt, 0, none⟩)] W fun e W' => (∃ v, e = .returned v) ∧
      ((∃ ys, ys = clip l0 fr tt ∧ J ys W') ∨ (∃ pre, pre <+: clip l0 fr tt ∧ Jx pre W')) := by
  have hu41 := Try.underlying41
  refine callsIn_of_wp Try.func32 rfl trivial ?_ rfl
  simp only [Try.ntmps32, List.size_toArray, List.length_cons, List.length_nil, Nat.reduceAdd, Nat.reduceSub, Array.replicate_succ, Array.replicate_zero, List.push_toArray, List.append_toArray, List.nil_append, List.cons_append]
  gi_wp2
  gi_loopw [11] (fun i wr => ∃ k : Nat, k ≤ l0.length ∧ i = .int .i64 k ∧ J (clip (l0.take k) fr tt) wr ∧ KpB n₀ Bx W wr)
    (fun i _ => l0.length - (intOf i).toNat)
  case atStart => exact ⟨0, Nat.zero_le _, rfl, by simpa [clip] using h0, KpB.refl _ _ _⟩
  case round =>
    obtain ⟨k, hk, rfl, hJs, hnx⟩ := hrel
    by_cases hlt : k < l0.length
    · have hcx := hC wr hnx.1
      have hgk := hg (rd_T41 l0 k) (by simp only [rd_T41, Int.toNat_natCast, List.getD_eq_getElem?_getD, List.getElem?_eq_getElem hlt, Option.getD_some]; exact List.getElem_mem hlt)
      obtain ⟨ad, e101, hx0, hx1⟩ := at_T41 hcx (k : Int) (by omega) (by omega)
      cases e101
      simp only [Int.toNat_natCast] at hx0 hx1
      have hz1 : n₀ ≤ wr.heap.size := Nat.le_trans hn₀ hnx.1.size
      have hb1 := (hnx.cell hl2).trans hBf
      have hb2 := (hnx.cell hl3).trans hBt
      have hbf : Bf < wr.heap.size := hnx.lt hBx _ hl2
      have hbt : Bt < wr.heap.size := hnx.lt hBx _ hl3
      have HC := Lib.hid hC
      have HCX := Lib.hid hcx
      clear hC hcx hBf hBt
      gi_upto_region 3 with fail
      gi_cut [7, 8] from 12 (fun s7 s8 wx => s7 = .int .i64 (mx (rd_T41 l0 k).f0 fr) ∧ s8 = .int .i64 (mn (wrap64 ((rd_T41 l0 k).f0 + (rd_T41 l0 k).f1.size)) tt) ∧ Below wr.heap.size wr wx ∧ wx.cell? ⟨wr.heap.size, 0, none⟩ = some (.int .i64 (rd_T41 l0 k).f0) ∧ wx.cell? ⟨wr.heap.size, 1, none⟩ = some (.string (rd_T41 l0 k).f1))
      · have h30 : Fence.wide.fn 30 := trivial
        have hbf2 : Bf < wr.heap.size + 1 := by omega
        have hbt2 : Bt < wr.heap.size + 1 := by omega
        refine wpIn_wide.2 ?_
        have hn0 : (wr.alloc (.cells #[.int .i64 (rd_T41 l0 k).f0, .string (rd_T41 l0 k).f1] 41)).cell? ⟨wr.heap.size, 0, none⟩ = some (.int .i64 (rd_T41 l0 k).f0) := by simp
        have hn1 : (wr.alloc (.cells #[.int .i64 (rd_T41 l0 k).f0, .string (rd_T41 l0 k).f1] 41)).cell? ⟨wr.heap.size, 1, none⟩ = some (.string (rd_T41 l0 k).f1) := by simp
        have hn2 : (wr.alloc (.cells #[.int .i64 (rd_T41 l0 k).f0, .string (rd_T41 l0 k).f1] 41)).cell? ⟨Bf, 0, none⟩ = some (.int .i64 fr) := (World.cell?_alloc_lt _ _ ⟨Bf, 0, none⟩ hbf).trans hb1
        have hn3 : (wr.alloc (.cells #[.int .i64 (rd_T41 l0 k).f0, .string (rd_T41 l0 k).f1] 41)).cell? ⟨Bt, 0, none⟩ = some (.int .i64 tt) := (World.cell?_alloc_lt _ _ ⟨Bt, 0, none⟩ hbt).trans hb2
        have hnb : Below wr.heap.size wr (wr.alloc (.cells #[.int .i64 (rd_T41 l0 k).f0, .string (rd_T41 l0 k).f1] 41)) := (Below.refl _ wr).alloc (Nat.le_refl _) _
        have hns : wr.heap.size < (wr.alloc (.cells #[.int .i64 (rd_T41 l0 k).f0, .string (rd_T41 l0 k).f1] 41)).heap.size := by simp
        generalize wr.alloc (.cells #[.int .i64 (rd_T41 l0 k).f0, .string (rd_T41 l0 k).f1] 41) = WW at *
        go_region_held3 (fun w' => w'.cell? ⟨wr.heap.size, 0, none⟩ = some (.int .i64 (rd_T41 l0 k).f0) ∧ w'.cell? ⟨wr.heap.size, 1, none⟩ = some (.string (rd_T41 l0 k).f1) ∧ w'.cell? ⟨Bf, 0, none⟩ = some (.int .i64 fr) ∧ w'.cell? ⟨Bt, 0, none⟩ = some (.int .i64 tt) ∧ Below wr.heap.size wr w') (first | exact ⟨hn0, hn1, hn2, hn3, hnb.drew⟩ | exact ⟨pw_cell_below hb hn0, pw_cell_below hb hn1, pw_cell_below hb hn2, pw_cell_below hb hn3, below_step hnb.drew hb⟩ | go_keep | (trace_state; fail))
          (first | (go_at_call 30; refine (blob_end.calls _ _ _ _ rfl).mono ?_; rintro e w2 ⟨rfl, hb⟩))
        all_goals
          gi_wp2
          gi_meet
          case rel => exact ⟨rfl, rfl, below_step hnb.drew hb, pw_cell_below hb hn0, pw_cell_below hb hn1⟩
      · have hwr : wrap64 ((rd_T41 l0 k).f0 + (rd_T41 l0 k).f1.size) = (rd_T41 l0 k).f0 + (rd_T41 l0 k).f1.size := by unfold wrap64; omega
        rw [hwr] at hcut
        obtain ⟨rfl, rfl, hbx, hx0', hx1'⟩ := hcut
        have hJc : J (clip (l0.take k) fr tt) wc := hJ _ wr wc none hJs (grown_of_below hbx none) (fun r e => by cases e)
        have hnc : KpB n₀ Bx wr wc := KpB.of_below hbx hz1 (hnx.lt hBx)
        have hlen2 : (clip (l0.take k) fr tt).length < l0.length := Nat.lt_of_le_of_lt (List.length_filterMap_le _ _) (by simp; omega)
        have hstep := clip_take_succ l0 fr tt k hlt
        have hmx : (rd_T41 l0 k).f0 ≤ mx (rd_T41 l0 k).f0 fr ∧ fr ≤ mx (rd_T41 l0 k).f0 fr ∧ 0 ≤ mx (rd_T41 l0 k).f0 fr ∧ mx (rd_T41 l0 k).f0 fr ≤ 2097152 := by unfold mx; split <;> omega
        have hmn : mn ((rd_T41 l0 k).f0 + (rd_T41 l0 k).f1.size) tt ≤ (rd_T41 l0 k).f0 + (rd_T41 l0 k).f1.size ∧ mn ((rd_T41 l0 k).f0 + (rd_T41 l0 k).f1.size) tt ≤ tt ∧ 0 ≤ mn ((rd_T41 l0 k).f0 + (rd_T41 l0 k).f1.size) tt := by unfold mn; split <;> omega
        have hcut1 : cut1 (rd_T41 l0 k) fr tt = if mx (rd_T41 l0 k).f0 fr < mn ((rd_T41 l0 k).f0 + (rd_T41 l0 k).f1.size) tt then some ⟨mx (rd_T41 l0 k).f0 fr, (rd_T41 l0 k).f1.extract (mx (rd_T41 l0 k).f0 fr - (rd_T41 l0 k).f0).toNat (mn ((rd_T41 l0 k).f0 + (rd_T41 l0 k).f1.size) tt - (rd_T41 l0 k).f0).toNat⟩ else none := rfl
        rw [hcut1] at hstep
        generalize (rd_T41 l0 k).f0 = p at *
        generalize (rd_T41 l0 k).f1 = s at *
        generalize mx p fr = x at *
        generalize mn (p + s.size) tt = y at *
        by_cases hxy : x < y
        · rw [if_pos hxy] at hstep
          have hsz : (s.extract (x - p).toNat (y - p).toNat).size = (y - x).toNat := by rw [ByteArray.size_extract]; omega
          obtain ⟨fn, tmps, assign, body, hy, hR⟩ := hY _ ⟨x, s.extract (x - p).toNat (y - p).toNat⟩ wc (by show fr ≤ x; omega) (by show x + _ ≤ tt; rw [hsz]; omega) (by show 0 < _; rw [hsz]; omega) hJc hlen2
          clear hsz
          dsimp only at hy
          have HS := Lib.hid hstep
          clear hstep hY
          have hsl : ∀ W : World, (Instr.slice 9 (.string s) (some (.int .i64 (x - p))) (some (.int .i64 (y - p))) none).run Try.prog W = .ok (.string (s.extract (x - p).toNat (y - p).toNat)) W := fun W => run_slice_string W 9 s .i64 .i64 (x - p) (y - p) Try.underlying9 (by omega) (by omega) (by omega)
          gi_wp2
          refine hR.mono ?_
          rintro e W3 (⟨rfl, hJ3, hk3⟩ | ⟨rfl, hJx3⟩)
          · gi_wp2
            go_roundw
            case rel => exact ⟨k + 1, by omega, congrArg (Value.int .i64) (hw1 HCX.out.2.1 hlt), by rw [HS.out]; exact hJ3, (hnx.trans hnc).trans hk3⟩
            case measure => exact hmeas HCX.out.2.1 hlt
          · gi_wp2
            refine bodyPost_ret (results_none rfl _ _ _) rfl ?_
            refine ⟨⟨_, rfl⟩, .inr ⟨_, ?_, hJx3⟩⟩
            have := HS.out
            simp only [Option.toList] at this
            rw [← this]
            exact ⟨clip (l0.drop (k + 1)) fr tt, by simp only [clip]; rw [← List.filterMap_append, List.take_append_drop]⟩
        · rw [if_neg hxy] at hstep
          have HS := Lib.hid hstep
          clear hstep hY
          gi_wp2
          refine ⟨fun _ h => (by cases h), ?_⟩
          gi_wp2
          go_roundw
          case rel => exact ⟨k + 1, by omega, congrArg (Value.int .i64) (hw1 HCX.out.2.1 hlt), by rw [HS.out]; simpa using hJc, hnx.trans hnc⟩
          case measure => exact hmeas HCX.out.2.1 hlt
    · obtain rfl : k = l0.length := by omega
      gi_wp2
      go_end0
      exact ⟨⟨_, rfl⟩, .inl ⟨_, by simp, hJs⟩⟩
end Go.Proofs.Ytmknehabmloebaa.PBlob
