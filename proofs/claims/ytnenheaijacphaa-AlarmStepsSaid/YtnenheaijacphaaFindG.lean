/- The reference's Find, with what it lays: blocks of its own alone. -/
import Derived.Test.YtnenheaijacphaaRClock
import Derived.Shelf.SlSortCmp.QuietGrown
import Derived.BigQuiet
namespace Go.Proofs.Ytnenheaijacphaa.PAlarm
open Go Go.RowKit Go.Maps Go.Sort Go.Proofs.YtnenheaijacphaaW.PrintWords Go.Proofs.YtnenheaijacphaaW.PrintLast Go.Proofs.YtnenheaijacphaaW.PrintMore Go.Proofs.Ytnenheaijacphaa.Sl
set_option linter.unusedVariables false
set_option linter.unusedSimpArgs false

theorem below_grown (w : World) (n : Nat) (os : Array Obj) : Below w.heap.size w (grow (w.drewN n) os) :=
  ⟨rfl, rfl, rfl, by rw [size_grow]; exact Nat.le_add_right _ _, fun k hk => heap_grow_old (w.drewN n) os (by exact hk)⟩
theorem grow_below {w W : World} (h : ∃ os, W = grow w os) : Below w.heap.size w W := by
  obtain ⟨os, rfl⟩ := h
  exact below_grown w 0 os
set_option maxHeartbeats 1000000 in
set_option maxRecDepth 100000 in
theorem find_grow (B q : Nat) (o : Option Nat) (L : List S53) (n : Int) (w : World) (H : RC w B q o L) (hl : L.length ≤ 100000) :
    Calls Try.prog 20 #[.pointer (some ⟨q, 0, none⟩), .int .i64 n] w fun e w' => e = .returned (.int .i64 (fnd L n)) ∧ ∃ os, w' = grow w os := by
  have hu53 := Try.underlying53
  obtain ⟨A, cp, f1, f2, f3, f4, f5⟩ := H.open_
  have c0 : w.cell? ⟨q, 0, none⟩ = some (.slice A L.length cp) := (blk_cell f2 0).trans rfl
  obtain ⟨_, hlc, hC⟩ := Kd.R_reads' f5
  have HH := Aside0.mk (And.intro hC hlc)
  have hm : (L.length : Int) ≤ 100000 := by omega
  clear H hl f1 f2 f3 f4 f5 hlc hC
  go_enter Try.func20, Try.ntmps20
  go_wp2
  go_loopw [12] (fun i wr => ∃ k : Nat, k ≤ L.length ∧ i = .int .i64 k ∧ Aside0 (at_ (L.take k) n = none) ∧ Aside0 (∃ os, wr = grow w os)) (fun i _ => L.length - (intOf i).toNat)
  case atStart => exact ⟨0, Nat.zero_le _, rfl, ⟨rfl⟩, ⟨#[], (grow_empty w).symm⟩⟩
  case round =>
    obtain ⟨k, hk, rfl, HR, HB⟩ := hrel
    by_cases hlt : k < L.length
    · have hltI : (k : Int) < (L.length : Int) := by omega
      obtain ⟨ad, hA, x0, x1⟩ := at_T53 (Kd.C_below HH.out.1 (grow_below HB.out)) (k : Int) (by omega) hltI
      have e1 := fnd_hit (n := n) hlt HR.out
      have e2 := fnd_snoc (n := n) hlt HR.out
      simp only [Int.toNat_natCast] at x0 x1
      generalize rd_T53 L (k : Int) = x at *
      have hB' : ∃ os, wr.alloc (.cells #[.int .i64 x.f0, .int .i64 x.f1] 53) = grow w os := by obtain ⟨os, e⟩ := HB.out; exact ⟨os ++ #[_], by rw [e, alloc_eq_grow, grow_grow]⟩
      have HN := Aside0.mk (And.intro e1 (And.intro e2 (And.intro hlt hB')))
      clear e1 e2 hlt hB'
      subst hA
      by_cases hx : x.f0 = n
      · have d : (x.f0 == n) = true := by simp [hx]
        have HX := Aside0.mk hx
        clear hx
        go_wp2
        go_ret
        exact ⟨by rw [HN.out.1 HX.out]; rfl, HN.out.2.2.2⟩
      · have d : (x.f0 == n) = false := by simpa using hx
        have HX := Aside0.mk hx
        clear hx
        go_wp2
        exact ⟨⟨k + 1, HN.out.2.2.1, by congr 1, ⟨HN.out.2.1 HX.out⟩, ⟨HN.out.2.2.2⟩⟩, by have := HN.out.2.2.1; simp only [intOf]; omega⟩
    · obtain rfl : k = L.length := by omega
      have hf : fnd L n = -1 := by unfold fnd; have := HR.out; rw [List.take_length] at this; rw [this]; rfl
      have HF := Aside0.mk hf
      clear hf
      go_wp2
      go_ret
      exact ⟨by rw [HF.out]; rfl, HB.out⟩
end Go.Proofs.Ytnenheaijacphaa.PAlarm
