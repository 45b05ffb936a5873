/- The reference's Flip: the post's. -/
import Derived.Test.YtndjhpkpeklgfaaRTakes
namespace Go.Proofs.Ytndjhpkpeklgfaa.PPost
open Go Go.RowKit Go.Proofs.YtndjhpkpeklgfaaW.PrintWords Go.Proofs.YtndjhpkpeklgfaaW.PrintLast Go.Proofs.YtndjhpkpeklgfaaW.PrintMore Go.Proofs.Ytndjhpkpeklgfaa.Sl
set_option linter.unusedVariables false
set_option linter.unusedSimpArgs false
theorem seen_first {l : List S52} (U : Up l) {k : Nat} {n : Int} (hk : k < l.length) (he : (rd_T52 l (k : Int)).f0 = n) : there l n = true ∧ place l n = k := by
  subst he
  exact ⟨there_at U hk, place_at U hk⟩
set_option maxHeartbeats 8000000 in
set_option maxRecDepth 100000 in
theorem rflip_calls (B p : Nat) (o : Option Nat) (nodes last : Int) (l : List S52) (n bit : Int) (w : World) (H : Po 51 52 w B p o nodes last l) (U : Up l) (hl : l.length ≤ 2048) (hs : ∀ x ∈ l, x.f3.size ≤ 65535) (hm : bit ≤ 9223372036854775807) :
    Calls Try.prog 27 #[.pointer (some ⟨p, 0, none⟩), .int .i64 n, .int .i64 bit] w fun e w' => e = .returned (.int .i64 (flp l n bit).1) ∧ Then 51 52 w w' B p o nodes last (flp l n bit).2 := by
  have hu52 := Try.underlying52
  obtain ⟨A, cp, f1, f2, f3, f4, f5⟩ := H.open_
  obtain ⟨_, hlc, hC⟩ := Kd.R_reads' f5
  obtain ⟨_, c0, c1, c2, _, _, _⟩ := po_cells f2 (Below.refl _ w)
  have HH := Aside0.mk (And.intro H (And.intro hC (And.intro U (And.intro f2 (And.intro f5 (And.intro f3 (And.intro f4 hs)))))))
  have hlm : (l.length : Int) ≤ 2048 := by omega
  clear H hl f1 f2 f3 f4 f5 hlc hC U hs
  go_enter Try.func27, Try.ntmps27
  go_wp2
  go_loopw [15] (fun i wr => ∃ k : Nat, k ≤ l.length ∧ i = .int .i64 k ∧ Aside0 (∀ j : Nat, j < k → (rd_T52 l (j : Int)).f0 ≠ n) ∧ Aside0 (Below w.heap.size w wr)) (fun i _ => l.length - (intOf i).toNat)
  case atStart => exact ⟨0, Nat.zero_le _, rfl, ⟨fun j h => absurd h (by omega)⟩, ⟨Below.refl _ _⟩⟩
  case round =>
    obtain ⟨k, hk, rfl, HQ, HB⟩ := hrel
    by_cases hlt : k < l.length
    · have hltI : (k : Int) < (l.length : Int) := by omega
      have hk0 : (0 : Int) ≤ (k : Int) := by omega
      obtain ⟨ad, hA, x0, x1, x2, x3⟩ := at_T52 (Kd.C_below HH.out.2.1 HB.out) (k : Int) (by omega) hltI
      simp only [Int.toNat_natCast] at x0 x1 x2 x3
      have hfs := seen_first (n := n) HH.out.2.2.1 hlt
      have hsx : (rd_T52 l (k : Int)).f3.size ≤ 65535 := HH.out.2.2.2.2.2.2.2 _ (rd_mem hlt)
      obtain ⟨x, hx⟩ : ∃ x, x = rd_T52 l (k : Int) := ⟨_, rfl⟩
      rw [← hx] at x0 x1 x2 x3 hfs hsx
      by_cases hxn : x.f0 = n
      · obtain ⟨ht, hpl⟩ := hfs hxn
        have d0 : (x.f0 != n) = false := by simp [hxn]
        by_cases hbad : bit < 0 ∨ 8 * (x.f3.size : Int) ≤ bit
        · have hfl : flp l n bit = (1, l) := by rw [flp, if_pos ht, hpl, ← hx, if_pos hbad]
          have hd : bit < 0 ∨ (0 ≤ bit ∧ (x.f3.size : Int) ≤ bit / 8) := by omega
          have HN := Aside0.mk hfl
          have hs1 : (x.f3.size : Int) ≤ 65535 := by omega
          clear hfs hsx hxn hx ht hpl hfl hlt hbad
          subst hA
          rcases hd with b0 | ⟨b0, b1⟩
          all_goals
            go_wp2_with (first | ((with_reducible refine gate_dst (N := 8) rfl ?_); (try (refine gate_guard (by rfl) ?_; dsimp only)); refine box_event ?hg (N := 8) ?hd (cs := #[.int .i64 0, .int .i64 0, .int .i64 0, .string ⟨#[]⟩]) (t := 52) ?hr ?_; (case hd => rfl); (case hg => rfl); (case hr => first | (go_simp; done) | (go_simp; rfl)); intro gc hg w5 hbox hb; obtain ⟨h0, h1, h2, h3, m0, m1, m2, m3⟩ := box_cells hbox; have HY := Aside0.mk (And.intro (HB.out.trans (hb.mono HB.out.size)) (And.intro (show w.heap.size ≤ gc by have := HB.out.size; omega) hbox)); clear hg hbox hb))
            go_ret
            rw [HN.out]
            exact ⟨rfl, .same HH.out.1 (below4 HY.out.1 (g := gc) HY.out.2.1 _ _ _ _)⟩
        · have hb0 : 0 ≤ bit := by omega
          obtain ⟨j, m, hj, hjd, hmd, hjt, hmt, hm8, hjn, hmn⟩ : ∃ j m : Nat, j < x.f3.size ∧ bit / 8 = (j : Int) ∧ bit % 8 = (m : Int) ∧ bit.tdiv 8 = (j : Int) ∧ bit.tmod 8 = (m : Int) ∧ m < 8 ∧ bit.toNat / 8 = j ∧ bit.toNat % 8 = m := by
            obtain ⟨b, rfl⟩ := Int.eq_ofNat_of_zero_le hb0
            refine ⟨b / 8, b % 8, by omega, by omega, by omega, ?_, ?_, by omega, by omega, by omega⟩
            · rw [Int.tdiv_eq_ediv_of_nonneg (by omega)]; omega
            · rw [Int.tmod_eq_emod_of_nonneg (by omega)]; omega
          have hfl : flp l n bit = (0, l.set k ⟨x.f0, x.f1, x.f2, strOfNums ((bytesOf x.f3).set j (bits BinOp.xor .u8 (bt x.f3 (j : Int)) (2 ^ m % 256)))⟩) := by
            rw [flp, if_pos ht, hpl, ← hx, if_neg hbad, flipL, ← hx, flipB, hjn, hmn]
          have HN := Aside0.mk (And.intro hfl (And.intro hx hsx))
          have HD := Aside0.mk (And.intro hjd (And.intro hmd (And.intro hjt hmt)))
          have hj0 : (0 : Int) ≤ (j : Int) := by omega
          have hj1 : (j : Int) < (x.f3.size : Int) := by omega
          have hm0 : (0 : Int) ≤ (m : Int) := by omega
          have hm1 : (m : Int) < 8 := by omega
          have hs1 : (x.f3.size : Int) ≤ 65535 := by omega
          have HM := Aside0.mk (And.intro hj hlt)
          have nb : ¬ bit < 0 := by omega
          have nj : ¬ (x.f3.size : Int) ≤ (j : Int) := by omega
          have kc : ∀ W : World, (convert 9 61 (.string x.f3)).run Try.prog W = .ok (.slice (some ⟨W.heap.size, 0, none⟩) x.f3.size (grownCap W x.f3.size 0 5)) (Lib.bytesWorld W 5 x.f3) := fun W => Lib.run_convert_string_bytes W 9 61 5 x.f3 Try.underlying9 Try.underlying61 Try.underlying5
          clear hfs hsx hxn hx ht hpl hfl hlt hbad hj hm8 hjn hmn
          subst hA
          obtain ⟨ga, rfl⟩ := Kd.R_head HH.out.2.2.2.2.1
          simp only [Addr.add_lit, Nat.zero_add] at x0 x1 x2 x3
          go_wp2_with (first | ((with_reducible refine gate_dst (N := 8) rfl ?_); (try (refine gate_guard (by rfl) ?_; dsimp only)); refine box_event ?hg (N := 8) ?hd (cs := #[.int .i64 0, .int .i64 0, .int .i64 0, .string ⟨#[]⟩]) (t := 52) ?hr ?_; (case hd => rfl); (case hg => rfl); (case hr => first | (go_simp; done) | (go_simp; rfl)); intro gc hg w5 hbox hb; obtain ⟨h0, h1, h2, h3, m0, m1, m2, m3⟩ := box_cells hbox; have HY := Aside0.mk (And.intro (HB.out.trans (hb.mono HB.out.size)) (And.intro (show w.heap.size ≤ gc by have := HB.out.size; omega) hbox)); clear hg hbox hb) | ((with_reducible refine gate_dst (N := 36) rfl ?_); refine bytes_event (s := x.f3) ?hg (N := 36) ?hd ?hr ?_; (case hd => rfl); (case hg => rfl); (case hr => first | (go_simp; done) | (go_simp; rfl)); intro g c w6 hy; have hy0 := hy.cell j HM.out.1; have hy1 := hy.free j HM.out.1; have HZ := Aside0.mk hy; clear hy))
          obtain ⟨v, hv⟩ : ∃ v, v = bits BinOp.xor .u8 (bt x.f3 (j : Int)) (2 ^ m % 256) := ⟨_, rfl⟩
          rw [← hv]
          obtain ⟨W7, hW7⟩ : ∃ W7, W7 = w6.setCell ⟨g, j, none⟩ (.int .u8 v) := ⟨_, rfl⟩
          rw [← hW7]
          have h4 := below4 HY.out.1 (g := gc) HY.out.2.1 (.int .i64 x.f0) (.int .i64 x.f1) (.int .i64 x.f2) (.string x.f3)
          have h5 : Below w.heap.size w w6 := h4.trans (HZ.out.below.mono h4.size)
          have hg : w.heap.size ≤ g := Nat.le_trans h4.size HZ.out.new
          have h7 : Below w.heap.size w W7 := by rw [hW7]; exact h5.setCell (p := ⟨g, j, none⟩) hg _
          have ks : ∀ W : World, (∀ i, i < x.f3.size → W.cell? ⟨g, i, none⟩ = W7.cell? ⟨g, i, none⟩) → (convert 61 9 (.slice (some ⟨g, 0, none⟩) x.f3.size c)).run Try.prog W = .ok (.string (strOfNums ((bytesOf x.f3).set j v))) W := by
            rw [hW7]; exact flip_string HZ.out HM.out.1 HN.out.2.2 v
          have ks0 := ks W7 (fun _ _ => rfl)
          have ks1 := ks W7.drew (fun _ _ => rfl)
          obtain ⟨q9, q0, q1, q2, r0, r1, r2⟩ := po_cells HH.out.2.2.2.1 h7
          obtain ⟨ad, hA, z0, z1, z2, z3⟩ := at_T52 (Kd.R_reads' (Kd.R_below HH.out.2.2.2.2.1 h7)).2.2 (k : Int) hk0 hltI
          injection hA with hA
          subst hA
          rw [← HN.out.2.1] at z0 z1 z2 z3
          simp only [Int.toNat_natCast, Addr.add_lit, Nat.zero_add] at z0 z1 z2 z3
          have hfr : W7.frozen? ⟨ga, k * 4 + 3, none⟩ = false := by
            obtain ⟨cells, hc⟩ := own_typed (Kd.R_own (Kd.R_below HH.out.2.2.2.2.1 h7)).choose_spec ga rfl
            exact frozen_blk hc _
          have H7 := Aside0.mk h7
          have HV := Aside0.mk hv
          clear h7 h5 h4 hg hW7 ks q9 hv hy0 hy1 x0 x1 x2 x3 hjd hmd hjt hmt c0 c1 c2 h0 h1 h2 h3 m0 m1 m2 m3
          go_region
          go_wp2
          go_ret
          rw [HN.out.1, ← HV.out]
          exact ⟨rfl, (flip_end HH.out.1 HH.out.2.2.2.1 HH.out.2.2.2.2.2.2.1 HH.out.2.2.2.2.2.1 HH.out.2.2.2.2.1 H7.out HM.out.2 HN.out.2.1).before (Below.refl _ _).drew⟩
      · have d0 : (x.f0 != n) = true := by simpa using hxn
        have HN := Aside0.mk (And.intro hlt (show ∀ j : Nat, j < k + 1 → (rd_T52 l (j : Int)).f0 ≠ n from fun j hj => by
          by_cases e : j = k
          · rw [e, ← hx]; exact hxn
          · exact HQ.out j (by omega)))
        clear hfs hsx hxn hx hlt
        subst hA
        go_wp2_with (first | ((with_reducible refine gate_dst (N := 8) rfl ?_); (try (refine gate_guard (by rfl) ?_; dsimp only)); refine box_event ?hg (N := 8) ?hd (cs := #[.int .i64 0, .int .i64 0, .int .i64 0, .string ⟨#[]⟩]) (t := 52) ?hr ?_; (case hd => rfl); (case hg => rfl); (case hr => first | (go_simp; done) | (go_simp; rfl)); intro gc hg w5 hbox hb; obtain ⟨h0, h1, h2, h3, m0, m1, m2, m3⟩ := box_cells hbox; have HY := Aside0.mk (And.intro (HB.out.trans (hb.mono HB.out.size)) (And.intro (show w.heap.size ≤ gc by have := HB.out.size; omega) hbox)); clear hg hbox hb))
        exact ⟨⟨k + 1, HN.out.1, by congr 1, ⟨HN.out.2⟩, ⟨below4 HY.out.1 (g := gc) HY.out.2.1 _ _ _ _⟩⟩, by have := HN.out.1; simp only [intOf]; omega⟩
    · obtain rfl : k = l.length := by omega
      have hfl : flp l n bit = (6, l) := by simp [flp, there_no HQ.out]
      have HN := Aside0.mk hfl
      clear hfl hlt hk
      go_wp2
      go_ret
      rw [HN.out]
      exact ⟨rfl, .same HH.out.1 HB.out⟩
end Go.Proofs.Ytndjhpkpeklgfaa.PPost
