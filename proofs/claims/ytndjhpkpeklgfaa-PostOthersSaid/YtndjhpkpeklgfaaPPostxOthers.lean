/- sextonlaw04.PostOthers: it answers true. -/
import Derived.Test.YtndjhpkpeklgfaaKeep
import Derived.Test.YtndjhpkpeklgfaaSteps5
namespace Go.Proofs.Ytndjhpkpeklgfaa.PPost
open Go Go.RowKit Go.Proofs.YtndjhpkpeklgfaaW.PrintWords Go.Proofs.YtndjhpkpeklgfaaW.PrintLast Go.Proofs.YtndjhpkpeklgfaaW.PrintMore Go.Proofs.Ytndjhpkpeklgfaa.Sl
set_option linter.unusedVariables false
set_option linter.unusedSimpArgs false
set_option maxHeartbeats 4000000 in
set_option maxRecDepth 100000 in
theorem others_long (A0 : Option Addr) (c0 : Nat) (l0 : List S29) (a1 a2 : Int) (w : World) (h : 200 < l0.length) : Calls Try.prog 5 #[.slice A0 l0.length c0, .int .i64 a1, .int .i64 a2] w fun e w' => e = .returned (.bool true) ∧ Below w.heap.size w w' := by
  have h1 : (200 : Int) < (l0.length : Int) := by omega
  clear h
  go_enter Try.func5, Try.ntmps5
  go_wp2_with (first | (go_at_call 8; refine (new_ok 4 _ (by decide) (by decide)).mono ?_; rintro e w1 ⟨p, rfl, hp, hb⟩; have HO := Aside0.mk (Own.made hp hb (Below.refl _ _)); clear hp hb) | (go_at_call 9; refine (twice_calls _).mono ?_; rintro e w6 ⟨rfl, hb⟩; have HT := Aside0.mk (below_step HO.out.below hb); clear hb))
  go_ret
  exact ⟨rfl, HT.out⟩
set_option maxHeartbeats 16000000 in
set_option maxRecDepth 100000 in
theorem others_ok (A0 : Option Addr) (c0 : Nat) (l0 : List S29) (a1 a2 : Int) (w : World) (hr0 : Kd.C k29 w A0 l0.length l0) (h : l0.length ≤ 200) : Calls Try.prog 5 #[.slice A0 l0.length c0, .int .i64 a1, .int .i64 a2] w fun e w' => e = .returned (.bool true) ∧ Below w.heap.size w w' := by
  have hu35 := Try.underlying35
  have h1 : (l0.length : Int) ≤ 200 := by omega
  have HA := Aside0.mk (And.intro hr0 h)
  clear h hr0
  go_enter Try.func5, Try.ntmps5
  go_wp2_with (first | (go_at_call 8; refine (new_ok 4 _ (by decide) (by decide)).mono ?_; rintro e w1 ⟨p, rfl, hp, hb⟩; have HO := Aside0.mk (Own.made hp hb (Below.refl _ _)); clear hp hb))
  go_loopw [50] (fun i wr => ∃ k : Nat, k ≤ l0.length ∧ i = .int .i64 k ∧ ∃ (last : Int) (L : List S52), Aside0 (Own w wr w.heap.size p 4 last L ∧ Fit L last k)) (fun i _ => l0.length - (intOf i).toNat)
  case atStart => exact ⟨0, Nat.zero_le _, rfl, 0, [], ⟨HO.out, Fit.nil⟩⟩
  case round =>
    obtain ⟨k, hk, rfl, last, L, HI⟩ := hrel
    by_cases hlt : k < l0.length
    · have hltI : (k : Int) < (l0.length : Int) := by omega
      obtain ⟨ad, hA, x0, x1, x2, x3, x4⟩ := at_T29 (Kd.C_below HA.out.1 HI.out.1.below) (k : Int) (by omega) hltI
      simp only [Int.toNat_natCast] at x0 x1 x2 x3 x4
      generalize rd_T29 l0 (k : Int) = x at *
      have HN := Aside0.mk hlt
      clear hlt
      subst hA
      go_wp2_with (first | ((with_reducible refine gate_dst (N := 10) rfl ?_); (try (refine gate_guard (by rfl) ?_; dsimp only)); refine box_event ?hg (N := 10) ?hd (cs := #[.int .i64 0, .int .i64 0, .int .i64 0, .int .i64 0, .string ⟨#[]⟩]) (t := 29) ?hr ?_; (case hd => rfl); (case hg => rfl); (case hr => first | (go_simp; done) | (go_simp; rfl)); intro gb hg w5 hbox hb; obtain ⟨g0, g1, g2, g3, g4, e0, e1, e2, e3, e4⟩ := box5_cells hbox; have n2 := Aside0.mk (And.intro hg (And.intro hb hbox)); have HX := n2; clear n2 hb hg hbox) | (go_at_call 10; refine (own_send (HI.out.1.step (below5 HX.out.2.1 (by have := HX.out.1; omega) _ _ _ _ _)) (by have := HI.out.2.len; have := HA.out.2; have := HN.out; omega) HI.out.2.last0 (by have := HI.out.2.lastk; have := HA.out.2; have := HN.out; omega) x.f1 x.f2 x.f4).mono ?_; rintro e w6 ⟨rfl, ho⟩; have HJ := Aside0.mk ho; clear ho))
      exact ⟨⟨k + 1, HN.out, by congr 1, _, _, ⟨HJ.out, HI.out.2.snd (by have := HA.out.2; have := HN.out; omega) _ _ _ _⟩⟩, by have := HN.out; simp only [intOf]; omega⟩
    · obtain rfl : k = l0.length := by omega
      clear hlt hk
      obtain ⟨ns, hns⟩ : ∃ ns, ns = nums L := ⟨_, rfl⟩
      have hnl : (ns.length : Int) ≤ 200 := by rw [hns, nums, List.length_map]; have := HI.out.2.len; have := HA.out.2; omega
      have HL := Aside0.mk (And.intro hns (And.intro (show L.length ≤ 200 by have := HI.out.2.len; have := HA.out.2; omega) (show ns.length = L.length by rw [hns, nums, List.length_map])))
      clear hns
      go_wp2_with (first | (go_at_call 15; refine (lay_waiting HI.out.1 (by have := HL.out.2.1; omega)).mono ?_; rw [← HL.out.1]; rintro e w7 ⟨A1, c1, lo, rfl, hR, hy, hlo⟩; have HY := Aside0.mk (And.intro hy (And.intro hR hlo)); clear hy hR hlo))
      go_loopw [12, 67] (fun ov i wr => ∃ k : Nat, k ≤ ns.length ∧ i = .int .i64 k ∧ Aside0 (Kd.R k35 35 wr w7.heap.size (fun _ => True) ov (L.take k)) ∧ Aside0 (Below w7.heap.size w7 wr)) (fun _ i _ => ns.length - (intOf i).toNat)
      case atStart => exact ⟨0, Nat.zero_le _, rfl, ⟨Kd.R_nil _ _ _ _ _⟩, ⟨Below.refl _ _⟩⟩
      case round =>
        obtain ⟨k, hk, rfl, HR, HB⟩ := hrel
        by_cases hlt : k < ns.length
        · have hltI : (k : Int) < (ns.length : Int) := by omega
          have hltL : k < L.length := by have := HL.out.2.2; omega
          obtain ⟨ad, hA, x0⟩ := Kd.at_int (Kd.C_below (Kd.R_reads' HY.out.2.1).2.2 HB.out) (k : Int) (by omega) hltI
          simp only [Int.toNat_natCast] at x0
          rw [HL.out.1, rd_nums hltL] at x0
          have hsee := see_at HI.out.2.up hltL
          have hsn := take_snoc L k hltL
          generalize rd_T52 L (k : Int) = x at *
          have HN := Aside0.mk (And.intro hlt (And.intro hsn hsee))
          clear hlt hsn hsee hltL
          subst hA
          go_wp2_with (first | ((with_reducible refine gate_dst (N := 15) rfl ?_); (try (refine gate_guard (by rfl) ?_; dsimp only)); refine box_event ?hg (N := 15) ?hd (cs := #[.int .i64 0, .int .i64 0, .int .i64 0, .string ⟨#[]⟩]) (t := 35) ?hr ?_; (case hd => rfl); (case hg => rfl); (case hr => first | (go_simp; done) | (go_simp; rfl)); intro gb hg w5 hbox hb; obtain ⟨g0, g1, g2, g3, e0, e1, e2, e3⟩ := box_cells hbox; have n2 := Aside0.mk (And.intro hg (And.intro hb hbox)); have HX := n2; clear n2 hb hg hbox) | (go_at_call 14; refine (own_see ((HY.out.1.step HB.out).own) (by have := HL.out.2.1; omega) x.f0).mono ?_; rw [HN.out.2.2]; rintro e w6 ⟨rfl, ho, hb⟩; have HC := Aside0.mk (HB.out.trans (hb.mono HB.out.size)); have HD := Aside0.mk hb; clear ho hb) | (at_builtin; refine Kd.R_append (W := (((w5.setCell ⟨gb, 0, none⟩ (.int .i64 x.f0)).setCell ⟨gb, 1, none⟩ (.int .i64 x.f1)).setCell ⟨gb, 2, none⟩ (.int .i64 x.f2)).setCell ⟨gb, 3, none⟩ (.string x.f3)) k35 (w0 := w7) w7.heap.size rfl (.tmp 77) (.tmp 79) 43 35 (.agg #[(.int .i64 0), (.int .i64 0), (.int .i64 0), (.string ⟨#[]⟩)]) 40 rfl Try.underlying43 info35 rfl (by decide) (by decide) u12 (L.take k) x [.int .i64 x.f0, .int .i64 x.f1, .int .i64 x.f2, .string x.f3] (fun _ => True) (fun _ => False) ?e1 ?e2 (k35_mkM _ _ _ _) (fun _ h => h.elim) (fun _ _ => trivial) ?sO ?sB ?sS ?sL ?_; (case e1 => simp [Act.eval, Act.put]); (case e2 => simp [Act.eval, Act.put, World.setCell]); (case sO => exact Kd.R_below HR.out (HD.out.trans ((below4 HX.out.2.1 (by have := HX.out.1; omega) _ _ _ _).mono HD.out.size))); (case sB => exact HC.out.trans ((below4 HX.out.2.1 (by have := HX.out.1; omega) _ _ _ _).mono HC.out.size)); (case sS => exact (HC.out.trans ((below4 HX.out.2.1 (by have := HX.out.1; omega) _ _ _ _).mono HC.out.size)).size); (case sL => simp only [List.length_take]; omega); intro v1 w1 hR1 hB1 _ _; have HR1 := Aside0.mk hR1; have HB1 := Aside0.mk hB1; clear hR1 hB1))
          exact ⟨⟨k + 1, HN.out.1, by congr 1, ⟨by rw [HN.out.2.1]; exact HR1.out⟩, HB1⟩, by have := HN.out.1; simp only [intOf]; omega⟩
        · obtain rfl : k = ns.length := by omega
          rw [HL.out.2.2, List.take_length] at HR
          obtain ⟨w8, hk0, hlo, hrn, A2, c2, rfl, hr8, hA2⟩ := keep_all (HY.out.1.step HB.out) HY.out.2.2 (Kd.R_below HY.out.2.1 HB.out) HR.out
          have hlen0 := HA.out.2
          have hP := others HI.out.2 (k := l0.length) (by omega) a1 a2
          have F1 := HI.out.2.flp a1 a2
          have F2 : Fit (aft last L a1 a2) (agn last (flp L a1 a2).2 a1).2.2.1 (l0.length + 1) := F1.agn (by omega) a1
          have F3 := F2.tak a1
          obtain ⟨L3, hL3⟩ : ∃ L3, L3 = tak (aft last L a1 a2) a1 := ⟨_, rfl⟩
          obtain ⟨y, hy⟩ : ∃ y, y = see (aft last L a1 a2) a1 := ⟨_, rfl⟩
          obtain ⟨last3, hlast3⟩ : ∃ x, x = (agn last (flp L a1 a2).2 a1).2.2.1 := ⟨_, rfl⟩
          rw [← hL3, ← hy] at hP
          rw [← hL3, ← hlast3] at F3
          rw [← hlast3] at F2
          have HK0 := Aside0.mk hk0
          have HV := Aside0.mk (And.intro hL3 (And.intro hy hlast3))
          have HP := Aside0.mk hP
          have HF := Aside0.mk (And.intro F1 (And.intro F2 (And.intro F3 HI.out.2)))
          have HW := Aside0.mk (And.intro hlo (And.intro hrn (And.intro hr8 hA2)))
          have hlen : (flp L a1 a2).2.length ≤ 2048 := by have := F1.len; omega
          have hlen2 : (aft last L a1 a2).length ≤ 2048 := by have := F2.len; omega
          have hlen3 : L3.length ≤ 2048 := by have := F3.len; omega
          have hlast : last < 1000000000000000000 := by have := F1.lastk; omega
          have HE := Aside0.mk (And.intro hlen (And.intro hlen2 (And.intro hlen3 hlast)))
          clear hlo hrn hr8 hA2 hP F1 F2 F3 hL3 hy hlast3 hk0 hlen hlen2 hlen3 hlast hlen0 hlt hk HB HR
          go_wp2_with (first | (go_at_call 13; refine (kep_flip HK0.out (by have := HL.out.2.1; omega) HF.out.2.2.2.body a1 a2).mono ?_; rintro e w9 ⟨rfl, ho⟩; have HK1 := Aside0.mk ho; clear ho) | (go_at_call 11; refine (kep_again HK1.out HE.out.1 HF.out.1.last0 HE.out.2.2.2 a1).mono ?_; rw [← HV.out.2.2]; rintro e w10 ⟨rfl, ho⟩; have HK2 := Aside0.mk (show Kep w w10 w.heap.size p 4 last3 (aft last L a1 a2) w8 lo from ho); clear ho) | (go_at_call 12; refine (kep_take HK2.out HE.out.2.1 a1).mono ?_; rw [← HV.out.2.1, ← HV.out.1]; rintro e w11 ⟨rfl, ho⟩; have HK3 := Aside0.mk ho; clear ho) | ((with_reducible refine gate_dst (N := 17) rfl ?_); (try (refine gate_guard (by rfl) ?_; dsimp only)); refine box_event ?hg (N := 17) ?hd (cs := #[.int .i64 0, .int .i64 0, .int .i64 0, .string ⟨#[]⟩]) (t := 35) ?hr ?_; (case hd => rfl); (case hg => rfl); (case hr => first | (go_simp; done) | (go_simp; rfl)); intro gb hg w5 hbox hb; obtain ⟨g0, g1, g2, g3, e0, e1, e2, e3⟩ := box_cells hbox; have n2 := Aside0.mk (And.intro hg (And.intro hb hbox)); have HX := n2; clear n2 hb hg hbox))
          have HK4 := Aside0.mk (HK3.out.step (below4 (g := gb) HX.out.2.1 (by have := HX.out.1; omega) (.int .i64 y.1.f0) (.int .i64 y.1.f1) (.int .i64 y.1.f2) (.string y.1.f3)))
          go_loopw [19, 97] (fun g i wr => ∃ k : Nat, k ≤ ns.length ∧ i = .int .i64 k ∧ g = .int .i64 (got L a1 k) ∧ Aside0 (Kep w wr w.heap.size p 4 last3 L3 w8 lo)) (fun _ i _ => ns.length - (intOf i).toNat)
          case atStart => exact ⟨0, Nat.zero_le _, rfl, by rw [got, if_neg (by omega)], HK4⟩
          case round =>
            obtain ⟨k, hk, rfl, rfl, HQ⟩ := hrel
            by_cases hlt : k < ns.length
            · have hltI : (k : Int) < (ns.length : Int) := by omega
              have hltL : k < L.length := by have := HL.out.2.2; omega
              obtain ⟨ad, hA, x0⟩ := Kd.at_int (Kd.R_reads' (HQ.out.row HW.out.2.1)).2.2 (k : Int) (by omega) hltI
              simp only [Int.toNat_natCast] at x0
              rw [HL.out.1, rd_nums hltL] at x0
              obtain ⟨hP1, hP2⟩ := HP.out.2 k hltL
              have hg1 := got_at HF.out.2.2.2.up hltL
              have hg2 := got_ne (n := a1) hltL
              obtain ⟨x, hx⟩ : ∃ x, x = rd_T52 L (k : Int) := ⟨_, rfl⟩
              rw [← hx] at x0 hP1 hP2 hg1 hg2
              by_cases hxe : x.f0 = a1
              · have e1 : (x.f0 == a1) = true := by simp [hxe]
                obtain ⟨hs6, hth, _⟩ := hP1 hxe
                have hz0 : (y.2 != 0) = false := by rw [HP.out.1, if_pos hth]; rfl
                have hgk : got L a1 k = 0 := by rw [← hxe]; exact hg1.1
                have hgk1 : got L a1 (k + 1) = 1 := by rw [← hxe]; exact hg1.2
                rw [hgk]
                obtain ⟨z, hz⟩ : ∃ z, z = see L3 x.f0 := ⟨_, rfl⟩
                rw [← hz] at hs6
                have HN := Aside0.mk (And.intro hlt (And.intro hgk1 (And.intro hz hs6)))
                clear hlt hg1 hg2 hP1 hP2 hx hxe hs6 hth hgk hgk1 hz hltL
                subst hA
                go_wp2_with (first | ((with_reducible refine gate_dst (N := 22) rfl ?_); (try (refine gate_guard (by rfl) ?_; dsimp only)); refine box_event ?hg (N := 22) ?hd (cs := #[.int .i64 0, .int .i64 0, .int .i64 0, .string ⟨#[]⟩]) (t := 35) ?hr ?_; (case hd => rfl); (case hg => rfl); (case hr => first | (go_simp; done) | (go_simp; rfl)); intro gbz hg w5z hbox hb; obtain ⟨g0z, g1z, g2z, g3z, e0z, e1z, e2z, e3z⟩ := box_cells hbox; have n2 := Aside0.mk (And.intro hg (And.intro hb hbox)); have HXz := n2; clear n2 hb hg hbox) | (go_at_call 14; refine (kep_see HQ.out HE.out.2.2.1 x.f0).mono ?_; rw [← HN.out.2.2.1, HN.out.2.2.2]; rintro e w12 ⟨rfl, ho, _⟩; have HQ1 := Aside0.mk ho; clear ho))
                exact ⟨⟨k + 1, HN.out.1, by congr 1, by rw [HN.out.2.1], ⟨HQ1.out.step (below4 (g := gbz) HXz.out.2.1 (by have := HXz.out.1; omega) _ _ _ _)⟩⟩, by have := HN.out.1; simp only [intOf]; omega⟩
              · have e1 : (x.f0 == a1) = false := by simpa using hxe
                have hse := hP2 hxe
                have hgk := hg2 hxe
                have HN := Aside0.mk (And.intro hlt (And.intro hgk (And.intro hse (And.intro hltL hx))))
                have teq := ne_same x
                clear hlt hg1 hg2 hP1 hP2 hx hxe hse hgk hltL
                subst hA
                go_wp2_with (first | ((with_reducible refine gate_dst (N := 22) rfl ?_); (try (refine gate_guard (by rfl) ?_; dsimp only)); refine box_event ?hg (N := 22) ?hd (cs := #[.int .i64 0, .int .i64 0, .int .i64 0, .string ⟨#[]⟩]) (t := 35) ?hr ?_; (case hd => rfl); (case hg => rfl); (case hr => first | (go_simp; done) | (go_simp; rfl)); intro gbz hg w5z hbox hb; obtain ⟨g0z, g1z, g2z, g3z, e0z, e1z, e2z, e3z⟩ := box_cells hbox; have n2 := Aside0.mk (And.intro hg (And.intro hb hbox)); have HXz := n2; clear n2 hb hg hbox) | (go_at_call 14; refine (kep_see HQ.out HE.out.2.2.1 x.f0).mono ?_; rw [HN.out.2.2.1]; rintro e w12 ⟨rfl, ho, _⟩; have HQ1 := Aside0.mk ho; clear ho))
                obtain ⟨W, hW⟩ : ∃ W, W = ((((w5z.setCell ⟨gbz, 0, none⟩ (.int .i64 x.f0)).setCell ⟨gbz, 1, none⟩ (.int .i64 x.f1)).setCell ⟨gbz, 2, none⟩ (.int .i64 x.f2)).setCell ⟨gbz, 3, none⟩ (.string x.f3)) := ⟨_, rfl⟩
                have hbx := put4 HXz.out.2.2 (.int .i64 x.f0) (.int .i64 x.f1) (.int .i64 x.f2) (.string x.f3)
                have hkw := HQ1.out.step (below4 (g := gbz) HXz.out.2.1 (by have := HXz.out.1; omega) (.int .i64 x.f0) (.int .i64 x.f1) (.int .i64 x.f2) (.string x.f3))
                rw [← hW] at hbx hkw
                rw [← hW]
                clear hW g0z g1z g2z g3z e0z e1z e2z e3z
                obtain ⟨q0, q1, q2, q3, r0, r1, r2, r3⟩ := box_cells hbx
                obtain ⟨ad2, rfl, y0, y1, y2, y3⟩ := at_T52 (Kd.R_reads' (hkw.row' HW.out.1 HW.out.2.2.1)).2.2 (k : Int) (by omega) (by have := HN.out.2.2.2.1; omega)
                rw [← HN.out.2.2.2.2] at y0 y1 y2 y3
                simp only [Int.toNat_natCast] at y0 y1 y2 y3
                have hk3 : (k : Int) < (L.length : Int) := by have := HN.out.2.2.2.1; omega
                have HKW := Aside0.mk hkw
                clear hkw hbx
                go_region
                go_wp2
                exact ⟨⟨k + 1, HN.out.1, by congr 1, by rw [HN.out.2.1], ⟨HKW.out.step (Below.refl _ _).drew⟩⟩, by have := HN.out.1; simp only [intOf]; omega⟩
            · obtain rfl : k = ns.length := by omega
              have hg := got_all L a1
              rw [← HL.out.2.2] at hg
              have hy2 := HP.out.1
              by_cases hth : there L a1 = true
              · rw [if_pos hth] at hg hy2
                rw [hg]
                have e1 : (y.2 == 0) = true := by simp [hy2]
                clear hlt hk hg hy2
                go_wp2_with (first | (go_at_call 9; refine (twice_calls _).mono ?_; rintro e w6 ⟨rfl, hb⟩; have HT := Aside0.mk (below_step HQ.out.below hb); clear hb))
                go_ret
                exact ⟨rfl, HT.out⟩
              · rw [if_neg hth] at hg hy2
                rw [hg]
                have e1 : (y.2 == 0) = false := by simp [hy2]
                clear hlt hk hg hy2
                go_wp2_with (first | (go_at_call 9; refine (twice_calls _).mono ?_; rintro e w6 ⟨rfl, hb⟩; have HT := Aside0.mk (below_step HQ.out.below hb); clear hb))
                go_ret
                exact ⟨rfl, HT.out⟩
def sextonlaw04_PostOthers.f (l0 : List S29) (a1 a2 : Int) : Option Bool := some true
theorem sextonlaw04_PostOthers.calls (A0 : Option Addr) (c0 : Nat) (l0 : List S29) (a1 a2 : Int) (r : Bool) (w : World) (hr0 : Kd.C k29 w A0 l0.length l0) (hc0 : l0.length ≤ c0) (h : sextonlaw04_PostOthers.f l0 a1 a2 = some r) :
    Calls Try.prog 5 #[.slice A0 l0.length c0, .int .i64 a1, .int .i64 a2] w fun e w' => e = .returned (.bool r) ∧ Below w.heap.size w w' := by
  obtain rfl := Option.some.inj h
  by_cases hl : l0.length ≤ 200
  · exact others_ok A0 c0 l0 a1 a2 w hr0 hl
  · exact others_long A0 c0 l0 a1 a2 w (by omega)
end Go.Proofs.Ytndjhpkpeklgfaa.PPost
