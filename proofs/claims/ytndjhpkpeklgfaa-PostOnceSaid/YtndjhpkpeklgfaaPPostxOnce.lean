/- sextonlaw04.PostOnce: it answers true. -/
import Derived.Test.YtndjhpkpeklgfaaTrioCalls
namespace Go.Proofs.Ytndjhpkpeklgfaa.PPost
open Go Go.RowKit Go.Proofs.YtndjhpkpeklgfaaW.PrintWords Go.Proofs.YtndjhpkpeklgfaaW.PrintLast Go.Proofs.YtndjhpkpeklgfaaW.PrintMore Go.Proofs.Ytndjhpkpeklgfaa.Sl
set_option linter.unusedVariables false
set_option linter.unusedSimpArgs false
set_option maxHeartbeats 4000000 in
set_option maxRecDepth 100000 in
theorem once_long (A0 : Option Addr) (c0 : Nat) (l0 : List S29) (w : World) (h : 300 < l0.length) : Calls Try.prog 3 #[.slice A0 l0.length c0] w fun e w' => e = .returned (.bool true) ∧ Below w.heap.size w w' := by
  have h1 : (300 : Int) < (l0.length : Int) := by omega
  clear h
  go_enter Try.func3, Try.ntmps3
  go_wp2_with (first | (go_at_call 8; refine (new_ok 4 _ (by decide) (by decide)).mono ?_; rintro e w1 ⟨p, rfl, hp, hb⟩; have HO := Aside0.mk (And.intro hp hb); clear hp hb) | (go_at_call 9; refine (twice_calls _).mono ?_; rintro e w6 ⟨rfl, hb⟩; have HT := Aside0.mk (below_step HO.out.2 hb); clear hb))
  go_ret
  exact ⟨rfl, HT.out⟩
set_option maxHeartbeats 16000000 in
set_option maxRecDepth 100000 in
theorem once_ok (A0 : Option Addr) (c0 : Nat) (l0 : List S29) (w : World) (hr0 : Kd.C k29 w A0 l0.length l0) (h : l0.length ≤ 300) : Calls Try.prog 3 #[.slice A0 l0.length c0] w fun e w' => e = .returned (.bool true) ∧ Below w.heap.size w w' := by
  have hu35 := Try.underlying35
  have h1 : (l0.length : Int) ≤ 300 := by omega
  have HA := Aside0.mk (And.intro hr0 h)
  clear h hr0
  go_enter Try.func3, Try.ntmps3
  go_wp2_with (first | (go_at_call 8; refine (new_ok 4 _ (by decide) (by decide)).mono ?_; rintro e w1 ⟨p, rfl, hp, hb⟩; have HO := Aside0.mk (And.intro hp hb); clear hp hb))
  have HS := Aside0.mk (Trio.start HO.out.1 HO.out.2.size (lit29 w1 w.heap.size HO.out.2.size) (World.grownBy_alloc w1 _ none) (HO.out.2.alloc HO.out.2.size _) ⟨w1.heap.size, by simp [Value.ownBlock], Nat.le_refl _⟩)
  go_loopw [5, 6, 46] (fun bv tv i wr => ∃ k : Nat, k ≤ l0.length ∧ i = .int .i64 k ∧ ∃ (o : Option Nat) (last : Int) (L : List S52) (bodies : List S29) (taken : List Int), Aside0 (Trio (fun _ => False) w wr w.heap.size p o last L bv bodies tv taken ∧ Once k last L bodies taken)) (fun _ _ i _ => l0.length - (intOf i).toNat)
  case atStart => exact ⟨0, Nat.zero_le _, rfl, none, 0, [], [z29], [], ⟨HS.out, Once.start⟩⟩
  case round =>
    obtain ⟨k, hk, rfl, o, last, L, bodies, taken, HI⟩ := hrel
    by_cases hlt : k < l0.length
    · have hltI : (k : Int) < (l0.length : Int) := by omega
      obtain ⟨ad, hA, x0, x1, x2, x3, x4⟩ := at_T29 (Kd.C_below HA.out.1 HI.out.1.below) (k : Int) (by omega) hltI
      simp only [Int.toNat_natCast] at x0 x1 x2 x3 x4
      generalize rd_T29 l0 (k : Int) = x at *
      obtain ⟨A1, c1, rfl⟩ := Kd.R_slice HI.out.1.rb
      obtain ⟨A2, c2, rfl⟩ := Kd.R_slice HI.out.1.rt
      have HM := Aside0.mk (And.intro (show L.length ≤ 2048 by have := HI.out.2.fit.len; have := HA.out.2; omega) (And.intro HI.out.2.fit.last0 (show last < 1000000000000000000 by have := HI.out.2.fit.lastk; have := HA.out.2; omega)))
      have HN := Aside0.mk (And.intro hlt (show bodies.length ≤ 1000 by have := HI.out.2.len; have := HI.out.2.fit.lastk; have := HA.out.2; omega))
      have hN : k < 300 := by have := HA.out.2; omega
      clear hlt hk
      subst hA
      by_cases h0 : x.f0 = 0
      · have b0 : (x.f0 == 0) = true := by simp [h0]
        clear h0
        rcases snd_cases HI.out.2.fit (by have := HN.out; omega) 4 x.f1 x.f2 x.f4 with ⟨c, hc, hs⟩ | ⟨hs, hsz⟩
        · have d0 : (c == 0) = false := by simpa using hc
          have HQ := Aside0.mk hs
          clear hs hc
          go_wp2_with (first | ((with_reducible refine gate_dst (N := 8) rfl ?_); (try (refine gate_guard (by rfl) ?_; dsimp only)); refine box_event ?hg (N := 8) ?hd (cs := #[.int .i64 0, .int .i64 0, .int .i64 0, .int .i64 0, .string ⟨#[]⟩]) (t := 29) ?hr ?_; (case hd => rfl); (case hg => rfl); (case hr => first | (go_simp; done) | (go_simp; rfl)); intro gb hg w5 hbox hb; obtain ⟨g0, g1, g2, g3, g4, e0, e1, e2, e3, e4⟩ := box5_cells hbox; have n2 := Aside0.mk (And.intro hg hbox); have n3 := Aside0.mk (HI.out.1.box hb hg (blk_lt hbox)); have HX := n2; have HT := n3; clear n2 n3 hb hg hbox) | (go_at_call 10; refine (trio_send (HT.out.move (kp5 (.inr rfl) (.int .i64 x.f0) (.int .i64 x.f1) (.int .i64 x.f2) (.int .i64 x.f3) (.string x.f4))) HM.out.1 HM.out.2.1 HM.out.2.2 x.f1 x.f2 x.f4).mono ?_; rw [HQ.out]; rintro e w6 ⟨rfl, o6, ht6, hg6⟩; obtain ⟨f0, f1, f2, f3, f4, k0, k1, k2, k3, k4⟩ := box5_cells ((hg6 gb (.inr rfl)).trans (put5 HX.out.2 (.int .i64 x.f0) (.int .i64 x.f1) (.int .i64 x.f2) (.int .i64 x.f3) (.string x.f4))); have HT6 := Aside0.mk ht6; have HG := Aside0.mk ((hg6 gb (.inr rfl)).trans (put5 HX.out.2 (.int .i64 x.f0) (.int .i64 x.f1) (.int .i64 x.f2) (.int .i64 x.f3) (.string x.f4))); clear ht6 hg6))
          exact ⟨⟨k + 1, HN.out.1, by congr 1, _, _, _, _, _, ⟨HT6.out.drop, HI.out.2.mono (by omega)⟩⟩, by have := HN.out.1; simp only [intOf]; omega⟩
        · have d0 : ((last + 1) != (bodies.length : Int)) = false := by rw [HI.out.2.len]; simp
          have HQ := Aside0.mk (And.intro hs hsz)
          clear hs hsz
          go_wp2_with (first | ((with_reducible refine gate_dst (N := 8) rfl ?_); (try (refine gate_guard (by rfl) ?_; dsimp only)); refine box_event ?hg (N := 8) ?hd (cs := #[.int .i64 0, .int .i64 0, .int .i64 0, .int .i64 0, .string ⟨#[]⟩]) (t := 29) ?hr ?_; (case hd => rfl); (case hg => rfl); (case hr => first | (go_simp; done) | (go_simp; rfl)); intro gb hg w5 hbox hb; obtain ⟨g0, g1, g2, g3, g4, e0, e1, e2, e3, e4⟩ := box5_cells hbox; have n2 := Aside0.mk (And.intro hg hbox); have n3 := Aside0.mk (HI.out.1.box hb hg (blk_lt hbox)); have HX := n2; have HT := n3; clear n2 n3 hb hg hbox) | (go_at_call 10; refine (trio_send (HT.out.move (kp5 (.inr rfl) (.int .i64 x.f0) (.int .i64 x.f1) (.int .i64 x.f2) (.int .i64 x.f3) (.string x.f4))) HM.out.1 HM.out.2.1 HM.out.2.2 x.f1 x.f2 x.f4).mono ?_; rw [HQ.out.1]; rintro e w6 ⟨rfl, o6, ht6, hg6⟩; obtain ⟨f0, f1, f2, f3, f4, k0, k1, k2, k3, k4⟩ := box5_cells ((hg6 gb (.inr rfl)).trans (put5 HX.out.2 (.int .i64 x.f0) (.int .i64 x.f1) (.int .i64 x.f2) (.int .i64 x.f3) (.string x.f4))); have HT6 := Aside0.mk ht6; have HG := Aside0.mk ((hg6 gb (.inr rfl)).trans (put5 HX.out.2 (.int .i64 x.f0) (.int .i64 x.f1) (.int .i64 x.f2) (.int .i64 x.f3) (.string x.f4))); clear ht6 hg6) | (at_builtin; refine Kd.R_append (W := w6) k29 (w0 := w) w.heap.size rfl (.tmp 138) (.tmp 140) 22 29 (.agg #[(.int .i64 0), (.int .i64 0), (.int .i64 0), (.int .i64 0), (.string ⟨#[]⟩)]) 48 rfl Try.underlying22 info29 rfl (by decide) (by decide) (.slice A1 bodies.length c1) bodies x [.int .i64 x.f0, .int .i64 x.f1, .int .i64 x.f2, .int .i64 x.f3, .string x.f4] (fun _ => True) (fun _ => False) ?e1 ?e2 (k29_mkM _ _ _ _) (fun _ h => h.elim) (fun _ _ => trivial) HT6.out.rb HT6.out.below HT6.out.size0 ?sL ?_; (case e1 => simp [Act.eval, Act.put]); (case e2 => simp [Act.eval, Act.put, World.setCell]); (case sL => have := HN.out.2; omega); intro v1 w7 hR1 hB1 hg1 ho1; have HT7 := Aside0.mk (Trio.grow_b HT6.out hR1 hB1 hg1 ho1); clear hR1 hB1 hg1 ho1))
          exact ⟨⟨k + 1, HN.out.1, by congr 1, _, _, _, _, _, ⟨HT7.out.1.drop, HI.out.2.snoc x.f1 x.f2 x.f4 HQ.out.2 x rfl rfl rfl⟩⟩, by have := HN.out.1; simp only [intOf]; omega⟩
      · by_cases h1 : x.f0 = 1
        · have b0 : (x.f0 == 0) = false := by simpa using h0
          have b1 : (x.f0 == 1) = true := by simp [h1]
          clear h0 h1
          rcases snd_cases HI.out.2.fit (by have := HN.out; omega) 4 x.f1 x.f2 x.f4 with ⟨c, hc, hs⟩ | ⟨hs, hsz⟩
          · have d0 : (c == 0) = false := by simpa using hc
            have HQ := Aside0.mk hs
            clear hs hc
            go_wp2_with (first | ((with_reducible refine gate_dst (N := 8) rfl ?_); (try (refine gate_guard (by rfl) ?_; dsimp only)); refine box_event ?hg (N := 8) ?hd (cs := #[.int .i64 0, .int .i64 0, .int .i64 0, .int .i64 0, .string ⟨#[]⟩]) (t := 29) ?hr ?_; (case hd => rfl); (case hg => rfl); (case hr => first | (go_simp; done) | (go_simp; rfl)); intro gb hg w5 hbox hb; obtain ⟨g0, g1, g2, g3, g4, e0, e1, e2, e3, e4⟩ := box5_cells hbox; have n2 := Aside0.mk (And.intro hg hbox); have n3 := Aside0.mk (HI.out.1.box hb hg (blk_lt hbox)); have HX := n2; have HT := n3; clear n2 n3 hb hg hbox) | (go_at_call 10; refine (trio_send (HT.out.move (kp5 (.inr rfl) (.int .i64 x.f0) (.int .i64 x.f1) (.int .i64 x.f2) (.int .i64 x.f3) (.string x.f4))) HM.out.1 HM.out.2.1 HM.out.2.2 x.f1 x.f2 x.f4).mono ?_; rw [HQ.out]; rintro e w6 ⟨rfl, o6, ht6, hg6⟩; obtain ⟨f0, f1, f2, f3, f4, k0, k1, k2, k3, k4⟩ := box5_cells ((hg6 gb (.inr rfl)).trans (put5 HX.out.2 (.int .i64 x.f0) (.int .i64 x.f1) (.int .i64 x.f2) (.int .i64 x.f3) (.string x.f4))); have HT6 := Aside0.mk ht6; have HG := Aside0.mk ((hg6 gb (.inr rfl)).trans (put5 HX.out.2 (.int .i64 x.f0) (.int .i64 x.f1) (.int .i64 x.f2) (.int .i64 x.f3) (.string x.f4))); clear ht6 hg6))
            exact ⟨⟨k + 1, HN.out.1, by congr 1, _, _, _, _, _, ⟨HT6.out.drop, HI.out.2.mono (by omega)⟩⟩, by have := HN.out.1; simp only [intOf]; omega⟩
          · have d0 : ((last + 1) != (bodies.length : Int)) = false := by rw [HI.out.2.len]; simp
            have HQ := Aside0.mk (And.intro hs hsz)
            clear hs hsz
            go_wp2_with (first | ((with_reducible refine gate_dst (N := 8) rfl ?_); (try (refine gate_guard (by rfl) ?_; dsimp only)); refine box_event ?hg (N := 8) ?hd (cs := #[.int .i64 0, .int .i64 0, .int .i64 0, .int .i64 0, .string ⟨#[]⟩]) (t := 29) ?hr ?_; (case hd => rfl); (case hg => rfl); (case hr => first | (go_simp; done) | (go_simp; rfl)); intro gb hg w5 hbox hb; obtain ⟨g0, g1, g2, g3, g4, e0, e1, e2, e3, e4⟩ := box5_cells hbox; have n2 := Aside0.mk (And.intro hg hbox); have n3 := Aside0.mk (HI.out.1.box hb hg (blk_lt hbox)); have HX := n2; have HT := n3; clear n2 n3 hb hg hbox) | (go_at_call 10; refine (trio_send (HT.out.move (kp5 (.inr rfl) (.int .i64 x.f0) (.int .i64 x.f1) (.int .i64 x.f2) (.int .i64 x.f3) (.string x.f4))) HM.out.1 HM.out.2.1 HM.out.2.2 x.f1 x.f2 x.f4).mono ?_; rw [HQ.out.1]; rintro e w6 ⟨rfl, o6, ht6, hg6⟩; obtain ⟨f0, f1, f2, f3, f4, k0, k1, k2, k3, k4⟩ := box5_cells ((hg6 gb (.inr rfl)).trans (put5 HX.out.2 (.int .i64 x.f0) (.int .i64 x.f1) (.int .i64 x.f2) (.int .i64 x.f3) (.string x.f4))); have HT6 := Aside0.mk ht6; have HG := Aside0.mk ((hg6 gb (.inr rfl)).trans (put5 HX.out.2 (.int .i64 x.f0) (.int .i64 x.f1) (.int .i64 x.f2) (.int .i64 x.f3) (.string x.f4))); clear ht6 hg6) | (at_builtin; refine Kd.R_append (W := w6) k29 (w0 := w) w.heap.size rfl (.tmp 138) (.tmp 140) 22 29 (.agg #[(.int .i64 0), (.int .i64 0), (.int .i64 0), (.int .i64 0), (.string ⟨#[]⟩)]) 48 rfl Try.underlying22 info29 rfl (by decide) (by decide) (.slice A1 bodies.length c1) bodies x [.int .i64 x.f0, .int .i64 x.f1, .int .i64 x.f2, .int .i64 x.f3, .string x.f4] (fun _ => True) (fun _ => False) ?e1 ?e2 (k29_mkM _ _ _ _) (fun _ h => h.elim) (fun _ _ => trivial) HT6.out.rb HT6.out.below HT6.out.size0 ?sL ?_; (case e1 => simp [Act.eval, Act.put]); (case e2 => simp [Act.eval, Act.put, World.setCell]); (case sL => have := HN.out.2; omega); intro v1 w7 hR1 hB1 hg1 ho1; have HT7 := Aside0.mk (Trio.grow_b HT6.out hR1 hB1 hg1 ho1); clear hR1 hB1 hg1 ho1))
            exact ⟨⟨k + 1, HN.out.1, by congr 1, _, _, _, _, _, ⟨HT7.out.1.drop, HI.out.2.snoc x.f1 x.f2 x.f4 HQ.out.2 x rfl rfl rfl⟩⟩, by have := HN.out.1; simp only [intOf]; omega⟩
        · by_cases h4 : x.f0 = 4
          · have b0 : (x.f0 == 0) = false := by simpa using h0
            have b1 : (x.f0 == 1) = false := by simpa using h1
            have b4 : (x.f0 == 4) = true := by simp [h4]
            clear h0 h1 h4
            rcases agn_cases HI.out.2.fit (by have := HN.out; omega) x.f3 with ⟨hth, hs⟩ | ⟨hth, hs⟩
            · have HQ := Aside0.mk hs
              clear hs hth
              go_wp2_with (first | ((with_reducible refine gate_dst (N := 8) rfl ?_); (try (refine gate_guard (by rfl) ?_; dsimp only)); refine box_event ?hg (N := 8) ?hd (cs := #[.int .i64 0, .int .i64 0, .int .i64 0, .int .i64 0, .string ⟨#[]⟩]) (t := 29) ?hr ?_; (case hd => rfl); (case hg => rfl); (case hr => first | (go_simp; done) | (go_simp; rfl)); intro gb hg w5 hbox hb; obtain ⟨g0, g1, g2, g3, g4, e0, e1, e2, e3, e4⟩ := box5_cells hbox; have n2 := Aside0.mk (And.intro hg hbox); have n3 := Aside0.mk (HI.out.1.box hb hg (blk_lt hbox)); have HX := n2; have HT := n3; clear n2 n3 hb hg hbox) | (go_at_call 11; refine (trio_again (HT.out.move (kp5 (.inr rfl) (.int .i64 x.f0) (.int .i64 x.f1) (.int .i64 x.f2) (.int .i64 x.f3) (.string x.f4))) HM.out.1 HM.out.2.1 HM.out.2.2 x.f3).mono ?_; rw [HQ.out]; rintro e w6 ⟨rfl, o6, ht6, hg6⟩; obtain ⟨f0, f1, f2, f3, f4, k0, k1, k2, k3, k4⟩ := box5_cells ((hg6 gb (.inr rfl)).trans (put5 HX.out.2 (.int .i64 x.f0) (.int .i64 x.f1) (.int .i64 x.f2) (.int .i64 x.f3) (.string x.f4))); have HT6 := Aside0.mk ht6; have HG := Aside0.mk ((hg6 gb (.inr rfl)).trans (put5 HX.out.2 (.int .i64 x.f0) (.int .i64 x.f1) (.int .i64 x.f2) (.int .i64 x.f3) (.string x.f4))); clear ht6 hg6))
              exact ⟨⟨k + 1, HN.out.1, by congr 1, _, _, _, _, _, ⟨HT6.out.drop, HI.out.2.mono (by omega)⟩⟩, by have := HN.out.1; simp only [intOf]; omega⟩
            · have d0 : ((last + 1) != (bodies.length : Int)) = false := by rw [HI.out.2.len]; simp
              obtain ⟨ha, hb⟩ := there_ex hth
              obtain ⟨q1, q2⟩ := HI.out.2.fit.bound _ ha
              rw [hb] at q1 q2
              have hlb := HI.out.2.len
              have d1 : ¬ x.f3 < 1 := by omega
              have d2 : ¬ last + 1 ≤ x.f3 := by omega
              have d3 : (0 : Int) ≤ x.f3 := by omega
              have d4 : x.f3 < (bodies.length : Int) := by omega
              obtain ⟨y, hy⟩ : ∃ y, y = rd_T29 bodies x.f3 := ⟨_, rfl⟩
              have HQ := Aside0.mk (And.intro hs (And.intro hth hy))
              clear hs hth ha hb q1 q2 hlb hy
              go_wp2_with (first | ((with_reducible refine gate_dst (N := 8) rfl ?_); (try (refine gate_guard (by rfl) ?_; dsimp only)); refine box_event ?hg (N := 8) ?hd (cs := #[.int .i64 0, .int .i64 0, .int .i64 0, .int .i64 0, .string ⟨#[]⟩]) (t := 29) ?hr ?_; (case hd => rfl); (case hg => rfl); (case hr => first | (go_simp; done) | (go_simp; rfl)); intro gb hg w5 hbox hb; obtain ⟨g0, g1, g2, g3, g4, e0, e1, e2, e3, e4⟩ := box5_cells hbox; have n2 := Aside0.mk (And.intro hg hbox); have n3 := Aside0.mk (HI.out.1.box hb hg (blk_lt hbox)); have HX := n2; have HT := n3; clear n2 n3 hb hg hbox) | (go_at_call 11; refine (trio_again (HT.out.move (kp5 (.inr rfl) (.int .i64 x.f0) (.int .i64 x.f1) (.int .i64 x.f2) (.int .i64 x.f3) (.string x.f4))) HM.out.1 HM.out.2.1 HM.out.2.2 x.f3).mono ?_; rw [HQ.out.1]; rintro e w6 ⟨rfl, o6, ht6, hg6⟩; obtain ⟨f0, f1, f2, f3, f4, k0, k1, k2, k3, k4⟩ := box5_cells ((hg6 gb (.inr rfl)).trans (put5 HX.out.2 (.int .i64 x.f0) (.int .i64 x.f1) (.int .i64 x.f2) (.int .i64 x.f3) (.string x.f4))); have HT6 := Aside0.mk ht6; have HG := Aside0.mk ((hg6 gb (.inr rfl)).trans (put5 HX.out.2 (.int .i64 x.f0) (.int .i64 x.f1) (.int .i64 x.f2) (.int .i64 x.f3) (.string x.f4))); clear ht6 hg6; obtain ⟨ad2, hA2, y0, y1, y2, y3, y4⟩ := at_T29 (Kd.R_reads' HT6.out.rb).2.2 x.f3 d3 d4; rw [← HQ.out.2.2] at y0 y1 y2 y3 y4; subst hA2) | (at_builtin; refine Kd.R_append (W := w6) k29 (w0 := w) w.heap.size rfl (.tmp 168) (.tmp 174) 22 29 (.agg #[(.int .i64 0), (.int .i64 0), (.int .i64 0), (.int .i64 0), (.string ⟨#[]⟩)]) 48 rfl Try.underlying22 info29 rfl (by decide) (by decide) (.slice (some ad2) bodies.length c1) bodies y [.int .i64 y.f0, .int .i64 y.f1, .int .i64 y.f2, .int .i64 y.f3, .string y.f4] (fun _ => True) (fun _ => False) ?e1 ?e2 (k29_mkM _ _ _ _) (fun _ h => h.elim) (fun _ _ => trivial) HT6.out.rb HT6.out.below HT6.out.size0 ?sL ?_; (case e1 => simp [Act.eval, Act.put]); (case e2 => simp [Act.eval, Act.put, World.setCell]); (case sL => have := HN.out.2; omega); intro v1 w7 hR1 hB1 hg1 ho1; have HT7 := Aside0.mk (Trio.grow_b HT6.out hR1 hB1 hg1 ho1); clear hR1 hB1 hg1 ho1))
              exact ⟨⟨k + 1, HN.out.1, by congr 1, _, _, _, _, _, ⟨HT7.out.1.drop, (by rw [HQ.out.2.2]; exact HI.out.2.again HQ.out.2.1)⟩⟩, by have := HN.out.1; simp only [intOf]; omega⟩
          · have b0 : (x.f0 == 0) = false := by simpa using h0
            have b1 : (x.f0 == 1) = false := by simpa using h1
            have b4 : (x.f0 == 4) = false := by simpa using h4
            clear h0 h1 h4
            by_cases hth : there L x.f3 = true
            · obtain ⟨ha, hb⟩ := there_ex hth
              obtain ⟨q1, q2⟩ := HI.out.2.fit.bound _ ha
              have q3 := HI.out.2.sent _ ha
              have hse : see L x.f3 = (rd_T52 L ((place L x.f3 : Nat) : Int), 0) := by rw [see, if_pos hth]
              obtain ⟨z, hz⟩ : ∃ z, z = rd_T52 L ((place L x.f3 : Nat) : Int) := ⟨_, rfl⟩
              rw [← hz] at hb q1 q2 q3 hse
              obtain ⟨y, hy⟩ : ∃ y, y = rd_T29 bodies x.f3 := ⟨_, rfl⟩
              rw [hb] at q3 q1 q2
              rw [← hy] at q3
              have hlb := HI.out.2.len
              have hzz : z = ⟨x.f3, y.f1, y.f2, y.f4⟩ := by rw [q3.1, q3.2.1, q3.2.2, ← hb]
              rw [hzz] at hse
              have d1 : ¬ x.f3 < 1 := by omega
              have d2 : ¬ (bodies.length : Int) ≤ x.f3 := by omega
              have d3 : (0 : Int) ≤ x.f3 := by omega
              have d4 : x.f3 < (bodies.length : Int) := by omega
              have hgo : ∀ i : Nat, i < taken.length → rd taken (i : Int) ≠ x.f3 := by
                intro i hi he
                refine (HI.out.2.gone (rd taken (i : Int)) (by rw [rd_taken hi]; exact List.getElem_mem hi)).2 _ ha ?_
                rw [← hz, hb, he]
              have HQ := Aside0.mk (And.intro hse (And.intro hth (And.intro hy hgo)))
              clear hse hth ha hb q1 q2 q3 hlb hy hz hgo hzz z
              go_wp2_with (first | ((with_reducible refine gate_dst (N := 8) rfl ?_); (try (refine gate_guard (by rfl) ?_; dsimp only)); refine box_event ?hg (N := 8) ?hd (cs := #[.int .i64 0, .int .i64 0, .int .i64 0, .int .i64 0, .string ⟨#[]⟩]) (t := 29) ?hr ?_; (case hd => rfl); (case hg => rfl); (case hr => first | (go_simp; done) | (go_simp; rfl)); intro gb hg w5 hbox hb; obtain ⟨g0, g1, g2, g3, g4, e0, e1, e2, e3, e4⟩ := box5_cells hbox; have n2 := Aside0.mk (And.intro hg hbox); have n3 := Aside0.mk (HI.out.1.box hb hg (blk_lt hbox)); have HX := n2; have HT := n3; clear n2 n3 hb hg hbox) | (go_at_call 12; refine (trio_take (HT.out.move (kp5 (.inr rfl) (.int .i64 x.f0) (.int .i64 x.f1) (.int .i64 x.f2) (.int .i64 x.f3) (.string x.f4))) HM.out.1 HM.out.2.1 HM.out.2.2 x.f3).mono ?_; rw [HQ.out.1]; rintro e w6 ⟨rfl, o6, ht6, hg6⟩; obtain ⟨f0, f1, f2, f3, f4, k0, k1, k2, k3, k4⟩ := box5_cells ((hg6 gb (.inr rfl)).trans (put5 HX.out.2 (.int .i64 x.f0) (.int .i64 x.f1) (.int .i64 x.f2) (.int .i64 x.f3) (.string x.f4))); have HT6 := Aside0.mk ht6; have HG := Aside0.mk ((hg6 gb (.inr rfl)).trans (put5 HX.out.2 (.int .i64 x.f0) (.int .i64 x.f1) (.int .i64 x.f2) (.int .i64 x.f3) (.string x.f4))); clear ht6 hg6) | ((with_reducible refine gate_dst (N := 13) rfl ?_); (try (refine gate_guard (by rfl) ?_; dsimp only)); refine box_event ?hg (N := 13) ?hd (cs := #[.int .i64 0, .int .i64 0, .int .i64 0, .string ⟨#[]⟩]) (t := 35) ?hr ?_; (case hd => rfl); (case hg => rfl); (case hr => first | (go_simp; done) | (go_simp; rfl)); intro gc hg w7 hbox hb; have hgb := HT6.out.gs gb (.inr rfl); have hgb7 := (hb.block gb hgb.1).trans HG.out; obtain ⟨f0, f1, f2, f3, f4, k0, k1, k2, k3, k4⟩ := box5_cells hgb7; obtain ⟨h0, h1, h2, h3, m0, m1, m2, m3⟩ := box_cells hbox; have hn1 : ¬ gb = gc := (by have := hgb.1; omega); have hn2 : ¬ gc = gb := (fun h => hn1 h.symm); have ht7 := HT6.out.box hb hg (blk_lt hbox); have ht7m := ht7.move (kp4 (.inr rfl) (.int .i64 x.f3) (.int .i64 y.f1) (.int .i64 y.f2) (.string y.f4)); obtain ⟨ad2, hA2, y0, y1, y2, y3, y4⟩ := at_T29 (Kd.R_reads' ht7m.rb).2.2 x.f3 d3 d4; rw [← HQ.out.2.2.1] at y0 y1 y2 y3 y4; subst hA2; have HY := Aside0.mk (And.intro hbox hgb7); have HT7 := Aside0.mk ht7; clear hg hbox hb hgb hgb7 ht7 ht7m) | ((with_reducible refine gate_dst (N := 15) rfl ?_); (try (refine gate_guard (by rfl) ?_; dsimp only)); refine box_event ?hg (N := 15) ?hd (cs := #[.int .i64 0, .int .i64 0, .int .i64 0, .int .i64 0, .string ⟨#[]⟩]) (t := 29) ?hr ?_; (case hd => rfl); (case hg => rfl); (case hr => first | (go_simp; done) | (go_simp; rfl)); intro gd hg w8 hbox hb; have hm := HT7.out.move (kp4 (.inr rfl) (.int .i64 x.f3) (.int .i64 y.f1) (.int .i64 y.f2) (.string y.f4)); have hgc := (hb.block gc (hm.gs gc (.inr rfl)).1).trans (put4 HY.out.1 (.int .i64 x.f3) (.int .i64 y.f1) (.int .i64 y.f2) (.string y.f4)); have hgb := (hb.block gb (hm.gs gb (.inl (.inr rfl))).1).trans ((far4 w7 hn1 (.int .i64 x.f3) (.int .i64 y.f1) (.int .i64 y.f2) (.string y.f4)).trans HY.out.2); have hq1 : gb ≠ gd := (by have := (hm.gs gb (.inl (.inr rfl))).1; omega); have hq2 : gc ≠ gd := (by have := (hm.gs gc (.inr rfl)).1; omega); obtain ⟨p0, p1, p2, p3, p4, r0, r1, r2, r3, r4⟩ := box5_cells hbox; have HZ := Aside0.mk (And.intro hbox (And.intro hgb (And.intro hgc (And.intro hq1 hq2)))); have HT8 := Aside0.mk (hm.box hb hg (blk_lt hbox)); clear hg hbox hb hm hgb hgc hq1 hq2))
              have hn5 := HT8.out.move (kp5 (.inr rfl) (.int .i64 y.f0) (.int .i64 y.f1) (.int .i64 y.f2) (.int .i64 y.f3) (.string y.f4))
              have hw1 := (far5 w8 HZ.out.2.2.2.1 (.int .i64 y.f0) (.int .i64 y.f1) (.int .i64 y.f2) (.int .i64 y.f3) (.string y.f4)).trans HZ.out.2.1
              have hw2 := (far5 w8 HZ.out.2.2.2.2 (.int .i64 y.f0) (.int .i64 y.f1) (.int .i64 y.f2) (.int .i64 y.f3) (.string y.f4)).trans HZ.out.2.2.1
              have hw3 := put5 HZ.out.1 (.int .i64 y.f0) (.int .i64 y.f1) (.int .i64 y.f2) (.int .i64 y.f3) (.string y.f4)
              obtain ⟨W, hW⟩ : ∃ W, W = (((((w8.setCell ⟨gd, 0, none⟩ (.int .i64 y.f0)).setCell ⟨gd, 1, none⟩ (.int .i64 y.f1)).setCell ⟨gd, 2, none⟩ (.int .i64 y.f2)).setCell ⟨gd, 3, none⟩ (.int .i64 y.f3)).setCell ⟨gd, 4, none⟩ (.string y.f4)) := ⟨_, rfl⟩
              rw [← hW] at hn5 hw1 hw2 hw3
              rw [← hW]
              clear hW p0 p1 p2 p3 p4 r0 r1 r2 r3 r4 f0 f1 f2 f3 f4 k0 k1 k2 k3 k4 h0 h1 h2 h3 m0 m1 m2 m3 y0 y1 y2 y3 y4 g0 g1 g2 g3 g4 e0 e1 e2 e3 e4 hn1 hn2
              obtain ⟨f0, f1, f2, f3, f4, k0, k1, k2, k3, k4⟩ := box5_cells hw1
              have HT9 := Aside0.mk hn5
              have HW := Aside0.mk (And.intro hw1 (And.intro hw2 hw3))
              clear hn5 hw1 hw2 hw3
              have htl : (taken.length : Int) ≤ 1000 := by have := HI.out.2.lent; omega
              go_loop [17, 85] (fun _ i => ∃ j : Nat, j ≤ taken.length ∧ i = .int .i64 j) (fun _ i => taken.length - (intOf i).toNat)
              case atStart => exact ⟨0, Nat.zero_le _, rfl⟩
              case round =>
                obtain ⟨j, hj, rfl⟩ := hrel
                by_cases hjl : j < taken.length
                · have hjI : (j : Int) < (taken.length : Int) := by omega
                  obtain ⟨ad3, hA3, t0⟩ := Kd.at_int (Kd.R_reads' HT9.out.rt).2.2 (j : Int) (by omega) hjI
                  simp only [Int.toNat_natCast] at t0
                  have hne := HQ.out.2.2.2 j hjl
                  have d8 : (rd taken (j : Int) == x.f3) = false := by simpa using hne
                  have HJ := Aside0.mk hjl
                  clear hne hjl
                  subst hA3
                  go_wp2
                  exact ⟨⟨j + 1, HJ.out, by congr 1⟩, by have := HJ.out; simp only [intOf]; omega⟩
                · obtain rfl : j = taken.length := by omega
                  clear hjl hj
                  go_wp2_with (first | (at_builtin; refine Kd.R_append (W := W) (Kd.int .i64) (w0 := w) w.heap.size rfl (.tmp 94) (.tmp 97) 30 3 (.int .i64 0) 8 rfl Try.underlying30 info3i rfl (by decide) (by decide) (.slice A2 taken.length c2) taken x.f3 [.int .i64 x.f3] (fun _ => True) (fun _ => False) ?e1 ?e2 rfl (fun _ h => h.elim) (fun _ _ => trivial) HT9.out.rt HT9.out.below HT9.out.size0 ?sL ?_; (case e1 => simp [Act.eval, Act.put]); (case e2 => simp [Act.eval, Act.put, World.setCell]); (case sL => have := HI.out.2.lent; omega); intro v1 w9 hR1 hB1 hg1 ho1; have ht := Trio.grow_t HT9.out hR1 hB1 hg1 ho1; obtain ⟨p0, p1, p2, p3, p4, r0, r1, r2, r3, r4⟩ := box5_cells ((ht.2 gd (.inr rfl)).trans HW.out.2.2); obtain ⟨h0, h1, h2, h3, m0, m1, m2, m3⟩ := box_cells ((ht.2 gc (.inl (.inr rfl))).trans HW.out.2.1); have HTA := Aside0.mk ht.1; clear ht hR1 hB1 hg1 ho1))
                  exact ⟨⟨k + 1, HN.out.1, by congr 1, _, _, _, _, _, ⟨HTA.out.drop, HI.out.2.take HQ.out.2.1⟩⟩, by have := HN.out.1; simp only [intOf]; omega⟩
            · have hse : see L x.f3 = (z52, 6) := see_not (by simpa using hth)
              have hta : tak L x.f3 = L := by rw [tak, if_neg hth]
              have HQ := Aside0.mk (And.intro hse hta)
              clear hse hta hth
              go_wp2_with (first | ((with_reducible refine gate_dst (N := 8) rfl ?_); (try (refine gate_guard (by rfl) ?_; dsimp only)); refine box_event ?hg (N := 8) ?hd (cs := #[.int .i64 0, .int .i64 0, .int .i64 0, .int .i64 0, .string ⟨#[]⟩]) (t := 29) ?hr ?_; (case hd => rfl); (case hg => rfl); (case hr => first | (go_simp; done) | (go_simp; rfl)); intro gb hg w5 hbox hb; obtain ⟨g0, g1, g2, g3, g4, e0, e1, e2, e3, e4⟩ := box5_cells hbox; have n2 := Aside0.mk (And.intro hg hbox); have n3 := Aside0.mk (HI.out.1.box hb hg (blk_lt hbox)); have HX := n2; have HT := n3; clear n2 n3 hb hg hbox) | (go_at_call 12; refine (trio_take (HT.out.move (kp5 (.inr rfl) (.int .i64 x.f0) (.int .i64 x.f1) (.int .i64 x.f2) (.int .i64 x.f3) (.string x.f4))) HM.out.1 HM.out.2.1 HM.out.2.2 x.f3).mono ?_; rw [HQ.out.1, HQ.out.2]; rintro e w6 ⟨rfl, o6, ht6, hg6⟩; obtain ⟨f0, f1, f2, f3, f4, k0, k1, k2, k3, k4⟩ := box5_cells ((hg6 gb (.inr rfl)).trans (put5 HX.out.2 (.int .i64 x.f0) (.int .i64 x.f1) (.int .i64 x.f2) (.int .i64 x.f3) (.string x.f4))); have HT6 := Aside0.mk ht6; have HG := Aside0.mk ((hg6 gb (.inr rfl)).trans (put5 HX.out.2 (.int .i64 x.f0) (.int .i64 x.f1) (.int .i64 x.f2) (.int .i64 x.f3) (.string x.f4))); clear ht6 hg6) | ((with_reducible refine gate_dst (N := 13) rfl ?_); (try (refine gate_guard (by rfl) ?_; dsimp only)); refine box_event ?hg (N := 13) ?hd (cs := #[.int .i64 0, .int .i64 0, .int .i64 0, .string ⟨#[]⟩]) (t := 35) ?hr ?_; (case hd => rfl); (case hg => rfl); (case hr => first | (go_simp; done) | (go_simp; rfl)); intro gc hg w7 hbox hb; obtain ⟨h0, h1, h2, h3, l0_, l1_, l2_, l3_⟩ := box_cells hbox; have n3 := Aside0.mk ((HT6.out.box hb hg (blk_lt hbox)).move (kp4 (.inr rfl) (.int .i64 0) (.int .i64 0) (.int .i64 0) (.string ⟨#[]⟩))); have HT8 := n3; clear n3 hb hg hbox))
              exact ⟨⟨k + 1, HN.out.1, by congr 1, _, _, _, _, _, ⟨HT8.out.drop, HI.out.2.mono (by omega)⟩⟩, by have := HN.out.1; simp only [intOf]; omega⟩
    · obtain rfl : k = l0.length := by omega
      clear hlt hk
      go_wp2_with (first | (go_at_call 9; refine (twice_calls _).mono ?_; rintro e w6 ⟨rfl, hb⟩; have HT := Aside0.mk (below_step HI.out.1.below hb); clear hb))
      go_ret
      exact ⟨rfl, HT.out⟩
def sextonlaw04_PostOnce.f (l0 : List S29) : Option Bool := some true
theorem sextonlaw04_PostOnce.calls (A0 : Option Addr) (c0 : Nat) (l0 : List S29) (r : Bool) (w : World) (hr0 : Kd.C k29 w A0 l0.length l0) (hc0 : l0.length ≤ c0) (h : sextonlaw04_PostOnce.f l0 = some r) :
    Calls Try.prog 3 #[.slice A0 l0.length c0] w fun e w' => e = .returned (.bool r) ∧ Below w.heap.size w w' := by
  obtain rfl := Option.some.inj h
  by_cases hl : l0.length ≤ 300
  · exact once_ok A0 c0 l0 w hr0 hl
  · exact once_long A0 c0 l0 w (by omega)
end Go.Proofs.Ytndjhpkpeklgfaa.PPost
