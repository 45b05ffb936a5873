/- AlarmOrder's walk: it answers true, and nothing elder turns. -/
import Derived.Test.YtnenheaijacphaaKept
import Derived.Test.YtnenheaijacphaaRDues
import Derived.Test.YtnenheaijacphaaBoth
import Derived.StillTailTactics
namespace Go.Proofs.Ytnenheaijacphaa.PAlarm
open Go Go.RowKit Go.Maps Go.Proofs.YtnenheaijacphaaW.PrintWords Go.Proofs.YtnenheaijacphaaW.PrintLast Go.Proofs.YtnenheaijacphaaW.PrintMore Go.Proofs.Ytnenheaijacphaa.Sl
set_option linter.unusedVariables false
set_option linter.unusedSimpArgs false

theorem info28 : (Try.prog.info? 28).map (fun i => (i.zero, i.size, i.bytes)) = some (some (.agg #[(.int .i64 0), (.int .i64 0), (.int .i64 0)]), 3, 24) := by kernel_rfl
theorem R_tight28 {e base : Nat} {ok : Nat → Prop} {w : World} {v : Value} {l : List S28} (h : Kd.R k28 e w base ok v l) : Kd.R k28 e w base (fun k => some k = v.ownBlock) v l :=
  Kd.R_flat (fun hx => by obtain rfl := k28_openM hx; exact k28_mkM _ _ _ _) h (fun k hk _ => hk.symm)
theorem rd_get28 {L : List S28} {k : Nat} (h : k < L.length) : rd_T28 L (k : Int) = L[k] := by simp [rd_T28, List.getD_eq_getElem?_getD, List.getElem?_eq_getElem h]
theorem take_snoc28 (L : List S28) (k : Nat) (h : k < L.length) : L.take (k + 1) = L.take k ++ [rd_T28 L (k : Int)] := by
  rw [rd_get28 h, List.take_append_getElem]
theorem seen_snoc (K : List S28) (n : Int) (j : Nat) (h : j < K.length) : seen (K.take (j + 1)) n = (seen (K.take j) n || ((K.map (·.f1))[j]'(by simpa using h) == n)) := by
  unfold seen
  rw [take_snoc28 K j h, rd_get28 h, List.any_append, List.any_cons, List.any_nil, Bool.or_false, List.getElem_map]
theorem due_lenL (L : List S53) (t : Int) : (due L t).1.length ≤ L.length := by
  unfold due
  split
  · simp
  · exact due_len L t
theorem box3c {E : Nat} {w3 : World} {gb : Nat} {a b c : Value} (h : w3.heap[gb]? = some (.cells #[a, b, c] E (0, 0))) :
    w3.cell? ⟨gb, 0, none⟩ = some a ∧ w3.cell? ⟨gb, 1, none⟩ = some b ∧ w3.cell? ⟨gb, 2, none⟩ = some c :=
  ⟨(blk_cell h 0).trans rfl, (blk_cell h 1).trans rfl, (blk_cell h 2).trans rfl⟩
/-- A box that was laid last stays when an elder row grows. -/
theorem box_kept3 {α : Type} {d : Kd α} {e base : Nat} {ok : Nat → Prop} {wr w1 : World} {v : Value} {l : List α} {o : Obj} (hb : (wr.alloc o).heap[wr.heap.size]? = some o) (hR : Kd.R d e (wr.alloc o) base ok v l) (hlt : ∀ k, v.ownBlock = some k → k < wr.heap.size) (hg : (wr.alloc o).grownBy w1 v.ownBlock) : w1.heap[wr.heap.size]? = some o :=
  (hg.block _ (by simp) (fun e => by have := hlt _ e.symm; omega)).trans hb
set_option maxRecDepth 100000 in
theorem order_long (A0 : Option Addr) (c0 : Nat) (l : List S28) (now : Int) (w : World) (h : 200 < l.length) : Calls Try.prog 3 #[.slice A0 l.length c0, .int .i64 now] w fun e w' => e = .returned (.bool true) ∧ Below w.heap.size w w' := by
  have hI : (200 : Int) < (l.length : Int) := by omega
  clear h
  go_enter Try.func3, Try.ntmps3
  go_wp2_with (go_at_call 8; refine (three_calls _).mono ?_; rintro e w3 ⟨rfl, hb⟩; have H3 := Aside0.mk hb; clear hb)
  go_ret
  exact ⟨rfl, H3.out⟩
set_option maxHeartbeats 8000000 in
set_option maxRecDepth 100000 in
theorem order_ok (A0 : Option Addr) (c0 : Nat) (l : List S28) (now : Int) (w : World) (hC : Kd.C k28 w A0 l.length l) (h : l.length ≤ 200) : Calls Try.prog 3 #[.slice A0 l.length c0, .int .i64 now] w fun e w' => e = .returned (.bool true) ∧ Below w.heap.size w w' := by
  have hu28 := Try.underlying28
  have hI : (l.length : Int) ≤ 200 := by omega
  have HH := Aside0.mk (And.intro hC h)
  have tok : Aside0 True := ⟨trivial⟩
  clear hC h
  go_enter Try.func3, Try.ntmps3
  go_wp2_with (first | (go_at_call 9; have _t := tok; refine (own_new _).mono ?_; rintro e w1 ⟨p, b, rfl, h0⟩; have H0 := Aside0.mk h0; clear h0 tok) | (go_at_call 9; refine (two_new H0.out).mono ?_; rintro e w2 ⟨p', b', rfl, h1⟩; have H1 := Aside0.mk h1; clear h1 H0))
  go_loopw [7, 8, 34] (fun sv kv i wr => ∃ k : Nat, k ≤ l.length ∧ i = .int .i64 k ∧ Aside0 (Kd.R (Kd.int .i64) 3 wr w2.heap.size (fun k => some k = sv.ownBlock) sv ((keptOf (l.take k)).map (·.f1)) ∧ Kd.R k28 28 wr w2.heap.size (fun k => some k = kv.ownBlock) kv (keptOf (l.take k)) ∧ (∀ k, some k = sv.ownBlock → some k ≠ kv.ownBlock)) ∧ Aside0 (Below w2.heap.size w2 wr)) (fun _ _ i _ => l.length - (intOf i).toNat)
  case atStart => exact ⟨0, Nat.zero_le _, rfl, ⟨Kd.R_nil _ _ _ _ _, Kd.R_nil _ _ _ _ _, fun k h => by simp [Value.ownBlock] at h⟩, ⟨Below.refl _ _⟩⟩
  case round =>
    obtain ⟨k, hk, rfl, HR, HB⟩ := hrel
    by_cases hlt : k < l.length
    · have hltI : (k : Int) < (l.length : Int) := by omega
      obtain ⟨ad, hA, x0, x1, x2⟩ := at_T28 (Kd.C_below (Kd.C_below HH.out.1 H1.out.2.2.2) HB.out) (k : Int) (by omega) hltI
      have hts := kept_snoc (l.take k) (rd_T28 l (k : Int))
      rw [← take_snoc28 l k hlt] at hts
      simp only [Int.toNat_natCast] at x0 x1 x2
      generalize rd_T28 l (k : Int) = x at *
      generalize hKK : keptOf (l.take k) = K at *
      have hKl : K.length ≤ 200 := by rw [← hKK]; have := kept_len (l.take k); have : (l.take k).length ≤ l.length := by simp; omega
                                      have := HH.out.2; omega
      have hal := (Below.refl wr.heap.size wr).alloc (Nat.le_refl _) (.cells #[.int .i64 x.f0, .int .i64 x.f1, .int .i64 x.f2] 28)
      have hR1 := Kd.R_below HR.out.1 hal
      have hR2 := Kd.R_below HR.out.2.1 hal
      have hbox : (wr.alloc (.cells #[.int .i64 x.f0, .int .i64 x.f1, .int .i64 x.f2] 28)).heap[wr.heap.size]? = some (.cells #[.int .i64 x.f0, .int .i64 x.f1, .int .i64 x.f2] 28 (0, 0)) := Array.getElem?_push_size
      obtain ⟨A1, cp1, rfl⟩ := Kd.R_slice hR1
      obtain ⟨b0, b1, b2⟩ : (wr.alloc (.cells #[.int .i64 x.f0, .int .i64 x.f1, .int .i64 x.f2] 28)).cell? ⟨wr.heap.size, 0, none⟩ = some (.int .i64 x.f0) ∧ (wr.alloc (.cells #[.int .i64 x.f0, .int .i64 x.f1, .int .i64 x.f2] 28)).cell? ⟨wr.heap.size, 1, none⟩ = some (.int .i64 x.f1) ∧ (wr.alloc (.cells #[.int .i64 x.f0, .int .i64 x.f1, .int .i64 x.f2] 28)).cell? ⟨wr.heap.size, 2, none⟩ = some (.int .i64 x.f2) := ⟨(blk_cell hbox 0).trans rfl, (blk_cell hbox 1).trans rfl, (blk_cell hbox 2).trans rfl⟩
      have HX := Aside0.mk (And.intro hR1 (And.intro hR2 (And.intro hbox (And.intro hlt (And.intro hts (And.intro (HB.out.alloc HB.out.size (.cells #[.int .i64 x.f0, .int .i64 x.f1, .int .i64 x.f2] 28)) hKl))))))
      have hKI : (K.length : Int) ≤ 200 := by omega
      clear hR1 hR2 hbox hlt hts hal hKl hKK
      subst hA
      have hkl : (K.map (·.f1)).length = K.length := List.length_map _
      have hd1 : K.length ≤ cp1 := by have := (Kd.R_reads' HX.out.1).2.1; simpa using this
      rw [hkl] at HR HX
      rw [hkl]
      clear hkl
      go_wp2_with fail
      go_loop [11, 40] (fun ov jv => ∃ j : Nat, j ≤ K.length ∧ jv = .int .i64 j ∧ ov = .bool (seen (K.take j) x.f1)) (fun _ jv => K.length - (intOf jv).toNat)
      case atStart => exact ⟨0, Nat.zero_le _, rfl, rfl⟩
      case round =>
        obtain ⟨j, hj, rfl, rfl⟩ := hrel
        by_cases hjl : j < K.length
        · have hjI : (j : Int) < (K.length : Int) := by omega
          obtain ⟨ad1, hA1, y0⟩ := int_at (Kd.R_mono HX.out.1 (fun _ _ => trivial)) j (by simpa using hjl)
          have hsn := seen_snoc K x.f1 j hjl
          generalize (K.map (·.f1))[j]'(by simpa using hjl) = y at *
          have HN := Aside0.mk (And.intro hsn hjl)
          clear hsn hjl
          subst hA1
          generalize hsb : seen (K.take j) x.f1 = sb at *
          have HSB := Aside0.mk hsb
          clear hsb
          cases sb with
          | true =>
            go_wp2
            exact ⟨⟨j + 1, HN.out.2, by congr 1, by rw [HN.out.1]; rfl⟩, by have := HN.out.2; simp only [intOf]; omega⟩
          | false =>
            go_wp2
            exact ⟨⟨j + 1, HN.out.2, by congr 1, by rw [HN.out.1]; rfl⟩, by have := HN.out.2; simp only [intOf]; omega⟩
        · obtain rfl : j = K.length := by omega
          rw [List.take_length]
          generalize hsb : seen K x.f1 = sb at *
          have HSB := Aside0.mk hsb
          clear hsb hjl
          cases sb with
          | true =>
            have haS : addS K x = K := by unfold addS; rw [if_pos HSB.out]
            have hts := HX.out.2.2.2.2.1
            rw [haS] at hts
            have HT := Aside0.mk hts
            clear haS hts
            go_wp2
            exact ⟨⟨k + 1, HX.out.2.2.2.1, by congr 1, ⟨by rw [HT.out]; exact HX.out.1, by rw [HT.out]; exact HX.out.2.1, HR.out.2.2⟩, ⟨HX.out.2.2.2.2.2.1⟩⟩, by have := HX.out.2.2.2.1; simp only [intOf]; omega⟩
          | false =>
            have haS : addS K x = K ++ [x] := by unfold addS; rw [if_neg (by rw [HSB.out]; simp)]
            have hts := HX.out.2.2.2.2.1
            rw [haS] at hts
            have HT := Aside0.mk hts
            have tok1 : Aside0 True := ⟨trivial⟩
            clear haS hts
            go_wp2_with (first | (at_builtin; have _t := tok1; refine Kd.R_append (W := (wr.alloc (.cells #[.int .i64 x.f0, .int .i64 x.f1, .int .i64 x.f2] 28))) (Kd.int .i64) (w0 := w2) w2.heap.size rfl (.tmp 54) (.tmp 57) 26 3 (.int .i64 0) 8 rfl Try.underlying26 info3i rfl (by decide) (by decide) (.slice A1 K.length cp1) (K.map (·.f1)) x.f1 [.int .i64 x.f1] (fun k => some k = Value.ownBlock (.slice A1 K.length cp1) ∨ (wr.alloc (.cells #[.int .i64 x.f0, .int .i64 x.f1, .int .i64 x.f2] 28)).heap.size ≤ k) (fun _ => False) ?e1 ?e2 rfl (fun _ h => h.elim) (fun _ h => .inr h) ?sO ?sB ?sS ?sL ?_; (case e1 => simp [Act.eval, Act.put]); (case e2 => simp [Act.eval, Act.put, World.setCell]); (case sO => exact Kd.R_mono HX.out.1 (fun _ h => .inl (by simpa using h))); (case sB => exact HX.out.2.2.2.2.2.1); (case sS => exact HX.out.2.2.2.2.2.1.size); (case sL => have := HX.out.2.2.2.2.2.2; simp only [List.length_map]; omega); intro v1 w3 hR1 hB1 hg1 hl1; have hbx := box_kept3 HX.out.2.2.1 HX.out.1 (fun k h => (R_lt HR.out.1 k (by simpa using h)).2) hg1; obtain ⟨g0, g1, g2⟩ := box3c hbx; have HA := Aside0.mk (And.intro (R_tightI hR1) (And.intro (apart_grow HX.out.2.1 (fun k h e => HR.out.2.2 k (by simpa using h) e) hg1 hl1) hB1)); clear hR1 hB1 hg1 hl1 hbx tok1) | (at_builtin; refine Kd.R_append (W := w3) k28 (w0 := w2) w2.heap.size rfl (.tmp 59) (.tmp 61) 22 28 (.agg #[(.int .i64 0), (.int .i64 0), (.int .i64 0)]) 24 rfl Try.underlying22 info28 rfl (by decide) (by decide) u8 K x [.int .i64 x.f0, .int .i64 x.f1, .int .i64 x.f2] (fun k => some k = Value.ownBlock u8 ∨ w3.heap.size ≤ k) (fun _ => False) ?e1 ?e2 (k28_mkM _ _ _ _) (fun _ h => h.elim) (fun _ h => .inr h) ?sO ?sB ?sS ?sL ?_; (case e1 => simp [Act.eval, Act.put]); (case e2 => simp [Act.eval, Act.put, World.setCell]); (case sO => exact Kd.R_mono HA.out.2.1.1 (fun _ h => .inl h)); (case sB => exact HA.out.2.2); (case sS => exact HA.out.2.2.size); (case sL => have := HX.out.2.2.2.2.2.2; omega); intro v2 w4 hR2 hB2 hg2 hl2; have HA2 := Aside0.mk (And.intro (R_tight28 hR2) (And.intro (apart_grow HA.out.1 (fun k h e => HA.out.2.1.2 k e h) hg2 hl2) hB2)); clear hR2 hB2 hg2 hl2))
            exact ⟨⟨k + 1, HX.out.2.2.2.1, by congr 1, ⟨by rw [HT.out, List.map_append]; exact HA2.out.2.1.1, by rw [HT.out]; exact HA2.out.1, fun k h e => HA2.out.2.1.2 k e h⟩, ⟨HA2.out.2.2⟩⟩, by have := HX.out.2.2.2.1; simp only [intOf]; omega⟩
    · obtain rfl : k = l.length := by omega
      rw [List.take_length] at HR
      have hone := kept_one l
      have hkl := kept_len l
      generalize keptOf l = K at *
      have hKI : (K.length : Int) ≤ 200 := by have := HH.out.2; omega
      obtain ⟨hsame, hok⟩ := order_same K hone (by omega)
      have HK := Aside0.mk (And.intro hsame hok)
      obtain ⟨A2, cp2, rfl⟩ := Kd.R_slice HR.out.2.1
      have HT0 := Aside0.mk (H1.out.below HB.out)
      have HL := Aside0.mk (show p < w2.heap.size ∧ b < w2.heap.size ∧ p' < w2.heap.size ∧ b' < w2.heap.size from ⟨H1.out.1.lt.1, H1.out.1.lt.2, H1.out.2.1.lt.1, H1.out.2.1.lt.2⟩)
      have HBs := Aside0.mk HB.out.size
      clear hsame hok hone hkl hlt hk
      go_wp2_with fail
      go_loopw [66] (fun iv wr2 => ∃ i : Nat, i ≤ K.length ∧ iv = .int .i64 i ∧ Aside0 (Two w wr2 p b p' b' (setAll [] (K.take i)) (setAll [] (K.reverse.take i)) ∧ Kd.R k28 28 wr2 w2.heap.size (fun _ => True) (.slice A2 K.length cp2) K ∧ w2.heap.size ≤ wr2.heap.size)) (fun iv _ => K.length - (intOf iv).toNat)
      case atStart => exact ⟨0, Nat.zero_le _, rfl, ⟨HT0.out, Kd.R_mono HR.out.2.1 (fun _ _ => trivial), HBs.out⟩⟩
      case round =>
        obtain ⟨i, hi, rfl, HQ⟩ := hrel
        by_cases hil : i < K.length
        · have hiI : (i : Int) < (K.length : Int) := by omega
          have hi0 : (0 : Int) ≤ (K.length : Int) - 1 - (i : Int) := by omega
          have hi1 : (K.length : Int) - 1 - (i : Int) < (K.length : Int) := by omega
          obtain ⟨_, hlc, hC2⟩ := Kd.R_reads' HQ.out.2.1
          obtain ⟨ad2, hA2, y0, y1, y2⟩ := at_T28 hC2 ((K.length : Int) - 1 - (i : Int)) hi0 hi1
          have et : ((K.length : Int) - 1 - (i : Int)).toNat = K.length - 1 - i := by omega
          rw [et] at y0 y1 y2
          have hz : rd_T28 K ((K.length : Int) - 1 - (i : Int)) = K.reverse[i]'(by simpa using hil) := by
            have e : (K.length : Int) - 1 - (i : Int) = ((K.length - 1 - i : Nat) : Int) := by omega
            rw [e, rd_get28 (by omega), List.getElem_reverse]
          have hx : rd_T28 K (i : Int) = K[i] := rd_get28 hil
          have e1 : setAll [] (K.take (i + 1)) = setS (setAll [] (K.take i)) (rd_T28 K (i : Int)) := by rw [take_snoc28 K i hil, setAll_snoc]
          have e2 : setAll [] (K.reverse.take (i + 1)) = setS (setAll [] (K.reverse.take i)) (rd_T28 K ((K.length : Int) - 1 - (i : Int))) := by rw [hz, ← List.take_append_getElem (by simpa using hil), setAll_snoc]
          generalize hzz : rd_T28 K ((K.length : Int) - 1 - (i : Int)) = z at *
          have hal := (Below.refl wr.heap.size wr).alloc (Nat.le_refl _) (.cells #[.int .i64 z.f0, .int .i64 z.f1, .int .i64 z.f2] 28)
          obtain ⟨W5, hW5⟩ : ∃ W5, W5 = (wr.alloc (.cells #[.int .i64 z.f0, .int .i64 z.f1, .int .i64 z.f2] 28)).drew := ⟨_, rfl⟩
          have hb5 : Below wr.heap.size wr W5 := by rw [hW5]; exact hal.drew
          obtain ⟨ad3, hA3, q0, q1, q2⟩ := at_T28 (Kd.C_below hC2 hb5) (i : Int) (by omega) hiI
          have hbox : W5.heap[wr.heap.size]? = some (.cells #[.int .i64 z.f0, .int .i64 z.f1, .int .i64 z.f2] 28 (0, 0)) := by rw [hW5]; exact Array.getElem?_push_size
          simp only [Int.toNat_natCast] at q0 q1 q2
          generalize rd_T28 K (i : Int) = x at *
          rw [hA2] at hA3
          obtain rfl := Option.some.inj hA3
          have HX := Aside0.mk (And.intro (HQ.out.1.below hb5) (And.intro (Kd.R_below HQ.out.2.1 hb5) (And.intro hbox (And.intro e1 (And.intro e2 (And.intro hil hb5.size))))))
          have HW5 := Aside0.mk hW5
          clear et hz hx e1 e2 hzz hal hb5 hbox hil hW5 hlc hC2 q0
          subst hA2
          go_wp2_with fail
          refine wp_region_still_tail 11 (by kernel_rfl) (by kernel_rfl) ?_
          simp only [List.take_succ_cons, List.take_zero, List.drop_succ_cons, List.drop_zero]
          change wpStill _ _ (World.drew _) (fun a' => wpList _ _ _ _ a' (World.drew _)) _ _
          rw [← HW5.out]
          repeat still_step
          refine wpStill_nil ?_
          have tok2 : Aside0 True := ⟨trivial⟩
          go_wp2_with (first | (go_at_call 10; have _t := tok2; refine (two_set1 HX.out.1 x.f1 x.f2).mono ?_; rintro e w6 ⟨rfl, h6, k6⟩; have hbx := k6.blk HX.out.2.2.1 (by have := HL.out; have := HX.out.2.2.2.2.2.2; have := HQ.out.2.2; omega); obtain ⟨g0, g1, g2⟩ := box3c hbx; have H6 := Aside0.mk (And.intro h6 k6); clear h6 k6 hbx tok2) | (go_at_call 10; refine (two_set2 H6.out.1 z.f1 z.f2).mono ?_; rintro e w7 ⟨rfl, h7, k7⟩; have H7 := Aside0.mk (And.intro h7 k7); clear h7 k7))
          refine ⟨⟨i + 1, HX.out.2.2.2.2.2.1, by congr 1, ⟨?_, ?_, ?_⟩⟩, by have := HX.out.2.2.2.2.2.1; simp only [intOf]; omega⟩
          · rw [HX.out.2.2.2.1, HX.out.2.2.2.2.1]
            exact H7.out.1
          · exact R_kpb (R_kpb HX.out.2.1 H6.out.2 (fun j hj e => by have := HL.out; omega)) H7.out.2 (fun j hj e => by have := HL.out; omega)
          · have := H6.out.2.size; have := H7.out.2.size; have := HX.out.2.2.2.2.2.2; have := HQ.out.2.2; omega
        · obtain rfl : i = K.length := by omega
          have hT := HQ.out.1
          rw [List.take_length, List.take_of_length_le (by simp), HK.out.1] at hT
          have hok := HK.out.2
          generalize setAll [] K = L at *
          have HT := Aside0.mk (And.intro hT hok)
          have tok3 : Aside0 True := ⟨trivial⟩
          clear hT hok hil hi
          go_wp2_with (first | (go_at_call 11; have _t := tok3; refine (two_due1 HT.out.1 now).mono ?_; rintro e w6 ⟨v6, rfl, r6, h6⟩; have H6 := Aside0.mk (And.intro h6 r6); clear h6 r6 tok3) | (go_at_call 11; refine (two_due2 H6.out.1 now H6.out.2 HT.out.1.2.1.lt.2).mono ?_; rintro e w7 ⟨v7, rfl, r7, h7, r6⟩; obtain ⟨A6, c6, rfl⟩ := Kd.R_slice r6; obtain ⟨A7, c7, rfl⟩ := Kd.R_slice r7; have H7 := Aside0.mk (And.intro h7 (And.intro (Row.reads r6) (Row.reads r7))); clear h7 r6 r7) | (go_at_call 12; refine (sextonplain_Ints.calls ((due L now).1.length + 1) A6 c6 (due L now).1 A7 c7 (due L now).1 true _ H7.out.2.1.2.2 H7.out.2.1.2.1 H7.out.2.2.2.2 H7.out.2.2.2.1 (ints_true _ (by have := HT.out.2.len; have := due_lenL L now; omega))).mono ?_; rintro e w8 ⟨rfl, hd⟩; have H8 := Aside0.mk (H7.out.1.below hd.below); clear hd) | (go_at_call 13; refine (two_len1 H8.out).mono ?_; rintro e w' ⟨rfl, rfl⟩) | (go_at_call 13; refine (two_len2 H8.out).mono ?_; rintro e w' ⟨rfl, rfl⟩) | (go_at_call 8; refine (three_calls _).mono ?_; rintro e w9 ⟨rfl, hb⟩; have H9 := Aside0.mk (H8.out.2.2.2.trans (hb.mono H8.out.2.2.2.size)); clear hb))
          go_ret
          exact ⟨rfl, H9.out⟩
def sextonlaw03_AlarmOrder.f (l0 : List S28) (a1 : Int) : Option Bool := some true
theorem sextonlaw03_AlarmOrder.calls (A0 : Option Addr) (c0 : Nat) (l0 : List S28) (a1 : Int) (r : Bool) (w : World) (hr0 : Kd.C k28 w A0 l0.length l0) (hc0 : l0.length ≤ c0) (h : sextonlaw03_AlarmOrder.f l0 a1 = some r) :
    Calls Try.prog 3 #[.slice A0 l0.length c0, .int .i64 a1] w fun e w' => e = .returned (.bool r) ∧ Below w.heap.size w w' := by
  obtain rfl := Option.some.inj h
  by_cases hl : l0.length ≤ 200
  · exact order_ok A0 c0 l0 a1 w hr0 hl
  · exact order_long A0 c0 l0 a1 w (by omega)
end Go.Proofs.Ytnenheaijacphaa.PAlarm
