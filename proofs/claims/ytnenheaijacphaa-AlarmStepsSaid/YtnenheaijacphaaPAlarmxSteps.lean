/- AlarmSteps' walk: it answers true, and nothing elder turns. -/
import Derived.Test.YtnenheaijacphaaBoth
import Derived.Test.YtnenheaijacphaaFindG
import Derived.Deep.RegionHeld3
import Derived.Deep.CutBlock
import Derived.Deep.DeepCutAuto
namespace Go.Proofs.Ytnenheaijacphaa.PAlarm
open Go Go.RowKit Go.Maps Go.Sort Go.Proofs.YtnenheaijacphaaW.PrintWords Go.Proofs.YtnenheaijacphaaW.PrintLast Go.Proofs.YtnenheaijacphaaW.PrintMore Go.Proofs.Ytnenheaijacphaa.Sl
set_option linter.unusedVariables false
set_option linter.unusedSimpArgs false

theorem due_lenL (L : List S53) (t : Int) : (due L t).1.length ≤ L.length := by
  unfold due
  split
  · simp
  · exact due_len L t
theorem box3_cells {E : Nat} {w3 : World} {gb : Nat} {a b c : Value} (h : w3.heap[gb]? = some (.cells #[a, b, c] E (0, 0))) :
    w3.cell? ⟨gb, 0, none⟩ = some a ∧ w3.cell? ⟨gb, 1, none⟩ = some b ∧ w3.cell? ⟨gb, 2, none⟩ = some c :=
  ⟨(blk_cell h 0).trans rfl, (blk_cell h 1).trans rfl, (blk_cell h 2).trans rfl⟩
theorem st_findg {w W : World} {p b q : Nat} {L M : List S53} (H : St w W p b q L M) (hM : Ok M) (n : Int) : Calls Try.prog 20 #[.pointer (some ⟨q, 0, none⟩), .int .i64 n] W fun e w' => e = .returned (.int .i64 (fnd M n)) ∧ ∃ os, w' = grow W os := by
  obtain ⟨o, r⟩ := H.2.1
  exact find_grow _ q o M n W r (by have := hM.len; omega)
section
variable {w W : World} {p b q : Nat} {L M : List S53}
theorem st_at_none (H : St w W p b q L M) (n : Int) (hw : (Lit.int .i64 n).wf = true) (e : at_ L n = none) : Calls Try.prog 14 #[.pointer (some ⟨p, 0, none⟩), .int .i64 n] W fun e w' => e = .returned (.tuple #[.int .i64 0, .bool false]) ∧ W = w' := by
  have := st_at H n hw
  rw [e] at this
  exact this
theorem st_at_some (H : St w W p b q L M) (n : Int) {c : Int} (hw : (Lit.int .i64 n).wf = true) (e : at_ L n = some c) : Calls Try.prog 14 #[.pointer (some ⟨p, 0, none⟩), .int .i64 n] W fun e w' => e = .returned (.tuple #[.int .i64 c, .bool true]) ∧ W = w' := by
  have := st_at H n hw
  rw [e] at this
  exact this
theorem st_next_nil (H : St w W p b q [] M) : Calls Try.prog 19 #[.pointer (some ⟨p, 0, none⟩)] W fun e w' => e = .returned (.tuple #[.int .i64 0, .bool false]) ∧ St w w' p b q [] M ∧ Keeps W w' := st_next H
theorem st_next_cons {a : S53} {r : List S53} (H : St w W p b q (a :: r) M) : Calls Try.prog 19 #[.pointer (some ⟨p, 0, none⟩)] W fun e w' => e = .returned (.tuple #[.int .i64 a.f1, .bool true]) ∧ St w w' p b q (a :: r) M ∧ Keeps W w' := st_next H
end
set_option maxRecDepth 100000 in
theorem steps_long (A0 : Option Addr) (c0 : Nat) (l : List S28) (w : World) (h : 600 < l.length) : Calls Try.prog 5 #[.slice A0 l.length c0] w fun e w' => e = .returned (.bool true) ∧ Below w.heap.size w w' := by
  have hI : (600 : Int) < (l.length : Int) := by omega
  clear h
  go_enter Try.func5, Try.ntmps5
  go_wp2_with (first | (go_at_call 9; refine (own_new _).mono ?_; rintro e w0 ⟨p, b, rfl, h0⟩; have H0 := Aside0.mk h0; clear h0) | (go_at_call 8; refine (three_calls _).mono ?_; rintro e w3 ⟨rfl, hb⟩; have H3 := Aside0.mk (H0.out.2.trans (hb.mono H0.out.2.size)); clear hb))
  go_ret
  exact ⟨rfl, H3.out⟩
set_option maxHeartbeats 8000000 in
set_option maxRecDepth 100000 in
theorem steps_ok (A0 : Option Addr) (c0 : Nat) (l : List S28) (w : World) (hC : Kd.C k28 w A0 l.length l) (h : l.length ≤ 600) (hwf : ∀ x ∈ l, (Lit.int .i64 x.f1).wf = true) : Calls Try.prog 5 #[.slice A0 l.length c0] w fun e w' => e = .returned (.bool true) ∧ Below w.heap.size w w' := by
  have hu28 := Try.underlying28
  have hI : (l.length : Int) ≤ 600 := by omega
  have HH := Aside0.mk (And.intro hC (And.intro h hwf))
  clear hC h hwf
  go_enter Try.func5, Try.ntmps5
  go_wp2_with (go_at_call 9; refine (own_new _).mono ?_; rintro e w0 ⟨p, b, rfl, h0⟩; have H0 := Aside0.mk h0; clear h0)
  have HS := Aside0.mk (St.new H0.out rfl)
  go_loopw [36] (fun i wr => ∃ (k : Nat) (L : List S53), k ≤ l.length ∧ i = .int .i64 k ∧ Aside0 (St w wr p b w0.heap.size L L)) (fun i _ => l.length - (intOf i).toNat)
  case atStart => exact ⟨0, [], Nat.zero_le _, rfl, HS⟩
  case round =>
    obtain ⟨k, L, hk, rfl, HT⟩ := hrel
    by_cases hlt : k < l.length
    · have hltI : (k : Int) < (l.length : Int) := by omega
      obtain ⟨ad, hA, x0, x1, x2⟩ := at_T28 (Kd.C_below HH.out.1 HT.out.2.2) (k : Int) (by omega) hltI
      have hwx : (Lit.int .i64 (rd_T28 l (k : Int)).f1).wf = true := by
        have e : rd_T28 l (k : Int) = l[k] := by simp [rd_T28, List.getD_eq_getElem?_getD, List.getElem?_eq_getElem hlt]
        rw [e]; exact HH.out.2.2 _ (List.getElem_mem hlt)
      simp only [Int.toNat_natCast] at x0 x1 x2
      generalize rd_T28 l (k : Int) = x at *
      subst hA
      have hbox : (wr.alloc (.cells #[.int .i64 x.f0, .int .i64 x.f1, .int .i64 x.f2] 28)).heap[wr.heap.size]? = some (.cells #[.int .i64 x.f0, .int .i64 x.f1, .int .i64 x.f2] 28 (0, 0)) := Array.getElem?_push_size
      have HX := Aside0.mk (And.intro (HT.out.below ((Below.refl wr.heap.size wr).alloc (Nat.le_refl _) (.cells #[.int .i64 x.f0, .int .i64 x.f1, .int .i64 x.f2] 28))) (And.intro hbox (And.intro hlt hwx)))
      clear hbox hlt hwx
      go_upto_block 2 with (fail)
      go_cut [42] (fun _ wc => ∃ M : List S53, Aside0 (St w wc p b w0.heap.size M M ∧ wc.heap[wr.heap.size]? = some (.cells #[.int .i64 x.f0, .int .i64 x.f1, .int .i64 x.f2] 28 (0, 0))))
      case first =>
        by_cases e0 : x.f0 = 0
        · have d0 : (x.f0 == 0) = true := by simp [e0]
          clear e0
          as_aux_lemma =>
            obtain ⟨b0, b1, b2⟩ := box3_cells HX.out.2.1
            go_wp2_with fail
            go_region_held3 (fun w' => w'.cell? ⟨wr.heap.size, 1, none⟩ = some (.int .i64 x.f1) ∧ w'.cell? ⟨wr.heap.size, 2, none⟩ = some (.int .i64 x.f2)) (go_keep) (first | (go_at_call 10; refine (st_set (HX.out.1.below (by first | exact Below.refl _ _ | exact (Below.refl _ _).drew | exact (Below.refl _ _).drew.drew | exact (Below.refl _ _).drew.drew.drew)) x.f1 x.f2).mono ?_; rintro e w6 ⟨rfl, h6, k6⟩; have hgb := k6 wr.heap.size 28 _ (by decide) (by decide) (by decide) HX.out.2.1; obtain ⟨y0, y1, y2⟩ := box3_cells hgb; have H6 := Aside0.mk (And.intro h6 hgb); clear h6 k6 hgb) | (go_at_call 16; refine (st_rset (H6.out.1.below (by first | exact Below.refl _ _ | exact (Below.refl _ _).drew | exact (Below.refl _ _).drew.drew | exact (Below.refl _ _).drew.drew.drew)) HT.out.1.ok x.f1 x.f2).mono ?_; rintro e w7 ⟨rfl, h7, k7⟩; have hgb := k7 wr.heap.size 28 _ (by decide) (by decide) (by decide) H6.out.2; obtain ⟨z0, z1, z2⟩ := box3_cells hgb; have H7 := Aside0.mk (And.intro h7 hgb); clear h7 k7 hgb))
            all_goals (go_wp2; go_meet; exact ⟨_, ⟨H7.out.1.below (by first | exact Below.refl _ _ | exact (Below.refl _ _).drew | exact (Below.refl _ _).drew.drew | exact (Below.refl _ _).drew.drew.drew), H7.out.2⟩⟩)
        · have d0 : (x.f0 == 0) = false := by simpa using e0
          by_cases e1 : x.f0 = 1
          · have d1 : (x.f0 == 1) = true := by simp [e1]
            clear e0 e1
            as_aux_lemma =>
              obtain ⟨b0, b1, b2⟩ := box3_cells HX.out.2.1
              go_wp2_with fail
              go_region_held3 (fun w' => w'.cell? ⟨wr.heap.size, 1, none⟩ = some (.int .i64 x.f1) ∧ w'.cell? ⟨wr.heap.size, 2, none⟩ = some (.int .i64 x.f2)) (go_keep) (first | (go_at_call 10; refine (st_set (HX.out.1.below (by first | exact Below.refl _ _ | exact (Below.refl _ _).drew | exact (Below.refl _ _).drew.drew | exact (Below.refl _ _).drew.drew.drew)) x.f1 x.f2).mono ?_; rintro e w6 ⟨rfl, h6, k6⟩; have hgb := k6 wr.heap.size 28 _ (by decide) (by decide) (by decide) HX.out.2.1; obtain ⟨y0, y1, y2⟩ := box3_cells hgb; have H6 := Aside0.mk (And.intro h6 hgb); clear h6 k6 hgb) | (go_at_call 16; refine (st_rset (H6.out.1.below (by first | exact Below.refl _ _ | exact (Below.refl _ _).drew | exact (Below.refl _ _).drew.drew | exact (Below.refl _ _).drew.drew.drew)) HT.out.1.ok x.f1 x.f2).mono ?_; rintro e w7 ⟨rfl, h7, k7⟩; have hgb := k7 wr.heap.size 28 _ (by decide) (by decide) (by decide) H6.out.2; obtain ⟨z0, z1, z2⟩ := box3_cells hgb; have H7 := Aside0.mk (And.intro h7 hgb); clear h7 k7 hgb))
              all_goals (go_wp2; go_meet; exact ⟨_, ⟨H7.out.1.below (by first | exact Below.refl _ _ | exact (Below.refl _ _).drew | exact (Below.refl _ _).drew.drew | exact (Below.refl _ _).drew.drew.drew), H7.out.2⟩⟩)
          · have d1 : (x.f0 == 1) = false := by simpa using e1
            by_cases e2 : x.f0 = 2
            · have d2 : (x.f0 == 2) = true := by simp [e2]
              clear e0 e1 e2
              as_aux_lemma =>
                obtain ⟨b0, b1, b2⟩ := box3_cells HX.out.2.1
                go_wp2_with (first | (go_at_call 15; refine (st_stop HX.out.1 x.f1).mono ?_; rintro e w6 ⟨rfl, h6, k6⟩; have hgb := k6 wr.heap.size 28 _ (by decide) (by decide) (by decide) HX.out.2.1; obtain ⟨y0, y1, y2⟩ := box3_cells hgb; have H6 := Aside0.mk (And.intro h6 hgb); clear h6 k6 hgb) | (go_at_call 17; refine (st_rstop H6.out.1 HT.out.1.ok x.f1).mono ?_; rintro e w7 ⟨rfl, h7, k7⟩; have hgb := k7 wr.heap.size 28 _ (by decide) (by decide) (by decide) H6.out.2; have H7 := Aside0.mk (And.intro h7 hgb); clear h7 k7 hgb))
                go_meet
                exact ⟨_, H7⟩
            · have d2 : (x.f0 == 2) = false := by simpa using e2
              by_cases e3 : x.f0 = 3
              · have d3 : (x.f0 == 3) = true := by simp [e3]
                clear e0 e1 e2 e3
                as_aux_lemma =>
                  obtain ⟨b0, b1, b2⟩ := box3_cells HX.out.2.1
                  go_wp2_with (first | (go_at_call 11; refine (st_due HX.out.1 x.f2).mono ?_; rintro e w6 ⟨v6, rfl, r6, h6, k6, m6⟩; have hgb := k6 wr.heap.size 28 _ (by decide) (by decide) (by decide) HX.out.2.1; obtain ⟨y0, y1, y2⟩ := box3_cells hgb; have H6 := Aside0.mk (And.intro h6 (And.intro hgb (And.intro r6 m6))); clear h6 k6 hgb r6 m6) | (go_at_call 18; refine (st_rdue H6.out.1 HT.out.1.ok x.f2 H6.out.2.2.1 HX.out.1.1.lt.1 HX.out.1.1.lt.2 H6.out.2.2.2).mono ?_; rintro e w7 ⟨v7, rfl, r7, h7, k7, r6⟩; have hgb := k7 wr.heap.size 28 _ (by decide) (by decide) (by decide) H6.out.2.1; obtain ⟨A6, c6, rfl⟩ := Kd.R_slice r6; obtain ⟨A7, c7, rfl⟩ := Kd.R_slice r7; have H7 := Aside0.mk (And.intro h7 (And.intro hgb (And.intro (Row.reads r6) (Row.reads r7)))); clear h7 k7 hgb r6 r7) | (go_at_call 12; refine (sextonplain_Ints.calls ((due L x.f2).1.length + 1) A6 c6 (due L x.f2).1 A7 c7 (due L x.f2).1 true _ H7.out.2.2.1.2.2 H7.out.2.2.1.2.1 H7.out.2.2.2.2.2 H7.out.2.2.2.2.1 (ints_true _ (by have := HT.out.1.ok.len; have := due_lenL L x.f2; omega))).mono ?_; rintro e w8 ⟨rfl, hd⟩; have hgb := (hd.below.block wr.heap.size (blk_lt H7.out.2.1)).trans H7.out.2.1; have H8 := Aside0.mk (And.intro (H7.out.1.below hd.below) hgb); clear hd hgb))
                  go_meet
                  exact ⟨_, H8⟩
              · have d3 : (x.f0 == 3) = false := by simpa using e3
                clear e0 e1 e2 e3
                as_aux_lemma =>
                  go_wp2
                  go_meet
                  exact ⟨_, ⟨HX.out.1, HX.out.2.1⟩⟩
      case rest =>
        obtain ⟨M, HM⟩ := hcut
        obtain ⟨b0, b1, b2⟩ := box3_cells HM.out.2
        cases M with
        | nil =>
          have HA : Aside0 (at_ [] x.f1 = none) := ⟨rfl⟩
          have HF : Aside0 (fnd [] x.f1 = -1) := ⟨rfl⟩
          as_aux_lemma =>
            go_upto_region 25 with (first | (go_at_call 14; refine (st_at_none HM.out.1 x.f1 HX.out.2.2.2 HA.out).mono ?_; rintro e w' ⟨rfl, rfl⟩) | (go_at_call 19; refine (st_next_nil HM.out.1).mono ?_; rintro e w6 ⟨rfl, h6, k6⟩; have hgb := k6 wr.heap.size 28 _ (by decide) (by decide) (by decide) HM.out.2; obtain ⟨og, rg⟩ := h6.2.1; obtain ⟨Ag, cg, _, hq, _⟩ := rg.open_; have hq : w6.heap[w0.heap.size]? = some (.cells #[.slice Ag 0 cg] 44 (0, 0)) := hq; have u1 := cell_grown (w := w6) (a := ⟨wr.heap.size, 1, none⟩) (blk_lt hgb) ((blk_cell hgb 1).trans rfl); have u2 := cell_grown (w := w6) (a := ⟨w0.heap.size, 0, none⟩) (blk_lt hq) ((blk_cell hq 0).trans rfl); have H6 := Aside0.mk (And.intro h6 (And.intro hgb hq)); clear h6 k6 hgb hq rg))
            go_cut [186] (fun v wc => v = .bool false ∧ Aside0 (St w wc p b w0.heap.size [] []))
            case first =>
              as_aux_lemma =>
                simp only [List.append]
                refine wp_region_quiet_grown (by kernel_rfl) (by kernel_rfl) ?_
                repeat (first | go_big_quiet_step ((first | (go_at_call 20; exact Calls.grown_of ((st_findg (H6.out.1.below (below_grown _ _ _)) HM.out.1.1.ok x.f1).mono fun e w' ⟨h, os', hw⟩ => ⟨by rw [h, HF.out], 0, os', hw⟩)) | (go_at_call 13; exact Calls.grown_of ((st_len (H6.out.1.below (below_grown _ _ _))).mono fun e w' ⟨h, hw⟩ => ⟨h, 0, #[], by rw [← hw, grow_empty]; rfl⟩)))) | quiet_step ((first | (go_at_call 20; exact Calls.grown_of ((st_findg (H6.out.1.below (below_grown _ _ _)) HM.out.1.1.ok x.f1).mono fun e w' ⟨h, os', hw⟩ => ⟨by rw [h, HF.out], 0, os', hw⟩)) | (go_at_call 13; exact Calls.grown_of ((st_len (H6.out.1.below (below_grown _ _ _))).mono fun e w' ⟨h, hw⟩ => ⟨h, 0, #[], by rw [← hw, grow_empty]; rfl⟩)))))
                refine wpQuiet_nil ?_
                intro _ hw'
                obtain ⟨⟨nq, osq⟩, hw''⟩ := hw'
                subst hw''
                go_wp2_with fail
                go_meet
                exact ⟨rfl, ⟨H6.out.1.below (below_grown _ _ _)⟩⟩
            case rest =>
              obtain ⟨rfl, HZ⟩ := hcut
              go_wp2
              exact ⟨⟨k + 1, [], HX.out.2.2.1, by congr 1, HZ⟩, by have := HX.out.2.2.1; simp only [intOf]; omega⟩
        | cons a r =>
          cases ha : at_ (a :: r) x.f1 with
          | none =>
            have HA := Aside0.mk ha
            have HF : Aside0 (fnd (a :: r) x.f1 = -1) := ⟨by unfold fnd; rw [ha]; rfl⟩
            clear ha
            as_aux_lemma =>
              go_upto_region 25 with (first | (go_at_call 14; refine (st_at_none HM.out.1 x.f1 HX.out.2.2.2 HA.out).mono ?_; rintro e w' ⟨rfl, rfl⟩) | (go_at_call 19; refine (st_next_cons HM.out.1).mono ?_; rintro e w6 ⟨rfl, h6, k6⟩; have hgb := k6 wr.heap.size 28 _ (by decide) (by decide) (by decide) HM.out.2; obtain ⟨og, rg⟩ := h6.2.1; obtain ⟨gg, cg, hq, hg1, hgl⟩ := rg.head; have u1 := cell_grown (w := w6) (a := ⟨wr.heap.size, 1, none⟩) (blk_lt hgb) ((blk_cell hgb 1).trans rfl); have u2 := cell_grown (w := w6) (a := ⟨w0.heap.size, 0, none⟩) (blk_lt hq) ((blk_cell hq 0).trans rfl); have u3 := cell_grown (w := w6) (a := ⟨gg, 1, none⟩) hgl hg1; have H6 := Aside0.mk (And.intro h6 (And.intro hgb (And.intro hq (And.intro hg1 hgl)))); clear h6 k6 hgb hq rg hg1 hgl))
              go_cut [186] (fun v wc => v = .bool false ∧ Aside0 (St w wc p b w0.heap.size (a :: r) (a :: r)))
              case first =>
                as_aux_lemma =>
                  simp only [List.append]
                  refine wp_region_quiet_grown (by kernel_rfl) (by kernel_rfl) ?_
                  repeat (first | go_big_quiet_step ((first | (go_at_call 20; exact Calls.grown_of ((st_findg (H6.out.1.below (below_grown _ _ _)) HM.out.1.1.ok x.f1).mono fun e w' ⟨h, os', hw⟩ => ⟨by rw [h, HF.out], 0, os', hw⟩)) | (go_at_call 13; exact Calls.grown_of ((st_len (H6.out.1.below (below_grown _ _ _))).mono fun e w' ⟨h, hw⟩ => ⟨h, 0, #[], by rw [← hw, grow_empty]; rfl⟩)))) | quiet_step ((first | (go_at_call 20; exact Calls.grown_of ((st_findg (H6.out.1.below (below_grown _ _ _)) HM.out.1.1.ok x.f1).mono fun e w' ⟨h, os', hw⟩ => ⟨by rw [h, HF.out], 0, os', hw⟩)) | (go_at_call 13; exact Calls.grown_of ((st_len (H6.out.1.below (below_grown _ _ _))).mono fun e w' ⟨h, hw⟩ => ⟨h, 0, #[], by rw [← hw, grow_empty]; rfl⟩)))))
                  refine wpQuiet_nil ?_
                  intro _ hw'
                  obtain ⟨⟨nq, osq⟩, hw''⟩ := hw'
                  subst hw''
                  go_wp2_with fail
                  go_meet
                  exact ⟨rfl, ⟨H6.out.1.below (below_grown _ _ _)⟩⟩
              case rest =>
                obtain ⟨rfl, HZ⟩ := hcut
                go_wp2
                exact ⟨⟨k + 1, (a :: r), HX.out.2.2.1, by congr 1, HZ⟩, by have := HX.out.2.2.1; simp only [intOf]; omega⟩
          | some c =>
            have HA := Aside0.mk ha
            have HF : Aside0 (fnd (a :: r) x.f1 = c) := ⟨by unfold fnd; rw [ha]; rfl⟩
            have hc0 : 0 ≤ c := (at_rng HM.out.1.1.ok ha).2.1
            have dc : decide (0 ≤ c) = true := by simpa using hc0
            clear ha
            as_aux_lemma =>
              go_upto_region 25 with (first | (go_at_call 14; refine (st_at_some HM.out.1 x.f1 HX.out.2.2.2 HA.out).mono ?_; rintro e w' ⟨rfl, rfl⟩) | (go_at_call 19; refine (st_next_cons HM.out.1).mono ?_; rintro e w6 ⟨rfl, h6, k6⟩; have hgb := k6 wr.heap.size 28 _ (by decide) (by decide) (by decide) HM.out.2; obtain ⟨og, rg⟩ := h6.2.1; obtain ⟨gg, cg, hq, hg1, hgl⟩ := rg.head; have u1 := cell_grown (w := w6) (a := ⟨wr.heap.size, 1, none⟩) (blk_lt hgb) ((blk_cell hgb 1).trans rfl); have u2 := cell_grown (w := w6) (a := ⟨w0.heap.size, 0, none⟩) (blk_lt hq) ((blk_cell hq 0).trans rfl); have u3 := cell_grown (w := w6) (a := ⟨gg, 1, none⟩) hgl hg1; have H6 := Aside0.mk (And.intro h6 (And.intro hgb (And.intro hq (And.intro hg1 hgl)))); clear h6 k6 hgb hq rg hg1 hgl))
              go_cut [186] (fun v wc => v = .bool false ∧ Aside0 (St w wc p b w0.heap.size (a :: r) (a :: r)))
              case first =>
                as_aux_lemma =>
                  simp only [List.append]
                  refine wp_region_quiet_grown (by kernel_rfl) (by kernel_rfl) ?_
                  repeat (first | go_big_quiet_step ((first | (go_at_call 20; exact Calls.grown_of ((st_findg (H6.out.1.below (below_grown _ _ _)) HM.out.1.1.ok x.f1).mono fun e w' ⟨h, os', hw⟩ => ⟨by rw [h, HF.out], 0, os', hw⟩)) | (go_at_call 13; exact Calls.grown_of ((st_len (H6.out.1.below (below_grown _ _ _))).mono fun e w' ⟨h, hw⟩ => ⟨h, 0, #[], by rw [← hw, grow_empty]; rfl⟩)))) | quiet_step ((first | (go_at_call 20; exact Calls.grown_of ((st_findg (H6.out.1.below (below_grown _ _ _)) HM.out.1.1.ok x.f1).mono fun e w' ⟨h, os', hw⟩ => ⟨by rw [h, HF.out], 0, os', hw⟩)) | (go_at_call 13; exact Calls.grown_of ((st_len (H6.out.1.below (below_grown _ _ _))).mono fun e w' ⟨h, hw⟩ => ⟨h, 0, #[], by rw [← hw, grow_empty]; rfl⟩)))))
                  refine wpQuiet_nil ?_
                  intro _ hw'
                  obtain ⟨⟨nq, osq⟩, hw''⟩ := hw'
                  subst hw''
                  go_wp2_with fail
                  go_meet
                  exact ⟨rfl, ⟨H6.out.1.below (below_grown _ _ _)⟩⟩
              case rest =>
                obtain ⟨rfl, HZ⟩ := hcut
                go_wp2
                exact ⟨⟨k + 1, (a :: r), HX.out.2.2.1, by congr 1, HZ⟩, by have := HX.out.2.2.1; simp only [intOf]; omega⟩
    · obtain rfl : k = l.length := by omega
      go_wp2_with (go_at_call 8; refine (three_calls _).mono ?_; rintro e w3 ⟨rfl, hb⟩; have H3 := Aside0.mk (HT.out.2.2.trans (hb.mono HT.out.2.2.size)); clear hb)
      go_ret
      exact ⟨rfl, H3.out⟩
end Go.Proofs.Ytnenheaijacphaa.PAlarm
