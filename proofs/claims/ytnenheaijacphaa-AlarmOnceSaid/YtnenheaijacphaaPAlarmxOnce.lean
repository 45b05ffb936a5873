/- AlarmOnce's walk: it answers true, and nothing elder turns. -/
import Derived.Test.YtnenheaijacphaaOnceQ
import Derived.BigQuiet
import Derived.Deep.CutBlock
import Derived.Deep.DeepCutAuto
namespace Go.Proofs.Ytnenheaijacphaa.PAlarm
open Go Go.RowKit Go.Maps Go.Proofs.YtnenheaijacphaaW.PrintWords Go.Proofs.YtnenheaijacphaaW.PrintLast Go.Proofs.YtnenheaijacphaaW.PrintMore Go.Proofs.Ytnenheaijacphaa.Sl
set_option linter.unusedVariables false
set_option linter.unusedSimpArgs false

theorem box3c {E : Nat} {w3 : World} {gb : Nat} {a b c : Value} (h : w3.heap[gb]? = some (.cells #[a, b, c] E (0, 0))) :
    w3.cell? ⟨gb, 0, none⟩ = some a ∧ w3.cell? ⟨gb, 1, none⟩ = some b ∧ w3.cell? ⟨gb, 2, none⟩ = some c :=
  ⟨(blk_cell h 0).trans rfl, (blk_cell h 1).trans rfl, (blk_cell h 2).trans rfl⟩
theorem not_take {l : List Int} (h : l.Nodup) {j : Nat} (hj : j < l.length) : l[j] ∉ l.take j := by
  intro hm
  obtain ⟨i, hi, e⟩ := List.getElem_of_mem hm
  rw [List.getElem_take] at e
  have hil : i < j := by simp at hi; omega
  have := (List.pairwise_iff_getElem.1 h) i j (by omega) hj hil
  exact this e
section
variable {w W : World} {p b sb ab : Nat} {L : List S53} {S : List Bool} {A : List Int}
theorem own_next_nil (H : Own w W p b []) (R : Arr W sb ab S A) : Calls Try.prog 19 #[.pointer (some ⟨p, 0, none⟩)] W fun e w' => e = .returned (.tuple #[.int .i64 0, .bool false]) ∧ Own w w' p b [] ∧ Arr w' sb ab S A ∧ Below W.heap.size W w' := own_next2 H R
theorem own_next_cons {a : S53} {r : List S53} (H : Own w W p b (a :: r)) (R : Arr W sb ab S A) : Calls Try.prog 19 #[.pointer (some ⟨p, 0, none⟩)] W fun e w' => e = .returned (.tuple #[.int .i64 a.f1, .bool true]) ∧ Own w w' p b (a :: r) ∧ Arr w' sb ab S A ∧ Below W.heap.size W w' := own_next2 H R
end
theorem big_small {m : Nat} (h : m < 20) : big (m : Int) = true := by rw [big_iff]; omega
theorem arr_new (w0 : World) (c1 c2 : Array Value) (h1 : c1 = ((List.replicate 20 false).map Value.bool).toArray := by rfl) (h2 : c2 = ((List.replicate 20 (0 : Int)).map (Value.int .i64)).toArray := by rfl) :
    Arr ((w0.alloc (.cells c1 55)).alloc (.cells c2 56)) w0.heap.size (w0.heap.size + 1) (List.replicate 20 false) (List.replicate 20 0) := by
  subst h1 h2
  have e : (w0.alloc (.cells ((List.replicate 20 false).map Value.bool).toArray 55)).heap.size = w0.heap.size + 1 := by simp
  refine ⟨?_, ?_⟩
  · rw [Below.heap_alloc _ _ _ (by simp)]; exact Array.getElem?_push_size
  · rw [← e]; exact Array.getElem?_push_size
set_option maxRecDepth 100000 in
theorem once_long (A0 : Option Addr) (c0 : Nat) (l : List S28) (w : World) (h : 600 < l.length) : Calls Try.prog 6 #[.slice A0 l.length c0] w fun e w' => e = .returned (.bool true) ∧ Below w.heap.size w w' := by
  have hI : (600 : Int) < (l.length : Int) := by omega
  clear h
  go_enter Try.func6, Try.ntmps6
  go_wp2_with (first | (go_at_call 9; refine (own_new _).mono ?_; rintro e w0 ⟨p, b, rfl, h0⟩; have H0 := Aside0.mk h0; clear h0) | (go_at_call 8; refine (three_calls _).mono ?_; rintro e w3 ⟨rfl, hb⟩; have H3 := Aside0.mk (H0.out.2.trans (hb.mono H0.out.2.size)); clear hb))
  go_ret
  exact ⟨rfl, H3.out⟩
set_option maxHeartbeats 8000000 in
set_option maxRecDepth 100000 in
theorem once_ok (A0 : Option Addr) (c0 : Nat) (l : List S28) (w : World) (hC : Kd.C k28 w A0 l.length l) (h : l.length ≤ 600) : Calls Try.prog 6 #[.slice A0 l.length c0] w fun e w' => e = .returned (.bool true) ∧ Below w.heap.size w w' := by
  have hu28 := Try.underlying28
  have hI : (l.length : Int) ≤ 600 := by omega
  have HH := Aside0.mk (And.intro hC h)
  clear hC h
  go_enter Try.func6, Try.ntmps6
  go_wp2_with (go_at_call 9; refine (own_new _).mono ?_; rintro e w0 ⟨p, b, rfl, h0⟩; have H0 := Aside0.mk h0; clear h0)
  have HS : Aside0 (Own w ((w0.alloc (.cells #[.bool false, .bool false, .bool false, .bool false, .bool false, .bool false, .bool false, .bool false, .bool false, .bool false, .bool false, .bool false, .bool false, .bool false, .bool false, .bool false, .bool false, .bool false, .bool false, .bool false] 55)).alloc (.cells #[.int .i64 0, .int .i64 0, .int .i64 0, .int .i64 0, .int .i64 0, .int .i64 0, .int .i64 0, .int .i64 0, .int .i64 0, .int .i64 0, .int .i64 0, .int .i64 0, .int .i64 0, .int .i64 0, .int .i64 0, .int .i64 0, .int .i64 0, .int .i64 0, .int .i64 0, .int .i64 0] 56)) p b [] ∧ Arr ((w0.alloc (.cells #[.bool false, .bool false, .bool false, .bool false, .bool false, .bool false, .bool false, .bool false, .bool false, .bool false, .bool false, .bool false, .bool false, .bool false, .bool false, .bool false, .bool false, .bool false, .bool false, .bool false] 55)).alloc (.cells #[.int .i64 0, .int .i64 0, .int .i64 0, .int .i64 0, .int .i64 0, .int .i64 0, .int .i64 0, .int .i64 0, .int .i64 0, .int .i64 0, .int .i64 0, .int .i64 0, .int .i64 0, .int .i64 0, .int .i64 0, .int .i64 0, .int .i64 0, .int .i64 0, .int .i64 0, .int .i64 0] 56)) w0.heap.size (w0.heap.size + 1) (List.replicate 20 false) (List.replicate 20 0)) :=
    ⟨H0.out.below (((Below.refl w0.heap.size w0).alloc (Nat.le_refl _) _).alloc (by simp) _), arr_new w0 _ _⟩
  have HBs := Aside0.mk (show w.heap.size ≤ w0.heap.size ∧ w.heap.size ≤ w0.heap.size + 1 from ⟨H0.out.2.size, Nat.le_succ_of_le H0.out.2.size⟩)
  go_loopw [32] (fun i wr => ∃ (k : Nat) (L : List S53) (S : List Bool) (A : List Int), k ≤ l.length ∧ i = .int .i64 k ∧ Aside0 (Own w wr p b L ∧ Arr wr w0.heap.size (w0.heap.size + 1) S A ∧ Inv L S A)) (fun i _ => l.length - (intOf i).toNat)
  case atStart => exact ⟨0, [], _, _, Nat.zero_le _, rfl, ⟨HS.out.1, HS.out.2, Inv.start⟩⟩
  case round =>
    obtain ⟨k, L, S, A, hk, rfl, HI⟩ := hrel
    clear HS
    by_cases hlt : k < l.length
    · have hltI : (k : Int) < (l.length : Int) := by omega
      obtain ⟨ad, hA, x0, x1, x2⟩ := at_T28 (Kd.C_below HH.out.1 HI.out.1.2) (k : Int) (by omega) hltI
      simp only [Int.toNat_natCast] at x0 x1 x2
      generalize rd_T28 l (k : Int) = x at *
      generalize hn : x.f1 = n at *
      clear hn
      subst hA
      have hal := (Below.refl wr.heap.size wr).alloc (Nat.le_refl _) (.cells #[.int .i64 x.f0, .int .i64 n, .int .i64 x.f2] 28)
      have hbox : (wr.alloc (.cells #[.int .i64 x.f0, .int .i64 n, .int .i64 x.f2] 28)).heap[wr.heap.size]? = some (.cells #[.int .i64 x.f0, .int .i64 n, .int .i64 x.f2] 28 (0, 0)) := Array.getElem?_push_size
      have hne1 : ¬ wr.heap.size = w0.heap.size := by have := blk_lt HI.out.2.1.1; omega
      have hne2 : ¬ w0.heap.size = wr.heap.size := fun h => hne1 h.symm
      have hne3 : ¬ wr.heap.size = w0.heap.size + 1 := by have := blk_lt HI.out.2.1.2; omega
      have hne4 : ¬ w0.heap.size + 1 = wr.heap.size := fun h => hne3 h.symm
      have HX := Aside0.mk (And.intro (HI.out.1.below hal) (And.intro (HI.out.2.1.below hal) (And.intro hbox (And.intro hlt hI))))
      clear hal hbox hlt
      by_cases h0 : n < 0
      · have d0 : decide (n < 0) = true := by simpa using h0
        clear h0
        as_aux_lemma =>
          go_wp2
          exact ⟨⟨k + 1, L, S, A, HX.out.2.2.2.1, by congr 1, ⟨HX.out.1, HX.out.2.1, HI.out.2.2⟩⟩, by have := HX.out.2.2.2.1; simp only [intOf]; omega⟩
      · have d0 : decide (n < 0) = false := by simpa using h0
        by_cases h1 : 19 < n
        · have d1 : decide (19 < n) = true := by simpa using h1
          clear h0 h1
          as_aux_lemma =>
            go_wp2
            exact ⟨⟨k + 1, L, S, A, HX.out.2.2.2.1, by congr 1, ⟨HX.out.1, HX.out.2.1, HI.out.2.2⟩⟩, by have := HX.out.2.2.2.1; simp only [intOf]; omega⟩
        · have d1 : decide (19 < n) = false := by simpa using h1
          obtain ⟨m, rfl⟩ : ∃ m : Nat, n = (m : Int) := ⟨n.toNat, by omega⟩
          have hm : m < 20 := by omega
          have hmI : (m : Int) < 20 := by omega
          clear h0 h1
          by_cases e0 : x.f0 = 0
          · have q0 : (x.f0 == 0) = true := by simp [e0]
            clear e0
            as_aux_lemma =>
              obtain ⟨r, M, hset⟩ : ∃ r M, set L (m : Int) x.f2 = (r, M) := ⟨_, _, rfl⟩
              by_cases hr : r = 0
              · subst hr
                obtain ⟨s1, s2, s3, s4⟩ := set_zero HI.out.1.1.ok hset
                have hinv := HI.out.2.2.put HI.out.1.1.ok m x.f2 hm s1 s2 s3
                rw [← s4] at hinv
                have HV := Aside0.mk (And.intro hinv hset)
                clear s1 s2 s3 s4 hinv hset
                go_wp2_with (go_at_call 10; refine (own_set2 HX.out.1 HX.out.2.1 m x.f2 _ _ HV.out.2).mono ?_; rintro e w6 ⟨rfl, h6, a6, k6⟩; have hbx := k6.blk HX.out.2.2.1 (by have := HI.out.1.1.lt.2; omega); obtain ⟨g0, g1, g2⟩ := box3c hbx; have c6 := a6.set_cell m (by rw [HI.out.2.2.ls]; exact hm); have c7 := a6.at_cell m (by rw [HI.out.2.2.la]; exact hm); have f6 := blk_frozen a6.1 m; have f7 := blk_frozen a6.2 m; have H6 := Aside0.mk (And.intro h6 a6); clear h6 a6 k6 hbx)
                have hown := (H6.out.1.store (n := m) (v := .bool true) HBs.out.1 (H6.out.1.1.arr_ne H6.out.2).1 (H6.out.1.1.arr_ne H6.out.2).2.2.1)
                have harr := H6.out.2.put_set m true
                exact ⟨⟨k + 1, M, S.set m true, A.set m x.f2, HX.out.2.2.2.1, by congr 1, ⟨hown.store (n := m) (v := .int .i64 x.f2) HBs.out.2 (hown.1.arr_ne harr).2.1 (hown.1.arr_ne harr).2.2.2, harr.put_at m x.f2, HV.out.1⟩⟩, by have := HX.out.2.2.2.1; simp only [intOf]; omega⟩
              · obtain rfl := set_err hset hr
                have hr0 : (r == 0) = false := by simpa using hr
                have HV := Aside0.mk hset
                clear hset hr
                go_wp2_with (go_at_call 10; refine (own_set2 HX.out.1 HX.out.2.1 m x.f2 _ _ HV.out).mono ?_; rintro e w6 ⟨rfl, h6, a6, k6⟩; have H6 := Aside0.mk (And.intro h6 a6); clear h6 a6 k6)
                exact ⟨⟨k + 1, M, S, A, HX.out.2.2.2.1, by congr 1, ⟨H6.out.1, H6.out.2, HI.out.2.2⟩⟩, by have := HX.out.2.2.2.1; simp only [intOf]; omega⟩
          · have q0 : (x.f0 == 0) = false := by simpa using e0
            by_cases e1 : x.f0 = 1
            · have q1 : (x.f0 == 1) = true := by simp [e1]
              clear e0 e1
              as_aux_lemma =>
                obtain ⟨r, M, hset⟩ : ∃ r M, set L (m : Int) x.f2 = (r, M) := ⟨_, _, rfl⟩
                by_cases hr : r = 0
                · subst hr
                  obtain ⟨s1, s2, s3, s4⟩ := set_zero HI.out.1.1.ok hset
                  have hinv := HI.out.2.2.put HI.out.1.1.ok m x.f2 hm s1 s2 s3
                  rw [← s4] at hinv
                  have HV := Aside0.mk (And.intro hinv hset)
                  clear s1 s2 s3 s4 hinv hset
                  go_wp2_with (go_at_call 10; refine (own_set2 HX.out.1 HX.out.2.1 m x.f2 _ _ HV.out.2).mono ?_; rintro e w6 ⟨rfl, h6, a6, k6⟩; have hbx := k6.blk HX.out.2.2.1 (by have := HI.out.1.1.lt.2; omega); obtain ⟨g0, g1, g2⟩ := box3c hbx; have c6 := a6.set_cell m (by rw [HI.out.2.2.ls]; exact hm); have c7 := a6.at_cell m (by rw [HI.out.2.2.la]; exact hm); have f6 := blk_frozen a6.1 m; have f7 := blk_frozen a6.2 m; have H6 := Aside0.mk (And.intro h6 a6); clear h6 a6 k6 hbx)
                  have hown := (H6.out.1.store (n := m) (v := .bool true) HBs.out.1 (H6.out.1.1.arr_ne H6.out.2).1 (H6.out.1.1.arr_ne H6.out.2).2.2.1)
                  have harr := H6.out.2.put_set m true
                  exact ⟨⟨k + 1, M, S.set m true, A.set m x.f2, HX.out.2.2.2.1, by congr 1, ⟨hown.store (n := m) (v := .int .i64 x.f2) HBs.out.2 (hown.1.arr_ne harr).2.1 (hown.1.arr_ne harr).2.2.2, harr.put_at m x.f2, HV.out.1⟩⟩, by have := HX.out.2.2.2.1; simp only [intOf]; omega⟩
                · obtain rfl := set_err hset hr
                  have hr0 : (r == 0) = false := by simpa using hr
                  have HV := Aside0.mk hset
                  clear hset hr
                  go_wp2_with (go_at_call 10; refine (own_set2 HX.out.1 HX.out.2.1 m x.f2 _ _ HV.out).mono ?_; rintro e w6 ⟨rfl, h6, a6, k6⟩; have H6 := Aside0.mk (And.intro h6 a6); clear h6 a6 k6)
                  exact ⟨⟨k + 1, M, S, A, HX.out.2.2.2.1, by congr 1, ⟨H6.out.1, H6.out.2, HI.out.2.2⟩⟩, by have := HX.out.2.2.2.1; simp only [intOf]; omega⟩
            · have q1 : (x.f0 == 1) = false := by simpa using e1
              by_cases e2 : x.f0 = 2
              · have q2 : (x.f0 == 2) = true := by simp [e2]
                clear e0 e1 e2
                as_aux_lemma =>
                  go_wp2_with (go_at_call 15; refine (own_stop2 HX.out.1 HX.out.2.1 m (big_small hm)).mono ?_; rintro e w6 ⟨rfl, h6, a6, k6⟩; have hbx := k6.blk HX.out.2.2.1 (by have := HI.out.1.1.lt.2; omega); obtain ⟨g0, g1, g2⟩ := box3c hbx; have c6 := a6.set_cell m (by rw [HI.out.2.2.ls]; exact hm); rw [HI.out.2.2.set m hm] at c6; have f6 := blk_frozen a6.1 m; have H6 := Aside0.mk (And.intro h6 a6); clear h6 a6 k6 hbx)
                  exact ⟨⟨k + 1, drp L m, S.set m false, A, HX.out.2.2.2.1, by congr 1, ⟨H6.out.1.store (n := m) (v := .bool false) HBs.out.1 (H6.out.1.1.arr_ne H6.out.2).1 (H6.out.1.1.arr_ne H6.out.2).2.2.1, H6.out.2.put_set m false, HI.out.2.2.drp m hm⟩⟩, by have := HX.out.2.2.2.1; simp only [intOf]; omega⟩
              · have q2 : (x.f0 == 2) = false := by simpa using e2
                by_cases e3 : x.f0 = 3
                · have q3 : (x.f0 == 3) = true := by simp [e3]
                  clear e0 e1 e2 e3
                  as_aux_lemma =>
                    cases hbt : big x.f2 with
                    | false =>
                      have HV := Aside0.mk (due_small (L := L) hbt)
                      clear hbt
                      go_wp2_with (go_at_call 11; refine (own_due2 HX.out.1 HX.out.2.1 x.f2 _ _ _ HV.out).mono ?_; rintro e w6 ⟨v6, rfl, r6, h6, a6, k6⟩; have H6 := Aside0.mk (And.intro h6 a6); clear h6 a6 k6 r6)
                      exact ⟨⟨k + 1, L, S, A, HX.out.2.2.2.1, by congr 1, ⟨H6.out.1, H6.out.2, HI.out.2.2⟩⟩, by have := HX.out.2.2.2.1; simp only [intOf]; omega⟩
                    | true =>
                      have HV := Aside0.mk (due_big' (L := L) hbt)
                      have hdl : ((dueL L x.f2).length : Int) ≤ 256 := by have := due_len L x.f2; have := HI.out.1.1.ok.len; omega
                      clear hbt
                      go_wp2_with (go_at_call 11; refine (own_due2 HX.out.1 HX.out.2.1 x.f2 _ _ _ HV.out).mono ?_; rintro e w6 ⟨v6, rfl, r6, h6, a6, k6⟩; have hbx := k6.blk HX.out.2.2.1 (by have := HI.out.1.1.lt.2; omega); obtain ⟨A6, c6, rfl⟩ := Kd.R_slice r6; have H6 := Aside0.mk (And.intro h6 (And.intro a6 (And.intro hbx (And.intro (Kd.R_lower (base' := wr.heap.size) r6 (by simp)) (Struck.start HI.out.2.2.ls))))); clear h6 a6 k6 hbx r6)
                      have HO := Aside0.mk (And.intro HI.out.2.2 (And.intro HI.out.1.1.ok (And.intro HX.out.2.2.2.1 HX.out.2.2.2.2)))
                      have HZ := Aside0.mk (show w0.heap.size < wr.heap.size ∧ w0.heap.size + 1 < wr.heap.size from ⟨blk_lt HI.out.2.1.1, blk_lt HI.out.2.1.2⟩)
                      obtain ⟨wo, hwo⟩ : ∃ wo : World, wo = wr := ⟨_, rfl⟩
                      subst hwo
                      clear x0 x1 x2
                      go_loopw [99] (fun jv wr2 => ∃ (j : Nat) (S' : List Bool), j ≤ (dueL L x.f2).length ∧ jv = .int .i64 j ∧ Aside0 (Own w wr2 p b (rest L x.f2) ∧ Arr wr2 w0.heap.size (w0.heap.size + 1) S' A ∧ wr2.heap[wo.heap.size]? = some (.cells #[.int .i64 x.f0, .int .i64 (m : Int), .int .i64 x.f2] 28 (0, 0)) ∧ Row wr2 wo.heap.size (.slice A6 (dueL L x.f2).length c6) (dueL L x.f2) ∧ Struck S S' ((dueL L x.f2).take j))) (fun jv _ => (dueL L x.f2).length - (intOf jv).toNat)
                      case atStart => exact ⟨0, S, Nat.zero_le _, rfl, H6⟩
                      case round =>
                        obtain ⟨j, S', hj, rfl, HJ⟩ := hrel
                        by_cases hjl : j < (dueL L x.f2).length
                        · have hjI : (j : Int) < ((dueL L x.f2).length : Int) := by omega
                          obtain ⟨ad6, hA6, y0⟩ := int_at HJ.out.2.2.2.1 j hjl
                          obtain ⟨c, hc1, hc2⟩ := (mem_due HO.out.2.1).1 (List.getElem_mem hjl)
                          have hrg := HO.out.1.rng _ _ hc1
                          have hnd : (dueL L x.f2)[j] ∉ (dueL L x.f2).take j := not_take (due_nodup HO.out.2.1 x.f2) hjl
                          have hts := List.take_append_getElem hjl
                          generalize (dueL L x.f2)[j] = y at *
                          obtain ⟨m2, rfl⟩ : ∃ m2 : Nat, y = (m2 : Int) := ⟨y.toNat, by omega⟩
                          have hm2 : m2 < 20 := by omega
                          have hm2I : (m2 : Int) < 20 := by omega
                          have hS : S'.getD m2 false = true := by rw [HJ.out.2.2.2.2.get m2 hm2, HO.out.1.set m2 hm2, hc1]; simp [hnd]
                          have hAA : A.getD m2 0 = c := HO.out.1.at_ m2 c hm2 hc1
                          have z0 : decide ((m2 : Int) < 0) = false := by simp
                          have z1 : decide (19 < (m2 : Int)) = false := by simp; omega
                          have z2 : decide (x.f2 < c) = false := by simp; omega
                          have c1 := HJ.out.2.1.set_cell m2 (by rw [HJ.out.2.2.2.2.len]; exact hm2)
                          have c2 := HJ.out.2.1.at_cell m2 (by rw [HO.out.1.la]; exact hm2)
                          rw [hS] at c1
                          rw [hAA] at c2
                          have f1 := blk_frozen HJ.out.2.1.1 m2
                          obtain ⟨g0, g1, g2⟩ := box3c HJ.out.2.2.1
                          have HN := Aside0.mk (And.intro hts (And.intro hjl hm2))
                          clear hc1 hc2 hrg hnd hts hS hAA hjl hm2
                          subst hA6
                          go_wp2_with fail
                          go_quiet (fail)
                          go_wp2
                          have hb2 := HJ.out.1.below (pw_below_drewN (Below.refl _ _) nq)
                          have ha1 := HJ.out.2.1.below (pw_below_drewN (Below.refl _ _) nq)
                          have hw2 := hb2.store (n := m2) (v := .bool false) HBs.out.1 (HJ.out.1.1.arr_ne HJ.out.2.1).1 (HJ.out.1.1.arr_ne HJ.out.2.1).2.2.1
                          have ha2 := ha1.put_set m2 false
                          have hk2 : Kp (fun k => k = w0.heap.size) wr ((wr.drewN nq).setCell ⟨w0.heap.size, m2, none⟩ (.bool false)) := ((Kp.refl (fun k => k = w0.heap.size) wr).drewN nq).set (p := ⟨w0.heap.size, m2, none⟩) (.inl rfl) _
                          exact ⟨⟨j + 1, S'.set m2 false, HN.out.2.1, by congr 1, ⟨hw2, ha2, hk2.blk HJ.out.2.2.1 (by have := HZ.out; omega), R_kpb HJ.out.2.2.2.1 hk2 (fun i hi e => by have := HZ.out; omega), by rw [← HN.out.1]; exact HJ.out.2.2.2.2.step m2 HN.out.2.2⟩⟩, by have := HN.out.2.1; simp only [intOf]; omega⟩
                        · obtain rfl : j = (dueL L x.f2).length := by omega
                          rw [List.take_length] at HJ
                          have hinv := HJ.out.2.2.2.2.end_ HO.out.2.1 HO.out.1
                          have hok : Ok (rest L x.f2) := HJ.out.1.1.ok
                          have hgt : ∀ y c, at_ (rest L x.f2) y = some c → x.f2 < c := fun y c e => rest_gt HO.out.2.1 e
                          have HK := Aside0.mk (And.intro HJ.out.1 (And.intro HJ.out.2.1 HJ.out.2.2.1))
                          have HG := Aside0.mk (And.intro hinv (And.intro hgt hok))
                          clear hinv hgt hok hjl hj
                          obtain ⟨wo2, hwo2⟩ : ∃ wo2 : World, wo2 = wr := ⟨_, rfl⟩
                          subst hwo2
                          go_wp2_with fail
                          go_loopw [14] (fun iv wr3 => ∃ i : Nat, i ≤ 20 ∧ iv = .int .i64 i ∧ Aside0 (Own w wr3 p b (rest L x.f2) ∧ Arr wr3 w0.heap.size (w0.heap.size + 1) S' A ∧ wr3.heap[wo.heap.size]? = some (.cells #[.int .i64 x.f0, .int .i64 (m : Int), .int .i64 x.f2] 28 (0, 0)))) (fun iv _ => 20 - (intOf iv).toNat)
                          case atStart => exact ⟨0, Nat.zero_le _, rfl, HK⟩
                          case round =>
                            obtain ⟨i, hi, rfl, HL⟩ := hrel
                            obtain ⟨g0, g1, g2⟩ := box3c HL.out.2.2
                            by_cases hil : i < 20
                            · have hiI : (i : Int) < 20 := by omega
                              have c1 := HL.out.2.1.set_cell i (by rw [HG.out.1.ls]; exact hil)
                              have c2 := HL.out.2.1.at_cell i (by rw [HG.out.1.la]; exact hil)
                              rw [HG.out.1.set i hil] at c1
                              cases ha : at_ (rest L x.f2) (i : Int) with
                              | none =>
                                rw [ha] at c1
                                have c1 : wr.cell? ⟨w0.heap.size, i, none⟩ = some (.bool false) := c1
                                have HN := Aside0.mk hil
                                clear ha hil
                                go_wp2_with fail
                                go_quiet (fail)
                                go_wp2
                                exact ⟨⟨i + 1, HN.out, by congr 1, ⟨HL.out.1.below (pw_below_drewN (Below.refl _ _) _), HL.out.2.1.below (pw_below_drewN (Below.refl _ _) _), HL.out.2.2⟩⟩, by have := HN.out; simp only [intOf]; omega⟩
                              | some c =>
                                rw [ha] at c1
                                have c1 : wr.cell? ⟨w0.heap.size, i, none⟩ = some (.bool true) := c1
                                rw [HG.out.1.at_ i c hil ha] at c2
                                have z2 : decide (c ≤ x.f2) = false := by have := HG.out.2.1 _ c ha; simp; omega
                                have HN := Aside0.mk hil
                                clear ha hil
                                go_wp2_with fail
                                go_quiet (fail)
                                go_wp2
                                exact ⟨⟨i + 1, HN.out, by congr 1, ⟨HL.out.1.below (pw_below_drewN (Below.refl _ _) _), HL.out.2.1.below (pw_below_drewN (Below.refl _ _) _), HL.out.2.2⟩⟩, by have := HN.out; simp only [intOf]; omega⟩
                            · obtain rfl : i = 20 := by omega
                              clear hil hi
                              cases hR : rest L x.f2 with
                              | nil =>
                                rw [hR] at HL HG
                                clear hR
                                go_wp2_with (go_at_call 19; refine (own_next_nil HL.out.1 HL.out.2.1).mono ?_; rintro e w9 ⟨rfl, h9, a9, b9⟩; obtain ⟨u0, u1, u2⟩ := box3c ((b9.block wo.heap.size (blk_lt HL.out.2.2)).trans HL.out.2.2); have H9 := Aside0.mk (And.intro h9 a9); clear h9 a9 b9)
                                exact ⟨⟨k + 1, [], S', A, HO.out.2.2.1, by congr 1, ⟨H9.out.1, H9.out.2, HG.out.1⟩⟩, by have := HO.out.2.2.1; simp only [intOf]; omega⟩
                              | cons a r =>
                                rw [hR] at HL HG
                                clear hR
                                have hlt9 : x.f2 < a.f1 := HG.out.2.1 a.f0 a.f1 ((at_iff HG.out.2.2.one _ _).2 (by simp))
                                have z9 : decide (a.f1 ≤ x.f2) = false := by simp; omega
                                clear hlt9
                                go_wp2_with (go_at_call 19; refine (own_next_cons HL.out.1 HL.out.2.1).mono ?_; rintro e w9 ⟨rfl, h9, a9, b9⟩; obtain ⟨u0, u1, u2⟩ := box3c ((b9.block wo.heap.size (blk_lt HL.out.2.2)).trans HL.out.2.2); have H9 := Aside0.mk (And.intro h9 a9); clear h9 a9 b9)
                                exact ⟨⟨k + 1, a :: r, S', A, HO.out.2.2.1, by congr 1, ⟨H9.out.1, H9.out.2, HG.out.1⟩⟩, by have := HO.out.2.2.1; simp only [intOf]; omega⟩
                · have q3 : (x.f0 == 3) = false := by simpa using e3
                  clear e0 e1 e2 e3
                  as_aux_lemma =>
                    go_wp2
                    exact ⟨⟨k + 1, L, S, A, HX.out.2.2.2.1, by congr 1, ⟨HX.out.1, HX.out.2.1, HI.out.2.2⟩⟩, by have := HX.out.2.2.2.1; simp only [intOf]; omega⟩
    · obtain rfl : k = l.length := by omega
      go_wp2_with (go_at_call 8; refine (three_calls _).mono ?_; rintro e w3 ⟨rfl, hb⟩; have H3 := Aside0.mk (HI.out.1.2.trans (hb.mono HI.out.1.2.size)); clear hb)
      go_ret
      exact ⟨rfl, H3.out⟩
end Go.Proofs.Ytnenheaijacphaa.PAlarm
