/- sextonlaw04.PostSteps: it answers true. -/
import Derived.Test.YtndjhpkpeklgfaaDoesAll
namespace Go.Proofs.Ytndjhpkpeklgfaa.PPost
open Go Go.RowKit Go.Proofs.YtndjhpkpeklgfaaW.PrintWords Go.Proofs.YtndjhpkpeklgfaaW.PrintLast Go.Proofs.YtndjhpkpeklgfaaW.PrintMore Go.Proofs.Ytndjhpkpeklgfaa.Sl
set_option linter.unusedVariables false
set_option linter.unusedSimpArgs false
theorem ints_l0 (xs : List Int) (hx : xs.length ≤ 1000) : ∀ m i : Nat, i + m = xs.length → sextonplain_Ints.l0 (m + 1) xs xs (xs.length : Int) (i : Int) = some true
  | 0, i, h => by rw [sextonplain_Ints.l0, if_neg (by omega)]; simp
  | m + 1, i, h => by
    have e : wrap64 ((i : Int) + 1) = ((i + 1 : Nat) : Int) := by unfold wrap64; omega
    rw [sextonplain_Ints.l0, if_pos (by omega), if_neg (by omega), if_pos (by omega), if_pos (by omega), if_pos (by omega), if_pos rfl, e]
    exact ints_l0 xs hx m (i + 1) (by omega)
theorem ints_same (xs : List Int) (hx : xs.length ≤ 1000) : sextonplain_Ints.f (xs.length + 1) xs xs = some true := ints_l0 xs hx xs.length 0 (by omega)
set_option maxHeartbeats 1000000 in
set_option maxRecDepth 100000 in
theorem steps_bad (nodes : Int) (A0 : Option Addr) (c0 : Nat) (l0 : List S29) (w : World) (h : nodes < 1 ∨ 32 < nodes) : Calls Try.prog 6 #[.int .i64 nodes, .slice A0 l0.length c0] w fun e w' => e = .returned (.bool true) ∧ Below w.heap.size w w' := by
  have H := Aside0.mk h
  clear h
  go_enter Try.func6, Try.ntmps6
  go_wp2_with (first | (go_at_call 8; refine (new_bad nodes _ H.out).mono ?_; rintro e w1 ⟨rfl, hb⟩; have HO := Aside0.mk hb; clear hb) | (go_at_call 16; refine (rnew_bad nodes _ H.out).mono ?_; rintro e w2 ⟨rfl, hb⟩; have HS := Aside0.mk (below_step HO.out hb); clear hb) | (go_at_call 9; refine (twice_calls _).mono ?_; rintro e w6 ⟨rfl, hb⟩; have HT := Aside0.mk (below_step HS.out hb); clear hb))
  go_ret
  exact ⟨rfl, HT.out⟩
set_option maxHeartbeats 1000000 in
set_option maxRecDepth 100000 in
theorem steps_long (nodes : Int) (A0 : Option Addr) (c0 : Nat) (l0 : List S29) (w : World) (h1 : 1 ≤ nodes) (h2 : nodes ≤ 32) (h : 400 < l0.length) : Calls Try.prog 6 #[.int .i64 nodes, .slice A0 l0.length c0] w fun e w' => e = .returned (.bool true) ∧ Below w.heap.size w w' := by
  have h3 : (400 : Int) < (l0.length : Int) := by omega
  clear h
  go_enter Try.func6, Try.ntmps6
  go_wp2_with (first | (go_at_call 8; refine (new_ok nodes _ h1 h2).mono ?_; rintro e w1 ⟨p, rfl, hp, hb⟩; have HO := Aside0.mk (And.intro hp hb); clear hp hb) | (go_at_call 16; refine (rnew_ok nodes _ h1 h2).mono ?_; rintro e w2 ⟨r, rfl, hr, hb⟩; have HS := Aside0.mk (Did.start HO.out.1 HO.out.2 hr hb); clear hr hb) | (go_at_call 9; refine (twice_calls _).mono ?_; rintro e w6 ⟨rfl, hb⟩; have HT := Aside0.mk (below_step HS.out.below hb); clear hb))
  go_ret
  exact ⟨rfl, HT.out⟩
set_option maxHeartbeats 4000000 in
set_option maxRecDepth 100000 in
theorem steps_ok (nodes : Int) (A0 : Option Addr) (c0 : Nat) (l0 : List S29) (w : World) (hr0 : Kd.C k29 w A0 l0.length l0) (h1 : 1 ≤ nodes) (h2 : nodes ≤ 32) (h : l0.length ≤ 400) (hm : ∀ x ∈ l0, x.f1 ≤ 9223372036854775807) : Calls Try.prog 6 #[.int .i64 nodes, .slice A0 l0.length c0] w fun e w' => e = .returned (.bool true) ∧ Below w.heap.size w w' := by
  have hu52 := Try.underlying52
  have h3 : (l0.length : Int) ≤ 400 := by omega
  have HA := Aside0.mk (And.intro hr0 (And.intro h hm))
  clear h hr0 hm
  go_enter Try.func6, Try.ntmps6
  go_wp2_with (first | (go_at_call 8; refine (new_ok nodes _ h1 h2).mono ?_; rintro e w1 ⟨p, rfl, hp, hb⟩; have HO := Aside0.mk (And.intro hp hb); clear hp hb) | (go_at_call 16; refine (rnew_ok nodes _ h1 h2).mono ?_; rintro e w2 ⟨r, rfl, hr, hb⟩; have HS := Aside0.mk (Did.start HO.out.1 HO.out.2 hr hb); clear hr hb))
  go_loopw [44] (fun i wr => ∃ k : Nat, k ≤ l0.length ∧ i = .int .i64 k ∧ ∃ W : World, W = wr ∧ Aside0 (Did w W w.heap.size p r nodes k)) (fun i _ => l0.length - (intOf i).toNat)
  case atStart => exact ⟨0, Nat.zero_le _, rfl, _, rfl, HS⟩
  case round =>
    obtain ⟨k, hk, rfl, W, hW, HI⟩ := hrel
    subst hW
    by_cases hlt : k < l0.length
    · have hltI : (k : Int) < (l0.length : Int) := by omega
      obtain ⟨ad, hA, x0, x1, x2, x3, x4⟩ := at_T29 (Kd.C_below HA.out.1 HI.out.below) (k : Int) (by omega) hltI
      simp only [Int.toNat_natCast] at x0 x1 x2 x3 x4
      have hxm : (rd_T29 l0 (k : Int)).f1 ≤ 9223372036854775807 := HA.out.2.2 _ (by
        have e : rd_T29 l0 (k : Int) = l0[k] := by simp [rd_T29, List.getD_eq_getElem?_getD, List.getElem?_eq_getElem hlt]
        rw [e]; exact List.getElem_mem hlt)
      generalize rd_T29 l0 (k : Int) = x at *
      have HN := Aside0.mk (And.intro hlt hxm)
      clear hlt hxm hk
      subst hA
      go_wp2_with (first | ((with_reducible refine gate_dst (N := 10) rfl ?_); (try (refine gate_guard (by rfl) ?_; dsimp only)); refine box_event ?hg (N := 10) ?hd (cs := #[.int .i64 0, .int .i64 0, .int .i64 0, .int .i64 0, .string ⟨#[]⟩]) (t := 29) ?hr ?_; (case hd => rfl); (case hg => rfl); (case hr => first | (go_simp; done) | (go_simp; rfl)); intro gb hg w5 hbox hb; obtain ⟨g0, g1, g2, g3, g4, e0, e1, e2, e3, e4⟩ := box5_cells hbox; have HX := Aside0.mk (And.intro hg (And.intro hb hbox)); clear hg hb hbox) | (go_at_call 17; refine (does_calls _ k (HI.out.step (below5 (g := gb) HX.out.2.1 (by have := HX.out.1; omega) (.int .i64 x.f0) (.int .i64 x.f1) (.int .i64 x.f2) (.int .i64 x.f3) (.string x.f4))) (by have := HN.out.1; have := HA.out.2.1; omega) x HN.out.2).mono ?_; rintro e w6 ⟨rfl, hd⟩; have HD := Aside0.mk hd; clear hd))
      exact ⟨⟨k + 1, HN.out.1, by congr 1, _, rfl, HD⟩, by have := HN.out.1; simp only [intOf]; omega⟩
    · obtain rfl : k = l0.length := by omega
      clear hlt hk
      obtain ⟨o, q, last, L, hD, hF⟩ := HI.out
      obtain ⟨A, cp, f1, f2, f3, f4, f5⟩ := hD.re.open_
      obtain ⟨_, c0, c1, c2, _, _, _⟩ := po_cells f2 (Below.refl _ W)
      obtain ⟨_, hlc, hC⟩ := Kd.R_reads' f5
      have hLI : (L.length : Int) ≤ 400 := by have := hF.len; have := HA.out.2.1; omega
      have HD := Aside0.mk (And.intro hD (And.intro hC hF))
      clear hD hF f1 f2 f3 f4 f5 hlc hC
      go_wp2
      go_loopw [11, 59] (fun ov i wr => ∃ j : Nat, j ≤ L.length ∧ i = .int .i64 j ∧ Aside0 (Kd.R (Kd.int .i64) 3 wr W.heap.size (fun _ => True) ov (nums (L.take j))) ∧ Aside0 (Below W.heap.size W wr)) (fun _ i _ => L.length - (intOf i).toNat)
      case atStart => exact ⟨0, Nat.zero_le _, rfl, ⟨Kd.R_nil _ _ _ _ _⟩, ⟨Below.refl _ _⟩⟩
      case round =>
        obtain ⟨j, hj, rfl, HR, HB2⟩ := hrel
        by_cases hlt : j < L.length
        · have hltI : (j : Int) < (L.length : Int) := by omega
          obtain ⟨ad, hA, x0, x1, x2, x3⟩ := at_T52 (Kd.C_below HD.out.2.1 HB2.out) (j : Int) (by omega) hltI
          have hns := nums_snoc L j hlt
          simp only [Int.toNat_natCast] at x0 x1 x2 x3
          generalize rd_T52 L (j : Int) = x at *
          have HN := Aside0.mk (And.intro hns hlt)
          clear hns hlt
          subst hA
          go_wp2_with (first | ((with_reducible refine gate_dst (N := 13) rfl ?_); (try (refine gate_guard (by rfl) ?_; dsimp only)); refine box_event ?hg (N := 13) ?hd (cs := #[.int .i64 0, .int .i64 0, .int .i64 0, .string ⟨#[]⟩]) (t := 52) ?hr ?_; (case hd => rfl); (case hg => rfl); (case hr => first | (go_simp; done) | (go_simp; rfl)); intro gc hg w7 hbox hb; obtain ⟨g0, g1, g2, g3, e0, e1, e2, e3⟩ := box_cells hbox; have HX := Aside0.mk (And.intro hg (And.intro hb hbox)); clear hg hb hbox) | (at_builtin; refine Kd.R_append (W := ((((w7.setCell ⟨gc, 0, none⟩ (.int .i64 x.f0)).setCell ⟨gc, 1, none⟩ (.int .i64 x.f1)).setCell ⟨gc, 2, none⟩ (.int .i64 x.f2)).setCell ⟨gc, 3, none⟩ (.string x.f3))) (Kd.int .i64) (w0 := W) W.heap.size rfl (.tmp 63) (.tmp 66) 30 3 (.int .i64 0) 8 rfl Try.underlying30 info3i rfl (by decide) (by decide) u11 (nums (L.take j)) x.f0 [.int .i64 x.f0] (fun _ => True) (fun _ => False) ?e1 ?e2 rfl (fun _ h => h.elim) (fun _ _ => trivial) ?sO ?sB ?sS ?sL ?_; (case e1 => simp [Act.eval, Act.put]); (case e2 => simp [Act.eval, Act.put, World.setCell]); (case sO => exact Kd.R_below HR.out (below4 HX.out.2.1 (by have := HX.out.1; omega) _ _ _ _)); (case sB => exact HB2.out.trans ((below4 HX.out.2.1 (by have := HX.out.1; omega) _ _ _ _).mono HB2.out.size)); (case sS => exact (HB2.out.trans ((below4 HX.out.2.1 (by have := HX.out.1; omega) _ _ _ _).mono HB2.out.size)).size); (case sL => simp only [nums, List.length_map, List.length_take]; omega); intro v1 w9 hR1 hB1 _ _; have HR1 := Aside0.mk hR1; have HB1 := Aside0.mk hB1; clear hR1 hB1))
          exact ⟨⟨j + 1, HN.out.2, by congr 1, ⟨by rw [HN.out.1]; exact HR1.out⟩, HB1⟩, by have := HN.out.2; simp only [intOf]; omega⟩
        · obtain rfl : j = L.length := by omega
          rw [List.take_length] at HR
          obtain ⟨A2, cp2, rfl⟩ := Kd.R_slice HR.out
          clear hlt hj
          go_wp2_with (first | (go_at_call 15; refine (waiting_calls w.heap.size p o nodes last L _ (HD.out.1.step HB2.out).po (by have := HD.out.2.2.len; have := HA.out.2.1; omega)).mono ?_; rintro e w10 ⟨v, rfl, hR, hb⟩; obtain ⟨A1, cp1, rfl⟩ := Kd.R_slice hR; have HE := Aside0.mk (And.intro hR hb); clear hR hb) | (go_at_call 18; refine (sextonplain_Ints.calls ((nums L).length + 1) A1 cp1 (nums L) A2 cp2 (nums L) true _ (Kd.R_reads' HE.out.1).2.2 (Kd.R_reads' HE.out.1).2.1 (Kd.R_reads' (Kd.R_below HR.out HE.out.2)).2.2 (Kd.R_reads' (Kd.R_below HR.out HE.out.2)).2.1 (ints_same _ (by have := HD.out.2.2.len; have := HA.out.2.1; simp only [nums, List.length_map]; omega))).mono ?_; rintro e w11 ⟨rfl, hd⟩; have HI2 := Aside0.mk hd.below; clear hd) | (go_at_call 9; refine (twice_calls _).mono ?_; rintro e w12 ⟨rfl, hb⟩; have HT := Aside0.mk (below_step (((HD.out.1.step HB2.out).below.trans (HE.out.2.mono (HD.out.1.step HB2.out).below.size)).trans (HI2.out.mono (((HD.out.1.step HB2.out).below.trans (HE.out.2.mono (HD.out.1.step HB2.out).below.size)).size))) hb); clear hb))
          go_ret
          exact ⟨rfl, HT.out⟩
def sextonlaw04_PostSteps.f (a0 : Int) (l1 : List S29) : Option Bool := if ∀ x ∈ l1, x.f1 ≤ 9223372036854775807 then some true else none
theorem sextonlaw04_PostSteps.calls (a0 : Int) (A1 : Option Addr) (c1 : Nat) (l1 : List S29) (r : Bool) (w : World) (hr1 : Kd.C k29 w A1 l1.length l1) (hc1 : l1.length ≤ c1) (h : sextonlaw04_PostSteps.f a0 l1 = some r) :
    Calls Try.prog 6 #[.int .i64 a0, .slice A1 l1.length c1] w fun e w' => e = .returned (.bool r) ∧ Below w.heap.size w w' := by
  unfold sextonlaw04_PostSteps.f at h
  split at h
  · rename_i hm
    obtain rfl := Option.some.inj h
    by_cases hb : a0 < 1 ∨ 32 < a0
    · exact steps_bad a0 A1 c1 l1 w hb
    · by_cases hl : l1.length ≤ 400
      · exact steps_ok a0 A1 c1 l1 w hr1 (by omega) (by omega) hl hm
      · exact steps_long a0 A1 c1 l1 w (by omega) (by omega) (by omega)
  · cases h
end Go.Proofs.Ytndjhpkpeklgfaa.PPost
