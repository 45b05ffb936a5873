/- sextonlaw04.PostFlips: it answers true. -/
import Derived.Test.YtndjhpkpeklgfaaTwice
import Derived.Test.YtndjhpkpeklgfaaTurns
namespace Go.Proofs.Ytndjhpkpeklgfaa.PPost
open Go Go.RowKit Go.Proofs.YtndjhpkpeklgfaaW.PrintWords Go.Proofs.YtndjhpkpeklgfaaW.PrintLast Go.Proofs.YtndjhpkpeklgfaaW.PrintMore Go.Proofs.Ytndjhpkpeklgfaa.Sl
set_option linter.unusedVariables false
set_option linter.unusedSimpArgs false

theorem one_place (s : ByteArray) : place [⟨1, 0, 0, s⟩] 1 = 0 := by simp [place, bs, rd_T52]
theorem one_there (s : ByteArray) : there [⟨1, 0, 0, s⟩] 1 = true := by simp [there, one_place, rd_T52]
theorem one_rd (s : ByteArray) : rd_T52 [⟨1, 0, 0, s⟩] ((0 : Nat) : Int) = ⟨1, 0, 0, s⟩ := rfl
theorem one_see (s : ByteArray) : see [⟨1, 0, 0, s⟩] 1 = (⟨1, 0, 0, s⟩, 0) := by simp only [see, one_there, if_true, one_place, one_rd]
theorem one_tak (s : ByteArray) : tak [⟨1, 0, 0, s⟩] 1 = [] := by simp only [tak, one_there, if_true, one_place]; rfl
theorem one_snd (s : ByteArray) (h : s.size ≤ 65535) : snd 1 0 [] 0 0 s = (1, 0, 1, [⟨1, 0, 0, s⟩]) := by
  have e : ¬ 65535 < s.size := by omega
  simp [snd, e]
theorem long_snd (s : ByteArray) (h : 65535 < s.size) : snd 1 0 [] 0 0 s = (0, 2, 0, []) := by simp [snd, h]
theorem one_flp_bad (s : ByteArray) (bit : Int) (h : bit < 0 ∨ 8 * (s.size : Int) ≤ bit) : flp [⟨1, 0, 0, s⟩] 1 bit = (1, [⟨1, 0, 0, s⟩]) := by
  simp only [flp, one_there, if_true, one_place, one_rd, if_pos h]
theorem one_flp (s : ByteArray) (bit : Int) (h : ¬ (bit < 0 ∨ 8 * (s.size : Int) ≤ bit)) : flp [⟨1, 0, 0, s⟩] 1 bit = (0, [⟨1, 0, 0, flipB s bit⟩]) := by
  simp only [flp, one_there, if_true, one_place, one_rd, if_neg h, flipL]; rfl
set_option maxHeartbeats 4000000 in
set_option maxRecDepth 100000 in
theorem flips_long (s : ByteArray) (bit : Int) (w : World) (h : 65535 < s.size) : Calls Try.prog 4 #[.string s, .int .i64 bit] w fun e w' => e = .returned (.bool true) ∧ Below w.heap.size w w' := by
  have h1 : (65535 : Int) < (s.size : Int) := by omega
  have HL := Aside0.mk (long_snd s h)
  clear h
  go_enter Try.func4, Try.ntmps4
  go_wp2_with (first | (go_at_call 8; refine (new_ok 1 _ (by decide) (by decide)).mono ?_; rintro e w1 ⟨p, rfl, hp, hb⟩; have HO := Aside0.mk (Own.made hp hb (Below.refl _ _)); clear hp hb) | (go_at_call 10; refine (own_send HO.out (by decide) (by decide) (by decide) 0 0 s).mono ?_; rw [HL.out]; rintro e w2 ⟨rfl, ho⟩; clear HO; have HO := Aside0.mk ho; clear ho) | (go_at_call 9; refine (twice_calls _).mono ?_; rintro e w6 ⟨rfl, hb⟩; have HT := Aside0.mk (below_step HO.out.below hb); clear hb))
  go_ret
  exact ⟨rfl, HT.out⟩
set_option maxHeartbeats 4000000 in
set_option maxRecDepth 100000 in
theorem flips_bad (s : ByteArray) (bit : Int) (w : World) (h : s.size ≤ 65535) (hb : bit < 0 ∨ 8 * (s.size : Int) ≤ bit) (hm : bit ≤ 9223372036854775807) : Calls Try.prog 4 #[.string s, .int .i64 bit] w fun e w' => e = .returned (.bool true) ∧ Below w.heap.size w w' := by
  have hu35 := Try.underlying35
  have h1 : (s.size : Int) ≤ 65535 := by omega
  have HL := Aside0.mk (And.intro (one_snd s h) (one_flp_bad s bit hb))
  have hd : bit < 0 ∨ (0 ≤ bit ∧ (s.size : Int) ≤ bit / 8) := by omega
  have hs1 : ∀ x ∈ ([⟨1, 0, 0, s⟩] : List S52), x.f3.size ≤ 65535 := fun x hx => by rw [List.mem_singleton.1 hx]; exact h
  have HS := Aside0.mk hs1
  clear h hs1 hb
  rcases hd with c0 | ⟨c0, c1⟩
  all_goals
    go_enter Try.func4, Try.ntmps4
    go_wp2_with (first | (go_at_call 8; refine (new_ok 1 _ (by decide) (by decide)).mono ?_; rintro e w1 ⟨p, rfl, hp, hb⟩; have HO := Aside0.mk (Own.made hp hb (Below.refl _ _)); clear hp hb) | (go_at_call 10; refine (own_send HO.out (by decide) (by decide) (by decide) 0 0 s).mono ?_; rw [HL.out.1]; rintro e w2 ⟨rfl, ho⟩; clear HO; have HO := Aside0.mk (show Own w w2 w.heap.size p 1 1 [⟨1, 0, 0, s⟩] from ho); clear ho) | (go_at_call 13; refine (own_flip HO.out (by simp) HS.out 1 bit).mono ?_; rw [HL.out.2]; rintro e w3 ⟨rfl, ho⟩; clear HO; have HO := Aside0.mk (show Own w w3 w.heap.size p 1 1 [⟨1, 0, 0, s⟩] from ho); clear ho) | (go_at_call 14; refine (own_see HO.out (by simp) 1).mono ?_; rw [one_see]; rintro e w4 ⟨rfl, ho, hb⟩; clear HO; have HO := Aside0.mk ho; clear ho hb) | ((with_reducible refine gate_dst (N := 9) rfl ?_); (try (refine gate_guard (by rfl) ?_; dsimp only)); refine box_event ?hg (N := 9) ?hd (cs := #[.int .i64 0, .int .i64 0, .int .i64 0, .string ⟨#[]⟩]) (t := 35) ?hr ?_; (case hd => rfl); (case hg => rfl); (case hr => first | (go_simp; done) | (go_simp; rfl)); intro gb hg w5 hbox hb; obtain ⟨g0, g1, g2, g3, e0, e1, e2, e3⟩ := box_cells hbox; have n1 := Aside0.mk (show w.heap.size ≤ gb by (rw [hg]; exact HO.out.below.size)); have n2 := Aside0.mk (And.intro hg (And.intro hb hbox)); have GE := n1; have HX := n2; clear n1 n2 hb hg hbox) | (go_at_call 9; refine (twice_calls _).mono ?_; rintro e w6 ⟨rfl, hb⟩; have HT := Aside0.mk (below_step (HO.out.below.trans ((below4 HX.out.2.1 (by have := HX.out.1; omega) _ _ _ _).mono HO.out.below.size)) hb); clear hb))
    go_ret
    exact ⟨rfl, HT.out⟩
set_option maxHeartbeats 16000000 in
set_option maxRecDepth 100000 in
theorem flips_ok (s : ByteArray) (bit : Int) (w : World) (h : s.size ≤ 65535) (hb0 : 0 ≤ bit) (hb1 : bit < 8 * (s.size : Int)) : Calls Try.prog 4 #[.string s, .int .i64 bit] w fun e w' => e = .returned (.bool true) ∧ Below w.heap.size w w' := by
  have hu35 := Try.underlying35
  have h1 : (s.size : Int) ≤ 65535 := by omega
  obtain ⟨j, m, hj, hjd, hmd, hjt, hmt, hm8, hjn, hmn⟩ : ∃ j m : Nat, j < s.size ∧ bit / 8 = (j : Int) ∧ bit % 8 = (m : Int) ∧ bit.tdiv 8 = (j : Int) ∧ bit.tmod 8 = (m : Int) ∧ m < 8 ∧ bit.toNat / 8 = j ∧ bit.toNat % 8 = m := by
    obtain ⟨b, rfl⟩ := Int.eq_ofNat_of_zero_le hb0
    refine ⟨b / 8, b % 8, by omega, by omega, by omega, ?_, ?_, by omega, by omega, by omega⟩
    · rw [Int.tdiv_eq_ediv_of_nonneg (by omega)]; omega
    · rw [Int.tmod_eq_emod_of_nonneg (by omega)]; omega
  obtain ⟨s2, hs2⟩ : ∃ s2, s2 = flipB s bit := ⟨_, rfl⟩
  have f1 := one_flp s bit (by omega)
  have f2 := one_flp (flipB s bit) bit (by rw [size_flip]; omega)
  rw [flip_twice s bit (by omega)] at f2
  have hsz := size_flip s bit
  have hbt := bt_flip s bit
  rw [hjn, hmn] at hbt
  rw [← hs2] at f1 f2 hsz hbt
  have HL := Aside0.mk (And.intro (one_snd s h) (And.intro f1 (And.intro f2 (And.intro hsz hbt))))
  have hz2 : s2.size = s.size := hsz
  have hj0 : (0 : Int) ≤ (j : Int) := by omega
  have hj1 : (j : Int) < (s.size : Int) := by omega
  have hm0 : (0 : Int) ≤ (m : Int) := by omega
  have hm1 : (m : Int) < 8 := by omega
  have HZ := Aside0.mk (And.intro hz2 (And.intro hj (And.intro hjd hmd)))
  have HS := Aside0.mk (And.intro (show ∀ x ∈ ([⟨1, 0, 0, s⟩] : List S52), x.f3.size ≤ 65535 from fun x hx => by rw [List.mem_singleton.1 hx]; exact h) (show ∀ x ∈ ([⟨1, 0, 0, s2⟩] : List S52), x.f3.size ≤ 65535 from fun x hx => by rw [List.mem_singleton.1 hx]; show s2.size ≤ 65535; omega))
  have hz3 : (s2.size : Int) = (s.size : Int) := by omega
  have n1 : ¬ ((s.size : Int) ≤ (j : Int)) := by omega
  clear h hj hm8 hjn hmn hs2 f1 f2 hsz hbt hz2 hb1
  go_enter Try.func4, Try.ntmps4
  go_wp2_with (first | (go_at_call 8; refine (new_ok 1 _ (by decide) (by decide)).mono ?_; rintro e w1 ⟨p, rfl, hp, hb⟩; have HO := Aside0.mk (Own.made hp hb (Below.refl _ _)); clear hp hb) | (go_at_call 10; refine (own_send HO.out (by decide) (by decide) (by decide) 0 0 s).mono ?_; rw [HL.out.1]; rintro e w2 ⟨rfl, ho⟩; clear HO; have HO := Aside0.mk (show Own w w2 w.heap.size p 1 1 [⟨1, 0, 0, s⟩] from ho); clear ho) | (go_at_call 13; refine (own_flip HO.out (by simp) HS.out.1 1 bit).mono ?_; rw [HL.out.2.1]; rintro e w3 ⟨rfl, ho⟩; clear HO; have HO := Aside0.mk (show Own w w3 w.heap.size p 1 1 [⟨1, 0, 0, s2⟩] from ho); clear ho) | (go_at_call 14; refine (own_see HO.out (by simp) 1).mono ?_; rw [one_see]; rintro e w4 ⟨rfl, ho, hb⟩; clear HO; have HO := Aside0.mk (show Own w w4 w.heap.size p 1 1 [⟨1, 0, 0, s2⟩] from ho); clear ho hb) | ((with_reducible refine gate_dst (N := 11) rfl ?_); (try (refine gate_guard (by rfl) ?_; dsimp only)); refine box_event ?hg (N := 11) ?hd (cs := #[.int .i64 0, .int .i64 0, .int .i64 0, .string ⟨#[]⟩]) (t := 35) ?hr ?_; (case hd => rfl); (case hg => rfl); (case hr => first | (go_simp; done) | (go_simp; rfl)); intro gb hg w5 hbox hb; obtain ⟨g0, g1, g2, g3, e0, e1, e2, e3⟩ := box_cells hbox; have n1 := Aside0.mk (show w.heap.size ≤ gb by (rw [hg]; exact HO.out.below.size)); have n2 := Aside0.mk (And.intro hg (And.intro hb hbox)); have GE := n1; have HX := n2; clear n1 n2 hb hg hbox))
  go_loop [13, 14] (fun i _ => ∃ k : Nat, k ≤ s.size ∧ i = .int .i64 k) (fun i _ => s.size - (intOf i).toNat)
  case atStart => exact ⟨0, Nat.zero_le _, rfl⟩
  case round =>
    obtain ⟨k, hk, rfl⟩ := hrel
    by_cases hlt : k < s.size
    · have hk0 : (0 : Int) ≤ (k : Int) := by omega
      have hk1 : (k : Int) < (s.size : Int) := by omega
      have hk2 : (k : Int) < (s2.size : Int) := by omega
      have hk3 : k < s2.size := by omega
      have hv := HL.out.2.2.2.2 k hlt
      rw [show bt s (k : Int) = ((s[k]'hlt).toNat : Int) by simp [bt, hlt], show bt s2 (k : Int) = ((s2[k]'hk3).toNat : Int) by simp [bt, hk3]] at hv
      obtain ⟨_, _, hjd, hmd⟩ := HZ.out
      by_cases hkj : k = j
      · rw [if_pos hkj] at hv
        have e1 : ((k : Int) == (j : Int)) = true := by simp [hkj]
        have hx := bne_eq_false_iff_eq.mpr hv
        have HK := Aside0.mk (And.intro hlt hkj)
        clear hkj hv
        go_wp2
        exact ⟨⟨k + 1, HK.out.1, by congr 1⟩, by have := HK.out.1; simp only [intOf]; omega⟩
      · rw [if_neg hkj] at hv
        have e1 : ((k : Int) == (j : Int)) = false := by simpa using (fun h : (k : Int) = (j : Int) => hkj (by omega))
        have hx := bne_eq_false_iff_eq.mpr hv
        have HK := Aside0.mk hlt
        clear hkj hv
        go_wp2
        exact ⟨⟨k + 1, HK.out, by congr 1⟩, by have := HK.out; simp only [intOf]; omega⟩
    · obtain rfl : k = s.size := by omega
      go_wp2_with (first | (go_at_call 13; refine (own_flip (HO.out.step (below4 HX.out.2.1 (by have := HX.out.1; omega) _ _ _ _)) (by simp) HS.out.2 1 bit).mono ?_; rw [HL.out.2.2.1]; rintro e w3 ⟨rfl, ho⟩; clear HO; have HO := Aside0.mk (show Own w w3 w.heap.size p 1 1 [⟨1, 0, 0, s⟩] from ho); clear ho) | (go_at_call 12; refine (own_take HO.out (by simp) 1).mono ?_; rw [one_see, one_tak]; rintro e w4 ⟨rfl, ho⟩; clear HO; have HO := Aside0.mk (show Own w w4 w.heap.size p 1 1 [] from ho); clear ho) | ((with_reducible refine gate_dst (N := 16) rfl ?_); (try (refine gate_guard (by rfl) ?_; dsimp only)); refine box_event ?hg (N := 16) ?hd (cs := #[.int .i64 0, .int .i64 0, .int .i64 0, .string ⟨#[]⟩]) (t := 35) ?hr ?_; (case hd => rfl); (case hg => rfl); (case hr => first | (go_simp; done) | (go_simp; rfl)); intro gby hg w5 hbox hb; obtain ⟨g0y, g1y, g2y, g3y, e0y, e1y, e2y, e3y⟩ := box_cells hbox; have n1 := Aside0.mk (show w.heap.size ≤ gby by (rw [hg]; exact HO.out.below.size)); have n2 := Aside0.mk (And.intro hg (And.intro hb hbox)); have GEy := n1; have HY := n2; clear n1 n2 hb hg hbox) | (go_at_call 9; refine (twice_calls _).mono ?_; rintro e w6 ⟨rfl, hb⟩; have HT := Aside0.mk (below_step (HO.out.below.trans ((below4 HY.out.2.1 (by have := HY.out.1; omega) _ _ _ _).mono HO.out.below.size)) hb); clear hb))
      go_ret
      exact ⟨rfl, HT.out⟩
def sextonlaw04_PostFlips.f (a0 : ByteArray) (a1 : Int) : Option Bool := if a1 ≤ 9223372036854775807 then some true else none
theorem sextonlaw04_PostFlips.calls (a0 : ByteArray) (a1 : Int) (r : Bool) (w : World) (h : sextonlaw04_PostFlips.f a0 a1 = some r) :
    Calls Try.prog 4 #[.string a0, .int .i64 a1] w fun e w' => e = .returned (.bool r) ∧ Below w.heap.size w w' := by
  unfold sextonlaw04_PostFlips.f at h
  split at h
  · obtain rfl := Option.some.inj h
    by_cases h1 : a0.size ≤ 65535
    · by_cases h2 : a1 < 0 ∨ 8 * (a0.size : Int) ≤ a1
      · exact flips_bad a0 a1 w h1 h2 (by assumption)
      · exact flips_ok a0 a1 w h1 (by omega) (by omega)
    · exact flips_long a0 a1 w (by omega)
  · cases h
end Go.Proofs.Ytndjhpkpeklgfaa.PPost
