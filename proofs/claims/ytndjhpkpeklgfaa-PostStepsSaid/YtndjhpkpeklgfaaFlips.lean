/- post.Flip: a bit of a letter that waits is turned. -/
import Derived.Test.YtndjhpkpeklgfaaTakes
import Derived.RegionTactic
import Derived.BigRegion
import Derived.Lib.ConvBytes
namespace Go.Proofs.Ytndjhpkpeklgfaa.PPost
open Go Go.RowKit Go.Proofs.YtndjhpkpeklgfaaW.PrintWords Go.Proofs.YtndjhpkpeklgfaaW.PrintLast Go.Proofs.YtndjhpkpeklgfaaW.PrintMore Go.Proofs.Ytndjhpkpeklgfaa.Sl
set_option linter.unusedVariables false
set_option linter.unusedSimpArgs false

/-- A string's bytes in a block of one's own, behind the conversion. -/
structure Byt (w W : World) (g c : Nat) (s : ByteArray) : Prop where
  new : w.heap.size ≤ g
  lt : g < W.heap.size
  below : Below w.heap.size w W
  cap : s.size ≤ c
  cell : ∀ j, j < s.size → W.cell? ⟨g, j, none⟩ = some (.int .u8 (bt s j))
  free : ∀ j, j < s.size → W.frozen? ⟨g, j, none⟩ = false
theorem byt_made (w : World) (s : ByteArray) : Byt w (Lib.bytesWorld w 5 s) w.heap.size (grownCap w s.size 0 5) s := by
  have hn := Lib.bytesWorld_at_new w 5 s
  have hc := grownCap_ge w s.size 0 5
  refine ⟨Nat.le_refl _, by rw [Lib.bytesWorld_size]; omega, ⟨rfl, rfl, rfl, by rw [Lib.bytesWorld_size]; omega, fun k hk => Lib.bytesWorld_at_old w 5 s k hk⟩, hc, fun j hj => ?_, fun j hj => ?_⟩
  · rw [Lib.bytesWorld_cell w 5 s j hj]
    have h' : j < s.data.toList.length := by rw [data_length]; exact hj
    have e : bt s (j : Int) = ((s.data.toList.getD j 0).toNat : Int) := by
      rw [← rd_bytesOf]
      simp [rd, bytesOf, List.getD_eq_getElem?_getD, List.getElem?_eq_getElem h']
    rw [e]
  · have hl : s.size ≤ (Lib.bytesCells w 5 s).size := by
      simp only [Lib.bytesCells, Array.size_append, Array.size_map]
      exact Nat.le_add_right _ _
    simp only [World.frozen?, hn, Bool.and_eq_false_iff, decide_eq_false_iff_not]
    left
    show ¬ (Lib.bytesCells w 5 s).size ≤ j
    omega
set_option maxHeartbeats 4000000 in
theorem flip_no (B p : Nat) (o : Option Nat) (nodes last : Int) (l : List S52) (n bit : Int) (w : World) (H : Po 58 35 w B p o nodes last l) (hl : l.length ≤ 1000000000000) (ht : there l n = false) :
    Calls Try.prog 13 #[.pointer (some ⟨p, 0, none⟩), .int .i64 n, .int .i64 bit] w fun e w' => e = .returned (.int .i64 6) ∧ Below w.heap.size w w' := by
  have HH := Aside0.mk (And.intro H (And.intro hl ht))
  clear H hl ht
  go_enter Try.func13, Try.ntmps13
  go_wp2_with (go_at_call 21; refine (at_no B p o nodes last l n _ HH.out.1 HH.out.2.1 HH.out.2.2).mono ?_; rintro e w' ⟨rfl, hb⟩; have HB := Aside0.mk hb; clear hb)
  go_ret
  exact ⟨rfl, HB.out⟩
theorem flip_nil (n bit : Int) (w : World) : Calls Try.prog 13 #[.pointer none, .int .i64 n, .int .i64 bit] w fun e w' => e = .returned (.int .i64 6) ∧ Below w.heap.size w w' := by
  go_enter Try.func13, Try.ntmps13
  go_wp2_with (go_at_call 21; refine (at_nil n _).mono ?_; rintro e w' ⟨rfl, hb⟩; have HB := Aside0.mk hb; clear hb)
  go_ret
  exact ⟨rfl, HB.out⟩
/-- The event of '[]byte(s)'. -/
theorem bytes_event {ops : Array Oper} {rest : List Oper} {oo : Oper} {a : Act} {Q : Exit → Act → World → Prop} {W : World} {s : ByteArray} (hgd : oo.guard = none) {N : Tmp} (_hd : oo.dst = some N)
    (hrun : (execOp a.eval oo).run Try.prog W = .ok (.value (.slice (some ⟨W.heap.size, 0, none⟩) s.size (grownCap W s.size 0 5))) (Lib.bytesWorld W 5 s))
    (h : ∀ g c w1, Byt W w1 g c s → wpList Try.prog ops Q rest (a.put oo.dst (.slice (some ⟨g, 0, none⟩) s.size c)) w1) : wpList Try.prog ops Q (oo :: rest) a W :=
  Kd.event_run hgd hrun (h _ _ _ (byt_made W s))
set_option maxHeartbeats 4000000 in
set_option maxRecDepth 100000 in
theorem flip_bad (B p : Nat) (o : Option Nat) (nodes last : Int) (l : List S52) (n bit : Int) (w : World) (H : Po 58 35 w B p o nodes last l) (hl : l.length ≤ 1000000000000) (ht : there l n = true) (hs : (rd_T52 l ((place l n : Nat) : Int)).f3.size ≤ 65535) (hb : bit < 0 ∨ 8 * ((rd_T52 l ((place l n : Nat) : Int)).f3.size : Int) ≤ bit) :
    Calls Try.prog 13 #[.pointer (some ⟨p, 0, none⟩), .int .i64 n, .int .i64 bit] w fun e w' => e = .returned (.int .i64 1) ∧ Below w.heap.size w w' := by
  have hlt := there_lt ht
  obtain ⟨A, cp, f1, f2, f3, f4, f5⟩ := H.open_
  have HH := Aside0.mk (And.intro H (And.intro hl (And.intro ht (And.intro f2 f5))))
  obtain ⟨q, hq⟩ : ∃ q, q = place l n := ⟨_, rfl⟩
  obtain ⟨x, hx⟩ : ∃ x, x = rd_T52 l ((place l n : Nat) : Int) := ⟨_, rfl⟩
  rw [← hx] at hs hb
  rw [← hq] at hlt hx
  have HQ := Aside0.mk (And.intro hq (And.intro hx hlt))
  have hq0 : (0 : Int) ≤ (q : Int) := by omega
  have hq1 : (q : Int) < (l.length : Int) := by omega
  have hs1 : (x.f3.size : Int) ≤ 65535 := by omega
  have kc : ∀ W : World, (convert 9 61 (.string x.f3)).run Try.prog W = .ok (.slice (some ⟨W.heap.size, 0, none⟩) x.f3.size (grownCap W x.f3.size 0 5)) (Lib.bytesWorld W 5 x.f3) := fun W => Lib.run_convert_string_bytes W 9 61 5 x.f3 Try.underlying9 Try.underlying61 Try.underlying5
  clear H hl ht hq hx hlt f1 f2 f3 f4 f5 hs
  go_enter Try.func13, Try.ntmps13
  go_wp2_with (first | (go_at_call 21; refine (at_yes B p o nodes last l n _ HH.out.1 HH.out.2.1 HH.out.2.2.1).mono ?_; rintro e w4 ⟨rfl, hb4⟩; rw [← HQ.out.1]; have k2 : w4.cell? ⟨p, 2, none⟩ = some (.slice A l.length cp) := (blk_cell ((Kp.of_below (S := fun _ => False) hb4).blk HH.out.2.2.2.1 (fun h => h)) 2).trans rfl; obtain ⟨ad, hA, x0, x1, x2, x3⟩ := at_T52 (Kd.R_reads' (Kd.R_below HH.out.2.2.2.2 hb4)).2.2 (q : Int) hq0 hq1; rw [← HQ.out.2.1] at x0 x1 x2 x3; simp only [Int.toNat_natCast] at x0 x1 x2 x3; have HK := Aside0.mk (And.intro hb4 hA); cases hA; clear hb4) | ((with_reducible refine gate_dst (N := 27) rfl ?_); refine bytes_event (s := x.f3) ?hg (N := 27) ?hd ?hr ?_; (case hd => rfl); (case hg => rfl); (case hr => first | (go_simp; done) | (go_simp; rfl)); intro g c w5 hy; have HY := Aside0.mk hy; clear hy))
  all_goals first | (go_ret; exact ⟨rfl, HK.out.1.trans (HY.out.below.mono HK.out.1.size)⟩) | (exfalso; omega)
/-- A string with a bit turned. -/
def flipB (s : ByteArray) (bit : Int) : ByteArray := strOfNums ((bytesOf s).set (bit.toNat / 8) (bits BinOp.xor .u8 (bt s ((bit.toNat / 8 : Nat) : Int)) (2 ^ (bit.toNat % 8) % 256)))
def flipL (l : List S52) (q : Nat) (bit : Int) : List S52 := l.set q ⟨(rd_T52 l (q : Int)).f0, (rd_T52 l (q : Int)).f1, (rd_T52 l (q : Int)).f2, flipB (rd_T52 l (q : Int)).f3 bit⟩
theorem flip_string {w4 w5 : World} {g c j : Nat} {s : ByteArray} (h : Byt w4 w5 g c s) (hj : j < s.size) (hs : s.size ≤ 65535) (v : Int) :
    ∀ W : World, (∀ i, i < s.size → W.cell? ⟨g, i, none⟩ = ((w5.setCell ⟨g, j, none⟩ (.int .u8 v)).drew).cell? ⟨g, i, none⟩) → (convert 61 9 (.slice (some ⟨g, 0, none⟩) s.size c)).run Try.prog W = .ok (.string (strOfNums ((bytesOf s).set j v))) W := by
  intro W hW
  refine string_of_reads Try.underlying61 Try.underlying5 Try.underlying9 ⟨by rw [List.length_set, bytesOf_length], by omega, fun _ => ⟨_, rfl, fun i hi => ?_⟩⟩
  rw [add_plain, hW i hi]
  have hlen : (bytesOf s).length = s.size := bytesOf_length s
  show (w5.setCell ⟨g, j, none⟩ (.int .u8 v)).cell? ⟨g, i, none⟩ = _
  by_cases e : i = j
  · subst e
    rw [World.cell?_setCell_same _ _ _ (h.cell i hi)]
    simp [List.getD_eq_getElem?_getD, List.getElem?_set, hlen, hi]
  · rw [World.cell?_setCell_other _ _ _ _ (by intro h; injection h with _ h; exact e h.symm), h.cell i hi]
    simp only [List.getD_eq_getElem?_getD, List.getElem?_set_ne (Ne.symm e)]
    have := rd_bytesOf s (i : Int)
    rw [← this]
    simp [rd, List.getD_eq_getElem?_getD]
theorem flip_end {T E : Nat} {w W : World} {B p ga cp q : Nat} {o : Option Nat} {nodes last : Int} {l : List S52} {x : S52} {s : ByteArray} (H : Po T E w B p o nodes last l) (hP : w.heap[p]? = some (.cells #[.int .i64 nodes, .int .i64 last, .slice (some ⟨ga, 0, none⟩) l.length cp] T (0, 0))) (h4 : some p ≠ o) (h3 : (Value.slice (some ⟨ga, 0, none⟩) l.length cp).ownBlock = o) (hR : Kd.R k52 E w B (fun k => some k = o) (.slice (some ⟨ga, 0, none⟩) l.length cp) l) (hb : Below w.heap.size w W) (hq : q < l.length) (hx : x = rd_T52 l (q : Int)) :
    Then T E w (W.setCell ⟨ga, q * 4 + 3, none⟩ (.string s)) B p o nodes last (l.set q ⟨x.f0, x.f1, x.f2, s⟩) := by
  have hR' := Kd.R_below hR hb
  obtain ⟨ad, hA, x0, x1, x2, x3⟩ := at_T52 (Kd.R_reads' hR').2.2 (q : Int) (by omega) (by omega)
  injection hA with hA
  subst hA
  rw [← hx] at x0 x1 x2 x3
  simp only [Int.toNat_natCast, Addr.add_lit, Nat.zero_add] at x0 x1 x2 x3
  have ho : o = some ga := by rw [← h3]; rfl
  have key := Kd.R_seg (okp := fun _ => False) hR' (q : Int) (by omega) (by omega) (c := [.int .i64 x.f0, .int .i64 x.f1, .int .i64 x.f2, .string x.f3]) (seg := [.string s]) (j := 3) rfl (fun j u hj => by
      simp only [Int.toNat_natCast]
      show W.cell? ⟨ga, q * 4 + j, none⟩ = some u
      match j, hj with
      | 0, hj => obtain rfl := Option.some.inj hj; exact x0
      | 1, hj => obtain rfl := Option.some.inj hj; exact x1
      | 2, hj => obtain rfl := Option.some.inj hj; exact x2
      | 3, hj => obtain rfl := Option.some.inj hj; exact x3
      | j + 4, hj => simp at hj) (show 3 + 1 ≤ 4 by decide) (x' := ⟨x.f0, x.f1, x.f2, s⟩) (k52_mkM _ _ _ _) (fun _ h => h.elim)
  simp only [Int.toNat_natCast] at key
  obtain ⟨k1, k2⟩ := key
  have e : W.setCells ga (q * 4 + 3) [.string s] = W.setCell ⟨ga, q * 4 + 3, none⟩ (.string s) := rfl
  have k1' : Kd.R k52 E (W.setCell ⟨ga, q * 4 + 3, none⟩ (.string s)) B (fun k => some k = o) (.slice (some ⟨ga, 0, none⟩) l.length cp) (l.set q ⟨x.f0, x.f1, x.f2, s⟩) := k1
  have hne : p ≠ ga := fun h => h4 (by rw [ho, h])
  refine ⟨o, ⟨_, (H.its p (.inl rfl)).1, (Below.heap_setCell _ ⟨ga, q * 4 + 3, none⟩ _ p hne).trans ((Kp.of_below (S := fun _ => False) hb).blk hP (fun h => h)), h3, h4, k1'⟩, ?_, .inl rfl⟩
  exact (Kp.of_below hb).set (p := ⟨ga, q * 4 + 3, none⟩) (.inl (.inr ho.symm)) _
set_option maxHeartbeats 8000000 in
set_option maxRecDepth 100000 in
theorem flip_yes (B p : Nat) (o : Option Nat) (nodes last : Int) (l : List S52) (n bit : Int) (w : World) (H : Po 58 35 w B p o nodes last l) (hl : l.length ≤ 1000000000000) (ht : there l n = true) (hs : (rd_T52 l ((place l n : Nat) : Int)).f3.size ≤ 65535) (hb0 : 0 ≤ bit) (hb : bit < 8 * ((rd_T52 l ((place l n : Nat) : Int)).f3.size : Int)) :
    Calls Try.prog 13 #[.pointer (some ⟨p, 0, none⟩), .int .i64 n, .int .i64 bit] w fun e w' => e = .returned (.int .i64 0) ∧ Then 58 35 w w' B p o nodes last (flipL l (place l n) bit) := by
  have hlt := there_lt ht
  obtain ⟨A, cp, f1, f2, f3, f4, f5⟩ := H.open_
  obtain ⟨q, hq⟩ : ∃ q, q = place l n := ⟨_, rfl⟩
  obtain ⟨x, hx⟩ : ∃ x, x = rd_T52 l ((place l n : Nat) : Int) := ⟨_, rfl⟩
  rw [← hx] at hs hb
  unfold flipL
  rw [← hx, ← hq]
  rw [← hq] at hlt hx
  obtain ⟨ad, hA, _⟩ := at_T52 (Kd.R_reads' f5).2.2 (q : Int) (by omega) (by omega)
  subst hA
  obtain ⟨ga, rfl⟩ := Kd.R_head f5
  have HH := Aside0.mk (And.intro H (And.intro hl (And.intro ht (And.intro f2 (And.intro f5 (And.intro f3 f4))))))
  have HQ := Aside0.mk (And.intro hq (And.intro hx (And.intro hlt hs)))
  have hq0 : (0 : Int) ≤ (q : Int) := by omega
  have hq1 : (q : Int) < (l.length : Int) := by omega
  have hs1 : (x.f3.size : Int) ≤ 65535 := by omega
  have kc : ∀ W : World, (convert 9 61 (.string x.f3)).run Try.prog W = .ok (.slice (some ⟨W.heap.size, 0, none⟩) x.f3.size (grownCap W x.f3.size 0 5)) (Lib.bytesWorld W 5 x.f3) := fun W => Lib.run_convert_string_bytes W 9 61 5 x.f3 Try.underlying9 Try.underlying61 Try.underlying5
  obtain ⟨j, m, hj, hjd, hmd, hjt, hmt, hm8, hjn, hmn⟩ : ∃ j m : Nat, j < x.f3.size ∧ bit / 8 = (j : Int) ∧ bit % 8 = (m : Int) ∧ bit.tdiv 8 = (j : Int) ∧ bit.tmod 8 = (m : Int) ∧ m < 8 ∧ bit.toNat / 8 = j ∧ bit.toNat % 8 = m := by
    obtain ⟨b, rfl⟩ := Int.eq_ofNat_of_zero_le hb0
    refine ⟨b / 8, b % 8, by omega, by omega, by omega, ?_, ?_, by omega, by omega, by omega⟩
    · rw [Int.tdiv_eq_ediv_of_nonneg (by omega)]; omega
    · rw [Int.tmod_eq_emod_of_nonneg (by omega)]; omega
  unfold flipB
  rw [hjn, hmn]
  have hj0 : (0 : Int) ≤ (j : Int) := by omega
  have hj1 : (j : Int) < (x.f3.size : Int) := by omega
  have hm0 : (0 : Int) ≤ (m : Int) := by omega
  have hm1 : (m : Int) < 8 := by omega
  have HM := Aside0.mk (And.intro hj hm8)
  have HD := Aside0.mk (And.intro hjd (And.intro hmd (And.intro hjt hmt)))
  clear H hl ht hq hx hlt f1 f2 f3 f4 f5 hs hj hm8 hjn hmn hjd hmd hjt hmt
  go_enter Try.func13, Try.ntmps13
  go_wp2_with (first | (go_at_call 21; refine (at_yes B p o nodes last l n _ HH.out.1 HH.out.2.1 HH.out.2.2.1).mono ?_; rintro e w4 ⟨rfl, hb4⟩; rw [← HQ.out.1]; have k2 : w4.cell? ⟨p, 2, none⟩ = some (.slice (some ⟨ga, 0, none⟩) l.length cp) := (blk_cell ((Kp.of_below (S := fun _ => False) hb4).blk HH.out.2.2.2.1 (fun h => h)) 2).trans rfl; obtain ⟨ad, hA, x0, x1, x2, x3⟩ := at_T52 (Kd.R_reads' (Kd.R_below HH.out.2.2.2.2.1 hb4)).2.2 (q : Int) hq0 hq1; injection hA with hA; subst hA; rw [← HQ.out.2.1] at x0 x1 x2 x3; simp only [Int.toNat_natCast, Addr.add_lit, Nat.zero_add] at x0 x1 x2 x3; have HK := Aside0.mk hb4; clear hb4) | ((with_reducible refine gate_dst (N := 27) rfl ?_); refine bytes_event (s := x.f3) ?hg (N := 27) ?hd ?hr ?_; (case hd => rfl); (case hg => rfl); (case hr => first | (go_simp; done) | (go_simp; rfl)); intro g c w5 hy; have HY := Aside0.mk hy; clear hy))
  have hy0 := HY.out.cell j HM.out.1
  have hy1 := HY.out.free j HM.out.1
  obtain ⟨hjd, hmd, hjt, hmt⟩ := HD.out
  go_region
  clear hjd hmd hjt hmt
  obtain ⟨v, hv⟩ : ∃ v, v = bits BinOp.xor .u8 (bt x.f3 (j : Int)) (2 ^ m % 256) := ⟨_, rfl⟩
  rw [← hv]
  obtain ⟨W7, hW7⟩ : ∃ W7, W7 = (w5.setCell ⟨g, j, none⟩ (.int .u8 v)).drew := ⟨_, rfl⟩
  rw [← hW7]
  have h5 : Below w.heap.size w w5 := HK.out.trans (HY.out.below.mono HK.out.size)
  have hg : w.heap.size ≤ g := Nat.le_trans HK.out.size HY.out.new
  have h7 : Below w.heap.size w W7 := by rw [hW7]; exact (h5.setCell (p := ⟨g, j, none⟩) hg _).drew
  have ks : ∀ W : World, (∀ i, i < x.f3.size → W.cell? ⟨g, i, none⟩ = W7.cell? ⟨g, i, none⟩) → (convert 61 9 (.slice (some ⟨g, 0, none⟩) x.f3.size c)).run Try.prog W = .ok (.string (strOfNums ((bytesOf x.f3).set j v))) W := by
    rw [hW7]; exact flip_string HY.out HM.out.1 HQ.out.2.2.2 v
  have ks0 := ks W7 (fun _ _ => rfl)
  have ks1 := ks W7.drew (fun _ _ => rfl)
  obtain ⟨q9, q0, q1, q2, r0, r1, r2⟩ := po_cells HH.out.2.2.2.1 h7
  obtain ⟨ad, hA, z0, z1, z2, z3⟩ := at_T52 (Kd.R_reads' (Kd.R_below HH.out.2.2.2.2.1 h7)).2.2 (q : Int) hq0 hq1
  injection hA with hA
  subst hA
  rw [← HQ.out.2.1] at z0 z1 z2 z3
  simp only [Int.toNat_natCast, Addr.add_lit, Nat.zero_add] at z0 z1 z2 z3
  have hfr : W7.frozen? ⟨ga, q * 4 + 3, none⟩ = false := by
    obtain ⟨cells, hc⟩ := own_typed (Kd.R_own (Kd.R_below HH.out.2.2.2.2.1 h7)).choose_spec ga rfl
    exact frozen_blk hc _
  have H7 := Aside0.mk h7
  have HV := Aside0.mk hv
  clear h7 h5 hg hW7 ks q9 hv hy0 hy1 k2 x0 x1 x2 x3
  go_wp2
  go_region
  go_wp2
  go_ret
  rw [← HV.out]
  exact ⟨rfl, (flip_end HH.out.1 HH.out.2.2.2.1 HH.out.2.2.2.2.2.2 HH.out.2.2.2.2.2.1 HH.out.2.2.2.2.1 H7.out HQ.out.2.2.1 HQ.out.2.1).before (Below.refl _ _).drew⟩
/-- post.Flip: the error, and the letters behind it. -/
def flp (l : List S52) (n bit : Int) : Int × List S52 :=
  if there l n = true then (if bit < 0 ∨ 8 * ((rd_T52 l ((place l n : Nat) : Int)).f3.size : Int) ≤ bit then (1, l) else (0, flipL l (place l n) bit)) else (6, l)
theorem flip_calls (B p : Nat) (o : Option Nat) (nodes last : Int) (l : List S52) (n bit : Int) (w : World) (H : Po 58 35 w B p o nodes last l) (hl : l.length ≤ 1000000000000) (hs : ∀ x ∈ l, x.f3.size ≤ 65535) :
    Calls Try.prog 13 #[.pointer (some ⟨p, 0, none⟩), .int .i64 n, .int .i64 bit] w fun e w' => e = .returned (.int .i64 (flp l n bit).1) ∧ Then 58 35 w w' B p o nodes last (flp l n bit).2 := by
  unfold flp
  cases ht : there l n with
  | false => exact (flip_no B p o nodes last l n bit w H hl ht).mono fun e w' ⟨h, hb⟩ => ⟨h, .same H hb⟩
  | true =>
    have hlt := there_lt ht
    have e : rd_T52 l ((place l n : Nat) : Int) = l[place l n] := by simp [rd_T52, List.getD_eq_getElem?_getD, List.getElem?_eq_getElem hlt]
    have hx : (rd_T52 l ((place l n : Nat) : Int)).f3.size ≤ 65535 := by rw [e]; exact hs _ (List.getElem_mem hlt)
    simp only [if_true]
    by_cases c : bit < 0 ∨ 8 * ((rd_T52 l ((place l n : Nat) : Int)).f3.size : Int) ≤ bit
    · simp only [if_pos c]
      exact (flip_bad B p o nodes last l n bit w H hl ht hx c).mono fun e w' ⟨h, hb⟩ => ⟨h, .same H hb⟩
    · simp only [if_neg c]
      exact flip_yes B p o nodes last l n bit w H hl ht hx (by omega) (by omega)
end Go.Proofs.Ytndjhpkpeklgfaa.PPost
