/- ItabApart, by hand. -/
import Derived.Test.YtgepphlkibnhdaaFind1
import Derived.Test.YtgepphlkibnhdaaPItabx25
import Derived.Test.YtgepphlkibnhdaaPut1
import Derived.StillTailTactics
namespace Go.Proofs.Ytgepphlkibnhdaa.PItab
open Go Go.RowKit Go.Proofs.YtgepphlkibnhdaaW.PrintWords Go.Proofs.YtgepphlkibnhdaaW.PrintLast Go.Proofs.YtgepphlkibnhdaaW.PrintMore
set_option linter.unusedVariables false

theorem seg30 {w : World} {A : Option Addr} {n : Nat} {xs : List S30} (h : Kd.C k30 w A n xs) {i : Nat} (hi : i < xs.length) : ∃ ad, A = some ad ∧ Kd.C k30 w (some (ad.add (i * 8))) 1 [xs[i]] := by
  obtain ⟨ad, e, hc⟩ := h.2.2 (by have := h.1; omega)
  refine ⟨ad, e, rfl, by decide, fun _ => ⟨_, rfl, fun j p hj => ?_⟩⟩
  obtain rfl : j = 0 := by
    have := (List.getElem?_eq_some_iff.1 hj).1
    simpa using this
  obtain rfl : xs[i] = p := by simpa using hj
  obtain ⟨c, hcl, hK, hcc⟩ := hc i _ (List.getElem?_eq_getElem hi)
  refine ⟨c, hcl, hK, fun t u hu => ?_⟩
  have e2 : (ad.add (i * 8)).add (0 * k30.sz + t) = ad.add (i * k30.sz + t) := by
    have e3 : k30.sz = 8 := rfl
    rw [Nat.zero_mul, Nat.zero_add, e3]
    unfold Addr.add
    rcases Nat.eq_zero_or_pos i with hi0 | hi0
    · subst hi0; simp
    · rw [if_neg (show ¬ i * 8 = 0 by omega), if_neg (show ¬ i * 8 + t = 0 by omega)]
      by_cases ht : t = 0
      · rw [if_pos ht, ht]; rfl
      · rw [if_neg ht, Nat.add_assoc]
  rw [e2]
  exact hcc t u hu
theorem cut30 {W : World} {ad : Addr} {n c i : Nat} (hc : i + 1 ≤ c) : (Instr.slice 22 (.slice (some ad) n c) (some (.int .i64 (i : Int))) (some (.int .i64 ((i : Int) + 1))) none).run Try.prog W = .ok (.slice (some (ad.add (i * 8))) 1 (c - i)) W := by
  have ht := Try.underlying22
  have hel : Try.prog.elem 22 = 30 := by simp [Program.elem, ht]
  have hu : Try.prog.underlying 22 = some (.slice (Try.prog.elem 22)) := by rw [hel]; exact ht
  obtain ⟨i0, hi0, hz00⟩ := Option.map_eq_some_iff.1 info30
  simp only [Prod.mk.injEq] at hz00
  rw [run_slice_lh W 22 (some ad) n c hu .i64 .i64 (i : Int) ((i : Int) + 1) (by omega) (by omega) (by omega), hel]
  have e1 : ((i : Int) + 1).toNat = i + 1 := by omega
  have e2 : ¬ c = i := by omega
  simp [sizeOf, typeInfo, hi0, hz00.2.1, sliced, Result.andThen, e1, e2]
set_option maxHeartbeats 8000000 in
set_option maxRecDepth 100000 in
theorem apart_bad (k : Nat) (A0 : Option Addr) (c0 : Nat) (l0 : List S30) (a b : Int) (x : S30) (A5 A6 : Option Addr) (c5 c6 : Nat) (r : Int) (w : World) (hr0 : Kd.C k30 w A0 l0.length l0) (hc0 : l0.length ≤ c0) (l5 : x.f2.length ≤ c5) (g5 : k73.C w A5 x.f2.length x.f2) (l6 : x.f3.length ≤ c6) (g6 : k75.C w A6 x.f3.length x.f3)
    (h1 : itab_Put.f k l0 a b x.f0 x.f1.f0 x.f1.f1 x.f1.f2 x.f1.f3 x.f2 x.f3 x.f4 = some ([], r)) (hr : (r != 0) = true) (h3 : sextonlaw09_again.f k = some true) :
    Calls Try.prog 8 #[.slice A0 l0.length c0, .agg #[.int .i64 a, .int .i64 b], .agg #[.int .i64 x.f0, .int .i64 x.f1.f0, .int .i64 x.f1.f1, .int .i64 x.f1.f2, .int .i64 x.f1.f3, .slice A5 x.f2.length c5, .slice A6 x.f3.length c6, .int .i64 x.f4]] w fun e w' => e = .returned (.bool true) ∧ Below w.heap.size w w' := by
  have hu24 := Try.underlying24
  have hu30 := Try.underlying30
  have bl : Below w.heap.size w ((w.alloc (.cells #[.int .i64 a, .int .i64 b] 24)).alloc (.cells (cs30 x A5 c5 A6 c6) 30)) := below_alloc (below_alloc (Below.refl _ _) _) _
  have HI := Aside0.mk (And.intro h1 (And.intro h3 (And.intro (Kd.C_below hr0 bl) (And.intro hc0 (And.intro l5 (And.intro (Kd.C_below g5 bl) (And.intro l6 (And.intro (Kd.C_below g6 bl) bl))))))))
  have e1 : (w.alloc (.cells #[.int .i64 a, .int .i64 b] 24)).heap.size = w.heap.size + 1 := by simp
  have z : ((w.alloc (.cells #[.int .i64 a, .int .i64 b] 24)).alloc (.cells (cs30 x A5 c5 A6 c6) 30)).heap[w.heap.size + 1]? = some (.cells (cs30 x A5 c5 A6 c6) 30 (0, 0)) := by rw [← e1]; exact Array.getElem?_push_size
  obtain ⟨q0, q1⟩ := box2 (blk_more (o' := .cells (cs30 x A5 c5 A6 c6) 30) (show (w.alloc (.cells #[.int .i64 a, .int .i64 b] 24)).heap[w.heap.size]? = some (.cells #[.int .i64 a, .int .i64 b] 24 (0, 0)) from Array.getElem?_push_size))
  obtain ⟨z0, z1, z2, z3, z4, z5, z6, z7⟩ := box8 z
  simp only [cs30] at q0 q1 z0 z1 z2 z3 z4 z5 z6 z7
  clear h1 h3 hr0 hc0 l5 g5 l6 g6 bl z e1
  go_enter Try.func8, Try.ntmps8
  go_wp2_with (first
    | (go_at_call 19; refine (put1 k _ _ l0 a b x [] r _ HI.out.2.2.1 HI.out.2.2.2.1 HI.out.2.2.2.2.1 HI.out.2.2.2.2.2.1 HI.out.2.2.2.2.2.2.1 HI.out.2.2.2.2.2.2.2.1 HI.out.1).mono ?_; rintro e w1 ⟨B, d, rfl, hd, hC, hb⟩
       have H1 := Aside0.mk (below_step HI.out.2.2.2.2.2.2.2.2 hb)
       clear hd hC hb)
    | (go_at_call 13; refine (sextonlaw09_again.calls k _ HI.out.2.1).mono ?_; rintro e w4 ⟨rfl, hb⟩; have H4 := Aside0.mk (below_step H1.out hb); clear hb))
  go_ret
  exact ⟨rfl, H4.out⟩
set_option maxHeartbeats 8000000 in
set_option maxRecDepth 100000 in
theorem apart_good (k : Nat) (A0 : Option Addr) (c0 : Nat) (l0 : List S30) (a b : Int) (x : S30) (A5 A6 : Option Addr) (c5 c6 : Nat) (t : List S30) (w : World) (hr0 : Kd.C k30 w A0 l0.length l0) (hc0 : l0.length ≤ c0) (l5 : x.f2.length ≤ c5) (g5 : k73.C w A5 x.f2.length x.f2) (l6 : x.f3.length ≤ c6) (g6 : k75.C w A6 x.f3.length x.f3)
    (h1 : itab_Put.f k l0 a b x.f0 x.f1.f0 x.f1.f1 x.f1.f2 x.f1.f3 x.f2 x.f3 x.f4 = some (t, 0)) (h2 : itab_Find.f k t a b = some (x.f0, x.f1.f0, x.f1.f1, x.f1.f2, x.f1.f3, x.f2, x.f3, x.f4, 0)) (h4 : itab_Check.f k t = some 0) (h3 : sextonlaw09_again.f k = some true)
    (ht : t.length = l0.length) (hlen : t.length ≤ 24) (hsm : ∀ y ∈ t, y.f2.length ≤ 5900000000000 ∧ y.f3.length ≤ 5900000000000) (hx : x.f2.length ≤ 5900000000000 ∧ x.f3.length ≤ 5900000000000)
    (heq : ∀ (i : Nat) (h : i < l0.length) (h' : i < t.length), (i : Int) ≠ a → l0[i] = t[i]) :
    Calls Try.prog 8 #[.slice A0 l0.length c0, .agg #[.int .i64 a, .int .i64 b], .agg #[.int .i64 x.f0, .int .i64 x.f1.f0, .int .i64 x.f1.f1, .int .i64 x.f1.f2, .int .i64 x.f1.f3, .slice A5 x.f2.length c5, .slice A6 x.f3.length c6, .int .i64 x.f4]] w fun e w' => e = .returned (.bool true) ∧ Below w.heap.size w w' := by
  have hu24 := Try.underlying24
  have hu30 := Try.underlying30
  have HI := Aside0.mk (And.intro hr0 (And.intro hc0 (And.intro l5 (And.intro g5 (And.intro l6 g6)))))
  have HF := Aside0.mk (And.intro h1 (And.intro h2 (And.intro h3 h4)))
  have HT := Aside0.mk (And.intro ht (And.intro hlen (And.intro hsm (And.intro hx heq))))
  have HX := Aside0.mk (Bx.start w a b x A5 c5 A6 c6)
  obtain ⟨q0, q1⟩ := HX.out.cells0
  obtain ⟨z0, z1, z2, z3, z4, z5, z6, z7⟩ := HX.out.cells1
  have y0 : decide ((t.length : Int) = (l0.length : Int)) = true := decide_eq_true (by omega)
  have y1 : ((t.length : Int) != (l0.length : Int)) = false := bne_eq_false_iff_eq.2 (by omega)
  have y2 : (t.length != l0.length) = false := bne_eq_false_iff_eq.2 ht
  have y3 : decide (t.length = l0.length) = true := decide_eq_true ht
  have y4 : (t.length == l0.length) = true := beq_iff_eq.2 ht
  simp only [cs30] at q0 q1 z0 z1 z2 z3 z4 z5 z6 z7
  clear h1 h2 h3 h4 hr0 hc0 l5 g5 l6 g6 ht hlen hsm hx heq
  go_enter Try.func8, Try.ntmps8
  go_wp2_with (first
    | (go_at_call 19; refine (put1 k _ _ l0 a b x t 0 _ (Kd.C_below HI.out.1 HX.out.bel) HI.out.2.1 HI.out.2.2.1 (Kd.C_below HI.out.2.2.2.1 HX.out.bel) HI.out.2.2.2.2.1 (Kd.C_below HI.out.2.2.2.2.2 HX.out.bel) HF.out.1).mono ?_; rintro e w1 ⟨B, d, rfl, hd, hC, hb⟩
       have HX1 := Aside0.mk (HX.out.step hb)
       obtain ⟨q0, q1⟩ := HX1.out.cells0
       have H1 := Aside0.mk (And.intro hd hC)
       clear hd hC hb)
    | (go_at_call 10; refine (find1 k _ _ t a b x 0 _ H1.out.2 H1.out.1 HF.out.2.1).mono ?_; rintro e w2 ⟨B5, d5, B6, d6, rfl, m5, j5, m6, j6, hb⟩
       have HX2 := Aside0.mk (HX1.out.step hb)
       have bz := blk_more (o' := .cells (cs30 x B5 d5 B6 d6) 30) (blk_more (o' := .cells (cs30 x B5 d5 B6 d6) 30) HX2.out.h1)
       obtain ⟨z0, z1, z2, z3, z4, z5, z6, z7⟩ := box8 bz
       have H2 := Aside0.mk (And.intro m5 (And.intro j5 (And.intro m6 (And.intro j6 (Kd.C_below H1.out.2 hb)))))
       simp only [cs30] at z0 z1 z2 z3 z4 z5 z6 z7 ⊢
       clear m5 j5 m6 j6 hb bz)
    | (go_at_call 12; refine (same2 (.cells (cs30 x B5 d5 B6 d6) 30) H2.out.1 H2.out.2.1 H2.out.2.2.1 H2.out.2.2.2.1 HI.out.2.2.1 (Kd.C_below HI.out.2.2.2.1 HX2.out.bel) HI.out.2.2.2.2.1 (Kd.C_below HI.out.2.2.2.2.2 HX2.out.bel) HT.out.2.2.2.1).mono ?_; rintro e w3 ⟨rfl, hb⟩
       have HX3 := Aside0.mk (HX2.out.step hb)
       have H3 := Aside0.mk (Kd.C_below H2.out.2.2.2.2 hb)
       clear hb))
  go_loopw [11, 52] (fun _ iv wr => ∃ i : Nat, i ≤ l0.length ∧ iv = .int .i64 i ∧ Aside0 (Bx w wr a b x A5 c5 A6 c6 ∧ Kd.C k30 wr B t.length t)) (fun _ iv _ => l0.length - (intOf iv).toNat)
  case atStart => exact ⟨0, Nat.zero_le _, rfl, ⟨HX3.out, H3.out⟩⟩
  case round =>
    obtain ⟨i, hi, rfl, HL⟩ := hrel
    obtain ⟨q0, q1⟩ := HL.out.1.cells0
    by_cases hil : i < l0.length
    · have hiI : (i : Int) < (l0.length : Int) := by omega
      have hcap : (i : Int) + 1 ≤ (c0 : Int) := by have := HI.out.2.1; omega
      have hcap2 : (i : Int) + 1 ≤ (d : Int) := by have := H1.out.1; have := HT.out.1; omega
      have hlm : (l0.length : Int) ≤ 24 := by have := HT.out.1; have := HT.out.2.1; omega
      obtain ⟨adB, hB, sB⟩ := seg30 HL.out.2 (i := i) (by have := HT.out.1; omega)
      obtain ⟨adA, hA, sA⟩ := seg30 (Kd.C_below HI.out.1 HL.out.1.bel) hil
      subst hB
      subst hA
      by_cases hia : (i : Int) = a
      · have u0 : decide ((i : Int) = a) = true := decide_eq_true hia
        have u1 : ((i : Int) != a) = false := bne_eq_false_iff_eq.2 hia
        have HN := Aside0.mk hil
        clear hia sB sA hil
        go_wp2_with fail
        go_quiet (fail)
        go_wp2
        exact ⟨⟨i + 1, HN.out, by congr 1, ⟨HL.out.1.step (pw_below_drewN (Below.refl _ _) _), Kd.C_drewN HL.out.2 _⟩⟩, by have := HN.out; simp only [intOf]; omega⟩
      · have u0 : decide ((i : Int) = a) = false := decide_eq_false hia
        have u1 : ((i : Int) != a) = true := bne_iff_ne.2 hia
        have hit : i < t.length := by have := HT.out.1; omega
        have hte : l0[i] = t[i] := HT.out.2.2.2.2 i hil hit hia
        rw [hte] at sA
        have hsy := HT.out.2.2.1 t[i] (List.getElem_mem _)
        generalize t[i] = y at sA sB hsy hte
        have HN := Aside0.mk (And.intro hil (And.intro sA (And.intro sB hsy)))
        clear hia sB sA hil hit hte hsy
        obtain ⟨W5, hW5⟩ : ∃ W5 : World, W5 = wr.drew := ⟨_, rfl⟩
        have hX5 : Bx w W5 a b x A5 c5 A6 c6 := by rw [hW5]; exact HL.out.1.step (below_drew (Below.refl _ _))
        have hC5 : Kd.C k30 W5 (some adB) t.length t := by rw [hW5]; exact Kd.C_drew HL.out.2
        have sA5 : Kd.C k30 W5 (some (adA.add (i * 8))) 1 [y] := by rw [hW5]; exact Kd.C_drew HN.out.2.1
        have sB5 : Kd.C k30 W5 (some (adB.add (i * 8))) 1 [y] := by rw [hW5]; exact Kd.C_drew HN.out.2.2.1
        obtain ⟨q0, q1⟩ := hX5.cells0
        have k1 := cut30 (W := W5) (ad := adB) (n := t.length) (c := d) (i := i) (by omega)
        have k2 := cut30 (W := W5) (ad := adA) (n := l0.length) (c := c0) (i := i) (by omega)
        have hwr : IntKind.i64.wrap ((i : Int) + 1) = (i : Int) + 1 := by rw [i64_w]; unfold wrap64; omega
        have k3 := k1
        have k4 := k2
        rw [← hwr] at k3 k4
        have HW5 := Aside0.mk (show W5 = wr.drew from hW5)
        have H5 := Aside0.mk (And.intro hX5 (And.intro hC5 (And.intro sA5 sB5)))
        clear hW5 hX5 hC5 sA5 sB5 hcap hcap2
        go_wp2_with fail
        refine wp_region_still_tail 15 (by kernel_rfl) (by kernel_rfl) ?_
        simp only [List.take_succ_cons, List.take_zero, List.drop_succ_cons, List.drop_zero]
        change wpStill _ _ (World.drew _) (fun a' => wpList _ _ _ _ a' (World.drew _)) _ _
        rw [← HW5.out]
        repeat still_step
        refine wpStill_nil ?_
        go_wp2_with (first | (go_at_call 12; refine (same_calls _ _ _ _ [y] _ H5.out.2.2.2 H5.out.2.2.1 (by simp) (by simpa using HN.out.2.2.2)).mono ?_; rintro e w5 ⟨rfl, hb⟩; have H6 := Aside0.mk (And.intro (H5.out.1.step hb) (Kd.C_below H5.out.2.1 hb)); clear hb))
        exact ⟨⟨i + 1, HN.out.1, by congr 1, H6⟩, by have := HN.out.1; simp only [intOf]; omega⟩
    · obtain rfl : i = l0.length := by omega
      clear hil hi
      go_wp2_with (first
        | (go_at_call 22; refine (itab_Check.calls k _ _ t 0 _ HL.out.2 H1.out.1 HF.out.2.2.2).mono ?_; rintro e w5 ⟨rfl, hb⟩
           have HX5 := Aside0.mk (HL.out.1.step hb)
           clear hb)
        | (go_at_call 13; refine (sextonlaw09_again.calls k _ HF.out.2.2.1).mono ?_; rintro e w6 ⟨rfl, hb⟩; have HX6 := Aside0.mk (HX5.out.step hb); clear hb))
      go_ret
      exact ⟨rfl, HX6.out.bel⟩
end Go.Proofs.Ytgepphlkibnhdaa.PItab
