/- ItabPuts, by hand. -/
import Derived.Test.YtgepphlkibnhdaaOne30
import Derived.Test.YtgepphlkibnhdaaPItabx33
import Derived.Test.YtgepphlkibnhdaaPItabx24
import Derived.Test.YtgepphlkibnhdaaPItabx25
import Derived.Test.YtgepphlkibnhdaaRPut
import Derived.Test.YtgepphlkibnhdaaPItabx35
namespace Go.Proofs.Ytgepphlkibnhdaa.PItab
open Go Go.RowKit Go.Proofs.YtgepphlkibnhdaaW.PrintWords Go.Proofs.YtgepphlkibnhdaaW.PrintLast Go.Proofs.YtgepphlkibnhdaaW.PrintMore
set_option linter.unusedVariables false

theorem put1 (k : Nat) (A0 : Option Addr) (c0 : Nat) (l0 : List S30) (a b : Int) (x : S30) {A5 A6 : Option Addr} {c5 c6 : Nat} (t : List S30) (r : Int) (w : World) (hr0 : Kd.C k30 w A0 l0.length l0) (hc0 : l0.length ≤ c0) (l5 : x.f2.length ≤ c5) (g5 : k73.C w A5 x.f2.length x.f2) (l6 : x.f3.length ≤ c6) (g6 : k75.C w A6 x.f3.length x.f3)
    (h : itab_Put.f k l0 a b x.f0 x.f1.f0 x.f1.f1 x.f1.f2 x.f1.f3 x.f2 x.f3 x.f4 = some (t, r)) :
    Calls Try.prog 19 #[.slice A0 l0.length c0, .agg #[.int .i64 a, .int .i64 b], .agg #[.int .i64 x.f0, .int .i64 x.f1.f0, .int .i64 x.f1.f1, .int .i64 x.f1.f2, .int .i64 x.f1.f3, .slice A5 x.f2.length c5, .slice A6 x.f3.length c6, .int .i64 x.f4]] w fun e w' =>
      ∃ A c, e = .returned (.tuple #[.slice A t.length c, .int .i64 r]) ∧ t.length ≤ c ∧ Kd.C k30 w' A t.length t ∧ Below w.heap.size w w' := by
  refine (itab_Put.calls k A0 c0 l0 a b _ _ _ _ _ A5 c5 x.f2 A6 c6 x.f3 _ t r w hr0 hc0 g5 l5 g6 l6 h).mono ?_
  rintro e w' ⟨v0, rfl, hN, hb⟩
  obtain ⟨A, c, rfl, hl, hC⟩ := Kd.N_reads hN
  exact ⟨A, c, rfl, hl, hC, hb⟩
theorem drop1 (k : Nat) (A0 : Option Addr) (c0 : Nat) (l0 : List S30) (a b : Int) (t : List S30) (r : Int) (w : World) (hr0 : Kd.C k30 w A0 l0.length l0) (hc0 : l0.length ≤ c0) (h : itab_Drop.f k l0 a b = some (t, r)) :
    Calls Try.prog 17 #[.slice A0 l0.length c0, .agg #[.int .i64 a, .int .i64 b]] w fun e w' => ∃ A c, e = .returned (.tuple #[.slice A t.length c, .int .i64 r]) ∧ t.length ≤ c ∧ Kd.C k30 w' A t.length t ∧ Below w.heap.size w w' := by
  refine (itab_Drop.calls k A0 c0 l0 a b t r w hr0 hc0 h).mono ?_
  rintro e w' ⟨v0, rfl, hN, hb⟩
  obtain ⟨A, c, rfl, hl, hC⟩ := Kd.S_reads hN
  exact ⟨A, c, rfl, hl, hC, hb⟩
theorem rdrop1 (k : Nat) (A0 : Option Addr) (c0 : Nat) (l0 : List S30) (a b : Int) (t : List S30) (r : Int) (w : World) (hr0 : Kd.C k30 w A0 l0.length l0) (hc0 : l0.length ≤ c0) (h : sextonref09_Drop.f k l0 a b = some (t, r)) :
    Calls Try.prog 21 #[.slice A0 l0.length c0, .agg #[.int .i64 a, .int .i64 b]] w fun e w' => ∃ A c, e = .returned (.tuple #[.slice A t.length c, .int .i64 r]) ∧ t.length ≤ c ∧ Kd.C k30 w' A t.length t ∧ Below w.heap.size w w' := by
  refine (sextonref09_Drop.calls k (fun k_ => k_ < w.heap.size) A0 c0 l0 a b t r w (Kd.V_mk hc0 (Kd.C_F k30_heap hr0)) h).mono ?_
  rintro e w' ⟨v0, rfl, hN, hb⟩
  obtain ⟨A, c, rfl, hl, hC⟩ := Kd.N_reads hN
  exact ⟨A, c, rfl, hl, hC, hb⟩
set_option maxHeartbeats 8000000 in
set_option maxRecDepth 100000 in
theorem puts_calls (k : Nat) (A0 : Option Addr) (c0 : Nat) (l0 : List S30) (a b : Int) (x : S30) (A5 A6 : Option Addr) (c5 c6 : Nat) (t1 t2 : List S30) (r1 r2 : Int) (w : World) (hr0 : Kd.C k30 w A0 l0.length l0) (hc0 : l0.length ≤ c0) (l5 : x.f2.length ≤ c5) (g5 : k73.C w A5 x.f2.length x.f2) (l6 : x.f3.length ≤ c6) (g6 : k75.C w A6 x.f3.length x.f3)
    (h1 : itab_Put.f k l0 a b x.f0 x.f1.f0 x.f1.f1 x.f1.f2 x.f1.f3 x.f2 x.f3 x.f4 = some (t1, r1)) (h2 : rputF k l0 a b x = some (t1, r1)) (h3 : itab_Drop.f k l0 a b = some (t2, r2)) (h4 : sextonref09_Drop.f k l0 a b = some (t2, r2))
    (s1 : t1.length ≤ 1000000000000 ∧ ∀ x ∈ t1, x.f2.length ≤ 5900000000000 ∧ x.f3.length ≤ 5900000000000) (s2 : t2.length ≤ 1000000000000 ∧ ∀ x ∈ t2, x.f2.length ≤ 5900000000000 ∧ x.f3.length ≤ 5900000000000) (h5 : sextonlaw09_again.f k = some true) :
    Calls Try.prog 7 #[.slice A0 l0.length c0, .agg #[.int .i64 a, .int .i64 b], .agg #[.int .i64 x.f0, .int .i64 x.f1.f0, .int .i64 x.f1.f1, .int .i64 x.f1.f2, .int .i64 x.f1.f3, .slice A5 x.f2.length c5, .slice A6 x.f3.length c6, .int .i64 x.f4]] w fun e w' => e = .returned (.bool true) ∧ Below w.heap.size w w' := by
  have hu24 := Try.underlying24
  have hu30 := Try.underlying30
  have HI := Aside0.mk (And.intro hr0 (And.intro hc0 (And.intro l5 (And.intro g5 (And.intro l6 g6)))))
  have HF := Aside0.mk (And.intro h1 (And.intro h2 (And.intro h3 (And.intro h4 h5))))
  have HS := Aside0.mk (And.intro s1 s2)
  have HX := Aside0.mk (Bx.start w a b x A5 c5 A6 c6)
  obtain ⟨q0, q1⟩ := HX.out.cells0
  obtain ⟨z0, z1, z2, z3, z4, z5, z6, z7⟩ := HX.out.cells1
  simp only [cs30] at q0 q1 z0 z1 z2 z3 z4 z5 z6 z7
  clear h1 h2 h3 h4 h5 hr0 hc0 l5 g5 l6 g6 s1 s2
  go_enter Try.func7, Try.ntmps7
  go_wp2_with (first
    | (go_at_call 19; refine (put1 k _ _ l0 a b x t1 r1 _ (Kd.C_below HI.out.1 HX.out.bel) HI.out.2.1 HI.out.2.2.1 (Kd.C_below HI.out.2.2.2.1 HX.out.bel) HI.out.2.2.2.2.1 (Kd.C_below HI.out.2.2.2.2.2 HX.out.bel) HF.out.1).mono ?_; rintro e w1 ⟨B1, d1, rfl, hd, hC, hb⟩
       have HX1 := Aside0.mk (HX.out.step hb)
       obtain ⟨q0, q1⟩ := HX1.out.cells0
       obtain ⟨z0, z1, z2, z3, z4, z5, z6, z7⟩ := HX1.out.cells1
       have H1 := Aside0.mk (And.intro hd hC)
       clear hd hC hb)
    | (go_at_call 20; refine (rput1 k _ _ l0 a b x t1 r1 _ (Kd.C_below HI.out.1 HX1.out.bel) HI.out.2.1 HI.out.2.2.1 (Kd.C_below HI.out.2.2.2.1 HX1.out.bel) HI.out.2.2.2.2.1 (Kd.C_below HI.out.2.2.2.2.2 HX1.out.bel) HF.out.2.1).mono ?_; rintro e w2 ⟨B2, d2, rfl, hd, hC, hb⟩
       have HX2 := Aside0.mk (HX1.out.step hb)
       obtain ⟨q0, q1⟩ := HX2.out.cells0
       have H2 := Aside0.mk (And.intro (Kd.C_below H1.out.2 hb) hC)
       clear hd hC hb)
    | (go_at_call 17; refine (drop1 k _ _ l0 a b t2 r2 _ (Kd.C_below HI.out.1 HX2.out.bel) HI.out.2.1 HF.out.2.2.1).mono ?_; rintro e w3 ⟨B3, d3, rfl, hd, hC, hb⟩
       have HX3 := Aside0.mk (HX2.out.step hb)
       obtain ⟨q0, q1⟩ := HX3.out.cells0
       have H3 := Aside0.mk (And.intro (Kd.C_below H2.out.1 hb) (And.intro (Kd.C_below H2.out.2 hb) hC))
       clear hd hC hb)
    | (go_at_call 21; refine (rdrop1 k _ _ l0 a b t2 r2 _ (Kd.C_below HI.out.1 HX3.out.bel) HI.out.2.1 HF.out.2.2.2.1).mono ?_; rintro e w4 ⟨B4, d4, rfl, hd, hC, hb⟩
       have HX4 := Aside0.mk (HX3.out.step hb)
       have H4 := Aside0.mk (And.intro (Kd.C_below H3.out.1 hb) (And.intro (Kd.C_below H3.out.2.1 hb) (And.intro (Kd.C_below H3.out.2.2 hb) hC)))
       have tok : Aside0 True := ⟨trivial⟩
       clear hd hC hb)
    | (go_at_call 12; have _t := tok; refine (same_calls _ _ _ _ t1 _ H4.out.1 H4.out.2.1 HS.out.1.1 HS.out.1.2).mono ?_; rintro e w5 ⟨rfl, hb⟩
       have HX5 := Aside0.mk (HX4.out.step hb)
       have H5 := Aside0.mk (And.intro (Kd.C_below H4.out.2.2.1 hb) (Kd.C_below H4.out.2.2.2 hb))
       clear tok hb)
    | (go_at_call 12; refine (same_calls _ _ _ _ t2 _ H5.out.1 H5.out.2 HS.out.2.1 HS.out.2.2).mono ?_; rintro e w6 ⟨rfl, hb⟩
       have HX6 := Aside0.mk (HX5.out.step hb)
       clear hb)
    | (go_at_call 13; refine (sextonlaw09_again.calls k _ HF.out.2.2.2.2).mono ?_; rintro e w7 ⟨rfl, hb⟩; have HX7 := Aside0.mk (HX6.out.step hb); clear hb))
  go_ret
  exact ⟨rfl, HX7.out.bel⟩
def sextonlaw09_ItabPuts.f (k : Nat) (l0 : List S30) (a b a0 a1 a2 a3 a4 : Int) (l5 : List S73) (l6 : List S75) (a7 : Int) : Option Bool :=
  (itab_Put.f k l0 a b a0 a1 a2 a3 a4 l5 l6 a7).bind fun p => (rputF k l0 a b ⟨a0, ⟨a1, a2, a3, a4⟩, l5, l6, a7⟩).bind fun q => (itab_Drop.f k l0 a b).bind fun r => (sextonref09_Drop.f k l0 a b).bind fun s =>
    if (eqL eq30 p.1 q.1 && p.1.all small && (p.2 == q.2) && decide (p.1.length ≤ 1000000000000) && (eqL eq30 r.1 s.1 && r.1.all small && (r.2 == s.2) && decide (r.1.length ≤ 1000000000000))) = true then sextonlaw09_again.f k else none
theorem sextonlaw09_ItabPuts.calls (k : Nat) (A0 : Option Addr) (c0 : Nat) (l0 : List S30) (a b a0 a1 a2 a3 a4 : Int) (A5 : Option Addr) (c5 : Nat) (l5 : List S73) (A6 : Option Addr) (c6 : Nat) (l6 : List S75) (a7 : Int) (w : World)
    (hr0 : Kd.C k30 w A0 l0.length l0) (hc0 : l0.length ≤ c0) (hr5 : Kd.C k73 w A5 l5.length l5) (hc5 : l5.length ≤ c5) (hr6 : Kd.C k75 w A6 l6.length l6) (hc6 : l6.length ≤ c6) (h : sextonlaw09_ItabPuts.f k l0 a b a0 a1 a2 a3 a4 l5 l6 a7 = some true) :
    Calls Try.prog 7 #[.slice A0 l0.length c0, .agg #[.int .i64 a, .int .i64 b], .agg #[.int .i64 a0, .int .i64 a1, .int .i64 a2, .int .i64 a3, .int .i64 a4, .slice A5 l5.length c5, .slice A6 l6.length c6, .int .i64 a7]] w fun e w' => e = .returned (.bool true) ∧ Below w.heap.size w w' := by
  obtain ⟨⟨p, pe⟩, hp, g1⟩ := Option.bind_eq_some_iff.1 h
  obtain ⟨⟨q, qe⟩, hq, g2⟩ := Option.bind_eq_some_iff.1 g1
  obtain ⟨⟨r, re⟩, hr, g3⟩ := Option.bind_eq_some_iff.1 g2
  obtain ⟨⟨s, se⟩, hs, g4⟩ := Option.bind_eq_some_iff.1 g3
  clear h g1 g2 g3
  dsimp only at g4
  split at g4
  · rename_i hc
    simp only [Bool.and_eq_true, beq_iff_eq, decide_eq_true_eq] at hc
    obtain ⟨⟨⟨⟨e1, s1⟩, rfl⟩, n1⟩, ⟨⟨e2, s2⟩, rfl⟩, n2⟩ := hc
    obtain rfl := eqL_eq eq30_eq _ _ e1
    obtain rfl := eqL_eq eq30_eq _ _ e2
    exact puts_calls k A0 c0 l0 a b ⟨a0, ⟨a1, a2, a3, a4⟩, l5, l6, a7⟩ A5 A6 c5 c6 p r pe re w hr0 hc0 hc5 hr5 hc6 hr6 hp hq hr hs ⟨n1, fun x hx => by simpa [small] using List.all_eq_true.1 s1 x hx⟩ ⟨n2, fun x hx => by simpa [small] using List.all_eq_true.1 s2 x hx⟩ g4
  · cases g4
end Go.Proofs.Ytgepphlkibnhdaa.PItab
