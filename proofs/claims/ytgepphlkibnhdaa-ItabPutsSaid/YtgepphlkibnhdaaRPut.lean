/- The reference's Put, by hand: what can be read behind it. -/
import Derived.Test.YtgepphlkibnhdaaOne30
import Derived.Test.YtgepphlkibnhdaaPItabx19
import Derived.Test.YtgepphlkibnhdaaPItabx20
import Derived.Test.YtgepphlkibnhdaaPItabx27
namespace Go.Proofs.Ytgepphlkibnhdaa.PItab
open Go Go.RowKit Go.Proofs.YtgepphlkibnhdaaW.PrintWords Go.Proofs.YtgepphlkibnhdaaW.PrintLast Go.Proofs.YtgepphlkibnhdaaW.PrintMore
set_option linter.unusedVariables false

theorem with1 (k : Nat) (A0 : Option Addr) (c0 : Nat) (l0 : List S30) (a : Int) (x : S30) {A5 A6 : Option Addr} {c5 c6 : Nat} (t : List S30) (w : World) (hr0 : Kd.C k30 w A0 l0.length l0) (hc0 : l0.length ≤ c0) (l5 : x.f2.length ≤ c5) (g5 : k73.C w A5 x.f2.length x.f2) (l6 : x.f3.length ≤ c6) (g6 : k75.C w A6 x.f3.length x.f3) (h : sextonref09_with.f k l0 a x.f0 x.f1.f0 x.f1.f1 x.f1.f2 x.f1.f3 x.f2 x.f3 x.f4 = some t) :
    Calls Try.prog 33 #[.slice A0 l0.length c0, .int .i64 a, .agg #[.int .i64 x.f0, .int .i64 x.f1.f0, .int .i64 x.f1.f1, .int .i64 x.f1.f2, .int .i64 x.f1.f3, .slice A5 x.f2.length c5, .slice A6 x.f3.length c6, .int .i64 x.f4]] w fun e w' => ∃ A c, e = .returned (.slice A t.length c) ∧ t.length ≤ c ∧ Kd.C k30 w' A t.length t ∧ Below w.heap.size w w' := by
  refine (sextonref09_with.calls k (fun k_ => k_ < w.heap.size) A0 c0 l0 a _ _ _ _ _ (fun k_ => k_ < w.heap.size) A5 c5 x.f2 (fun k_ => k_ < w.heap.size) A6 c6 x.f3 _ t w (Kd.V_mk hc0 (Kd.C_F k30_heap hr0)) (Kd.V_mk l5 (Kd.C_F k73_heap g5)) (Kd.V_mk l6 (Kd.C_F k75_heap g6)) h).mono ?_
  rintro e w' ⟨v0, rfl, hN, hb⟩
  obtain ⟨A, c, rfl, hl, hC⟩ := Kd.N_reads hN
  exact ⟨A, c, rfl, hl, hC, hb⟩
set_option maxHeartbeats 8000000 in
set_option maxRecDepth 100000 in
theorem rput_form (k : Nat) (A0 : Option Addr) (c0 : Nat) (l0 : List S30) (a b : Int) (x : S30) {A5 A6 : Option Addr} {c5 c6 : Nat} (w : World) (hr0 : Kd.C k30 w A0 l0.length l0) (hc0 : l0.length ≤ c0) (l5 : x.f2.length ≤ c5) (g5 : k73.C w A5 x.f2.length x.f2) (l6 : x.f3.length ≤ c6) (g6 : k75.C w A6 x.f3.length x.f3) (h1 : sextonref09_Right.f k l0 = some false) :
    Calls Try.prog 20 #[.slice A0 l0.length c0, .agg #[.int .i64 a, .int .i64 b], .agg #[.int .i64 x.f0, .int .i64 x.f1.f0, .int .i64 x.f1.f1, .int .i64 x.f1.f2, .int .i64 x.f1.f3, .slice A5 x.f2.length c5, .slice A6 x.f3.length c6, .int .i64 x.f4]] w fun e w' => ∃ A c, e = .returned (.tuple #[.slice A ([] : List S30).length c, .int .i64 4]) ∧ ([] : List S30).length ≤ c ∧ Kd.C k30 w' A ([] : List S30).length [] ∧ Below w.heap.size w w' := by
  have hu24 := Try.underlying24
  have hu30 := Try.underlying30
  have HI := Aside0.mk (And.intro hr0 (And.intro hc0 (And.intro l5 (And.intro g5 (And.intro l6 g6)))))
  have HX := Aside0.mk (Bx.start w a b x A5 c5 A6 c6)
  have tok : Aside0 True := ⟨trivial⟩
  have HF := Aside0.mk (And.intro h1 trivial)
  clear hr0 hc0 l5 g5 l6 g6 h1
  go_enter Try.func20, Try.ntmps20
  go_wp2_with (first
    | (go_at_call 23; have _t := tok; refine (sextonref09_Right.calls k _ _ l0 false _ (Kd.C_below HI.out.1 HX.out.bel) HI.out.2.1 HF.out.1).mono ?_; rintro e w1 ⟨rfl, hb⟩
       have HX1 := Aside0.mk (HX.out.step hb)
       obtain ⟨q0, q1⟩ := HX1.out.cells0
       obtain ⟨z0, z1, z2, z3, z4, z5, z6, z7⟩ := HX1.out.cells1
       clear tok hb))
  go_ret2
  exact ⟨none, 0, rfl, Nat.le_refl _, ⟨rfl, by decide, fun h => by simp at h⟩, HX1.out.bel⟩
set_option maxHeartbeats 8000000 in
set_option maxRecDepth 100000 in
theorem rput_stale (k : Nat) (A0 : Option Addr) (c0 : Nat) (l0 : List S30) (a b : Int) (x : S30) {A5 A6 : Option Addr} {c5 c6 : Nat} (w : World) (hr0 : Kd.C k30 w A0 l0.length l0) (hc0 : l0.length ≤ c0) (l5 : x.f2.length ≤ c5) (g5 : k73.C w A5 x.f2.length x.f2) (l6 : x.f3.length ≤ c6) (g6 : k75.C w A6 x.f3.length x.f3) (h1 : sextonref09_Right.f k l0 = some true) (h2 : sextonref09_Names.f k l0 a b = some false) :
    Calls Try.prog 20 #[.slice A0 l0.length c0, .agg #[.int .i64 a, .int .i64 b], .agg #[.int .i64 x.f0, .int .i64 x.f1.f0, .int .i64 x.f1.f1, .int .i64 x.f1.f2, .int .i64 x.f1.f3, .slice A5 x.f2.length c5, .slice A6 x.f3.length c6, .int .i64 x.f4]] w fun e w' => ∃ A c, e = .returned (.tuple #[.slice A ([] : List S30).length c, .int .i64 401]) ∧ ([] : List S30).length ≤ c ∧ Kd.C k30 w' A ([] : List S30).length [] ∧ Below w.heap.size w w' := by
  have hu24 := Try.underlying24
  have hu30 := Try.underlying30
  have HI := Aside0.mk (And.intro hr0 (And.intro hc0 (And.intro l5 (And.intro g5 (And.intro l6 g6)))))
  have HX := Aside0.mk (Bx.start w a b x A5 c5 A6 c6)
  have tok : Aside0 True := ⟨trivial⟩
  have HF := Aside0.mk (And.intro h1 (And.intro h2 trivial))
  clear hr0 hc0 l5 g5 l6 g6 h1 h2
  go_enter Try.func20, Try.ntmps20
  go_wp2_with (first
    | (go_at_call 23; have _t := tok; refine (sextonref09_Right.calls k _ _ l0 true _ (Kd.C_below HI.out.1 HX.out.bel) HI.out.2.1 HF.out.1).mono ?_; rintro e w1 ⟨rfl, hb⟩
       have HX1 := Aside0.mk (HX.out.step hb)
       obtain ⟨q0, q1⟩ := HX1.out.cells0
       obtain ⟨z0, z1, z2, z3, z4, z5, z6, z7⟩ := HX1.out.cells1
       clear tok hb)
    | (go_at_call 29; refine (sextonref09_Names.calls k _ _ l0 a b false _ (Kd.C_below HI.out.1 HX1.out.bel) HI.out.2.1 HF.out.2.1).mono ?_; rintro e w2 ⟨rfl, hb⟩
       have HX2 := Aside0.mk (HX1.out.step hb)
       obtain ⟨q0, q1⟩ := HX2.out.cells0
       obtain ⟨z0, z1, z2, z3, z4, z5, z6, z7⟩ := HX2.out.cells1
       clear hb))
  go_ret2
  exact ⟨none, 0, rfl, Nat.le_refl _, ⟨rfl, by decide, fun h => by simp at h⟩, HX2.out.bel⟩
set_option maxHeartbeats 8000000 in
set_option maxRecDepth 100000 in
theorem rput_gen (k : Nat) (A0 : Option Addr) (c0 : Nat) (l0 : List S30) (a b : Int) (x : S30) {A5 A6 : Option Addr} {c5 c6 : Nat} (w : World) (hr0 : Kd.C k30 w A0 l0.length l0) (hc0 : l0.length ≤ c0) (l5 : x.f2.length ≤ c5) (g5 : k73.C w A5 x.f2.length x.f2) (l6 : x.f3.length ≤ c6) (g6 : k75.C w A6 x.f3.length x.f3) (h1 : sextonref09_Right.f k l0 = some true) (h2 : sextonref09_Names.f k l0 a b = some true) (z : (x.f0 != b) = true) :
    Calls Try.prog 20 #[.slice A0 l0.length c0, .agg #[.int .i64 a, .int .i64 b], .agg #[.int .i64 x.f0, .int .i64 x.f1.f0, .int .i64 x.f1.f1, .int .i64 x.f1.f2, .int .i64 x.f1.f3, .slice A5 x.f2.length c5, .slice A6 x.f3.length c6, .int .i64 x.f4]] w fun e w' => ∃ A c, e = .returned (.tuple #[.slice A ([] : List S30).length c, .int .i64 1]) ∧ ([] : List S30).length ≤ c ∧ Kd.C k30 w' A ([] : List S30).length [] ∧ Below w.heap.size w w' := by
  have hu24 := Try.underlying24
  have hu30 := Try.underlying30
  have HI := Aside0.mk (And.intro hr0 (And.intro hc0 (And.intro l5 (And.intro g5 (And.intro l6 g6)))))
  have HX := Aside0.mk (Bx.start w a b x A5 c5 A6 c6)
  have tok : Aside0 True := ⟨trivial⟩
  have HF := Aside0.mk (And.intro h1 (And.intro h2 trivial))
  clear hr0 hc0 l5 g5 l6 g6 h1 h2
  go_enter Try.func20, Try.ntmps20
  go_wp2_with (first
    | (go_at_call 23; have _t := tok; refine (sextonref09_Right.calls k _ _ l0 true _ (Kd.C_below HI.out.1 HX.out.bel) HI.out.2.1 HF.out.1).mono ?_; rintro e w1 ⟨rfl, hb⟩
       have HX1 := Aside0.mk (HX.out.step hb)
       obtain ⟨q0, q1⟩ := HX1.out.cells0
       obtain ⟨z0, z1, z2, z3, z4, z5, z6, z7⟩ := HX1.out.cells1
       clear tok hb)
    | (go_at_call 29; refine (sextonref09_Names.calls k _ _ l0 a b true _ (Kd.C_below HI.out.1 HX1.out.bel) HI.out.2.1 HF.out.2.1).mono ?_; rintro e w2 ⟨rfl, hb⟩
       have HX2 := Aside0.mk (HX1.out.step hb)
       obtain ⟨q0, q1⟩ := HX2.out.cells0
       obtain ⟨z0, z1, z2, z3, z4, z5, z6, z7⟩ := HX2.out.cells1
       clear hb))
  go_ret2
  exact ⟨none, 0, rfl, Nat.le_refl _, ⟨rfl, by decide, fun h => by simp at h⟩, HX2.out.bel⟩
set_option maxHeartbeats 8000000 in
set_option maxRecDepth 100000 in
theorem rput_kind (k : Nat) (A0 : Option Addr) (c0 : Nat) (l0 : List S30) (a b : Int) (x : S30) {A5 A6 : Option Addr} {c5 c6 : Nat} (w : World) (hr0 : Kd.C k30 w A0 l0.length l0) (hc0 : l0.length ≤ c0) (l5 : x.f2.length ≤ c5) (g5 : k73.C w A5 x.f2.length x.f2) (l6 : x.f3.length ≤ c6) (g6 : k75.C w A6 x.f3.length x.f3) (h1 : sextonref09_Right.f k l0 = some true) (h2 : sextonref09_Names.f k l0 a b = some true) (z : (x.f0 != b) = false) (y : (x.f1.f0 == 0) = true) :
    Calls Try.prog 20 #[.slice A0 l0.length c0, .agg #[.int .i64 a, .int .i64 b], .agg #[.int .i64 x.f0, .int .i64 x.f1.f0, .int .i64 x.f1.f1, .int .i64 x.f1.f2, .int .i64 x.f1.f3, .slice A5 x.f2.length c5, .slice A6 x.f3.length c6, .int .i64 x.f4]] w fun e w' => ∃ A c, e = .returned (.tuple #[.slice A ([] : List S30).length c, .int .i64 1]) ∧ ([] : List S30).length ≤ c ∧ Kd.C k30 w' A ([] : List S30).length [] ∧ Below w.heap.size w w' := by
  have hu24 := Try.underlying24
  have hu30 := Try.underlying30
  have HI := Aside0.mk (And.intro hr0 (And.intro hc0 (And.intro l5 (And.intro g5 (And.intro l6 g6)))))
  have HX := Aside0.mk (Bx.start w a b x A5 c5 A6 c6)
  have tok : Aside0 True := ⟨trivial⟩
  have HF := Aside0.mk (And.intro h1 (And.intro h2 trivial))
  clear hr0 hc0 l5 g5 l6 g6 h1 h2
  go_enter Try.func20, Try.ntmps20
  go_wp2_with (first
    | (go_at_call 23; have _t := tok; refine (sextonref09_Right.calls k _ _ l0 true _ (Kd.C_below HI.out.1 HX.out.bel) HI.out.2.1 HF.out.1).mono ?_; rintro e w1 ⟨rfl, hb⟩
       have HX1 := Aside0.mk (HX.out.step hb)
       obtain ⟨q0, q1⟩ := HX1.out.cells0
       obtain ⟨z0, z1, z2, z3, z4, z5, z6, z7⟩ := HX1.out.cells1
       clear tok hb)
    | (go_at_call 29; refine (sextonref09_Names.calls k _ _ l0 a b true _ (Kd.C_below HI.out.1 HX1.out.bel) HI.out.2.1 HF.out.2.1).mono ?_; rintro e w2 ⟨rfl, hb⟩
       have HX2 := Aside0.mk (HX1.out.step hb)
       obtain ⟨q0, q1⟩ := HX2.out.cells0
       obtain ⟨z0, z1, z2, z3, z4, z5, z6, z7⟩ := HX2.out.cells1
       clear hb))
  go_ret2
  exact ⟨none, 0, rfl, Nat.le_refl _, ⟨rfl, by decide, fun h => by simp at h⟩, HX2.out.bel⟩
set_option maxHeartbeats 8000000 in
set_option maxRecDepth 100000 in
theorem rput_bad (k : Nat) (A0 : Option Addr) (c0 : Nat) (l0 : List S30) (a b : Int) (x : S30) {A5 A6 : Option Addr} {c5 c6 : Nat} (t : List S30) (w : World) (hr0 : Kd.C k30 w A0 l0.length l0) (hc0 : l0.length ≤ c0) (l5 : x.f2.length ≤ c5) (g5 : k73.C w A5 x.f2.length x.f2) (l6 : x.f3.length ≤ c6) (g6 : k75.C w A6 x.f3.length x.f3) (h1 : sextonref09_Right.f k l0 = some true) (h2 : sextonref09_Names.f k l0 a b = some true) (z : (x.f0 != b) = false) (y : (x.f1.f0 == 0) = false) (h3 : sextonref09_with.f k l0 a x.f0 x.f1.f0 x.f1.f1 x.f1.f2 x.f1.f3 x.f2 x.f3 x.f4 = some t) (h4 : sextonref09_Right.f k t = some false) :
    Calls Try.prog 20 #[.slice A0 l0.length c0, .agg #[.int .i64 a, .int .i64 b], .agg #[.int .i64 x.f0, .int .i64 x.f1.f0, .int .i64 x.f1.f1, .int .i64 x.f1.f2, .int .i64 x.f1.f3, .slice A5 x.f2.length c5, .slice A6 x.f3.length c6, .int .i64 x.f4]] w fun e w' => ∃ A c, e = .returned (.tuple #[.slice A ([] : List S30).length c, .int .i64 4]) ∧ ([] : List S30).length ≤ c ∧ Kd.C k30 w' A ([] : List S30).length [] ∧ Below w.heap.size w w' := by
  have hu24 := Try.underlying24
  have hu30 := Try.underlying30
  have HI := Aside0.mk (And.intro hr0 (And.intro hc0 (And.intro l5 (And.intro g5 (And.intro l6 g6)))))
  have HX := Aside0.mk (Bx.start w a b x A5 c5 A6 c6)
  have tok : Aside0 True := ⟨trivial⟩
  have HF := Aside0.mk (And.intro h1 (And.intro h2 (And.intro h3 h4)))
  clear hr0 hc0 l5 g5 l6 g6 h1 h2 h3 h4
  go_enter Try.func20, Try.ntmps20
  go_wp2_with (first
    | (go_at_call 23; have _t := tok; refine (sextonref09_Right.calls k _ _ l0 true _ (Kd.C_below HI.out.1 HX.out.bel) HI.out.2.1 HF.out.1).mono ?_; rintro e w1 ⟨rfl, hb⟩
       have HX1 := Aside0.mk (HX.out.step hb)
       obtain ⟨q0, q1⟩ := HX1.out.cells0
       obtain ⟨z0, z1, z2, z3, z4, z5, z6, z7⟩ := HX1.out.cells1
       clear tok hb)
    | (go_at_call 29; refine (sextonref09_Names.calls k _ _ l0 a b true _ (Kd.C_below HI.out.1 HX1.out.bel) HI.out.2.1 HF.out.2.1).mono ?_; rintro e w2 ⟨rfl, hb⟩
       have HX2 := Aside0.mk (HX1.out.step hb)
       obtain ⟨q0, q1⟩ := HX2.out.cells0
       obtain ⟨z0, z1, z2, z3, z4, z5, z6, z7⟩ := HX2.out.cells1
       clear hb)
    | (go_at_call 33; refine (with1 k _ _ l0 a x t _ (Kd.C_below HI.out.1 HX2.out.bel) HI.out.2.1 HI.out.2.2.1 (Kd.C_below HI.out.2.2.2.1 HX2.out.bel) HI.out.2.2.2.2.1 (Kd.C_below HI.out.2.2.2.2.2 HX2.out.bel) HF.out.2.2.1).mono ?_; rintro e w3 ⟨B, d, rfl, hd, hC, hb⟩
       have HX3 := Aside0.mk (HX2.out.step hb)
       have H3 := Aside0.mk (And.intro hd hC)
       clear hd hC hb)
    | (go_at_call 23; refine (sextonref09_Right.calls k _ _ t false _ H3.out.2 H3.out.1 HF.out.2.2.2).mono ?_; rintro e w4 ⟨rfl, hb⟩
       have HX4 := Aside0.mk (HX3.out.step hb)
       have H4 := Aside0.mk (Kd.C_below H3.out.2 hb)
       clear hb))
  go_ret2
  exact ⟨none, 0, rfl, Nat.le_refl _, ⟨rfl, by decide, fun h => by simp at h⟩, HX4.out.bel⟩
set_option maxHeartbeats 8000000 in
set_option maxRecDepth 100000 in
theorem rput_good (k : Nat) (A0 : Option Addr) (c0 : Nat) (l0 : List S30) (a b : Int) (x : S30) {A5 A6 : Option Addr} {c5 c6 : Nat} (t : List S30) (w : World) (hr0 : Kd.C k30 w A0 l0.length l0) (hc0 : l0.length ≤ c0) (l5 : x.f2.length ≤ c5) (g5 : k73.C w A5 x.f2.length x.f2) (l6 : x.f3.length ≤ c6) (g6 : k75.C w A6 x.f3.length x.f3) (h1 : sextonref09_Right.f k l0 = some true) (h2 : sextonref09_Names.f k l0 a b = some true) (z : (x.f0 != b) = false) (y : (x.f1.f0 == 0) = false) (h3 : sextonref09_with.f k l0 a x.f0 x.f1.f0 x.f1.f1 x.f1.f2 x.f1.f3 x.f2 x.f3 x.f4 = some t) (h4 : sextonref09_Right.f k t = some true) :
    Calls Try.prog 20 #[.slice A0 l0.length c0, .agg #[.int .i64 a, .int .i64 b], .agg #[.int .i64 x.f0, .int .i64 x.f1.f0, .int .i64 x.f1.f1, .int .i64 x.f1.f2, .int .i64 x.f1.f3, .slice A5 x.f2.length c5, .slice A6 x.f3.length c6, .int .i64 x.f4]] w fun e w' => ∃ A c, e = .returned (.tuple #[.slice A (t : List S30).length c, .int .i64 0]) ∧ (t : List S30).length ≤ c ∧ Kd.C k30 w' A (t : List S30).length t ∧ Below w.heap.size w w' := by
  have hu24 := Try.underlying24
  have hu30 := Try.underlying30
  have HI := Aside0.mk (And.intro hr0 (And.intro hc0 (And.intro l5 (And.intro g5 (And.intro l6 g6)))))
  have HX := Aside0.mk (Bx.start w a b x A5 c5 A6 c6)
  have tok : Aside0 True := ⟨trivial⟩
  have HF := Aside0.mk (And.intro h1 (And.intro h2 (And.intro h3 h4)))
  clear hr0 hc0 l5 g5 l6 g6 h1 h2 h3 h4
  go_enter Try.func20, Try.ntmps20
  go_wp2_with (first
    | (go_at_call 23; have _t := tok; refine (sextonref09_Right.calls k _ _ l0 true _ (Kd.C_below HI.out.1 HX.out.bel) HI.out.2.1 HF.out.1).mono ?_; rintro e w1 ⟨rfl, hb⟩
       have HX1 := Aside0.mk (HX.out.step hb)
       obtain ⟨q0, q1⟩ := HX1.out.cells0
       obtain ⟨z0, z1, z2, z3, z4, z5, z6, z7⟩ := HX1.out.cells1
       clear tok hb)
    | (go_at_call 29; refine (sextonref09_Names.calls k _ _ l0 a b true _ (Kd.C_below HI.out.1 HX1.out.bel) HI.out.2.1 HF.out.2.1).mono ?_; rintro e w2 ⟨rfl, hb⟩
       have HX2 := Aside0.mk (HX1.out.step hb)
       obtain ⟨q0, q1⟩ := HX2.out.cells0
       obtain ⟨z0, z1, z2, z3, z4, z5, z6, z7⟩ := HX2.out.cells1
       clear hb)
    | (go_at_call 33; refine (with1 k _ _ l0 a x t _ (Kd.C_below HI.out.1 HX2.out.bel) HI.out.2.1 HI.out.2.2.1 (Kd.C_below HI.out.2.2.2.1 HX2.out.bel) HI.out.2.2.2.2.1 (Kd.C_below HI.out.2.2.2.2.2 HX2.out.bel) HF.out.2.2.1).mono ?_; rintro e w3 ⟨B, d, rfl, hd, hC, hb⟩
       have HX3 := Aside0.mk (HX2.out.step hb)
       have H3 := Aside0.mk (And.intro hd hC)
       clear hd hC hb)
    | (go_at_call 23; refine (sextonref09_Right.calls k _ _ t true _ H3.out.2 H3.out.1 HF.out.2.2.2).mono ?_; rintro e w4 ⟨rfl, hb⟩
       have HX4 := Aside0.mk (HX3.out.step hb)
       have H4 := Aside0.mk (Kd.C_below H3.out.2 hb)
       clear hb))
  go_ret2
  exact ⟨B, d, rfl, H3.out.1, H4.out, HX4.out.bel⟩
def rputF (k : Nat) (l0 : List S30) (a b : Int) (x : S30) : Option (List S30 × Int) := (sextonref09_Right.f k l0).bind fun r => if r = true then ((sextonref09_Names.f k l0 a b).bind fun n => if n = true then (if x.f0 = b ∧ ¬ x.f1.f0 = 0 then ((sextonref09_with.f k l0 a x.f0 x.f1.f0 x.f1.f1 x.f1.f2 x.f1.f3 x.f2 x.f3 x.f4).bind fun t => (sextonref09_Right.f k t).bind fun q => if q = true then some (t, 0) else some ([], 4)) else some ([], 1)) else some ([], 401)) else some ([], 4)
theorem rput1 (k : Nat) (A0 : Option Addr) (c0 : Nat) (l0 : List S30) (a b : Int) (x : S30) {A5 A6 : Option Addr} {c5 c6 : Nat} (t : List S30) (r : Int) (w : World) (hr0 : Kd.C k30 w A0 l0.length l0) (hc0 : l0.length ≤ c0) (l5 : x.f2.length ≤ c5) (g5 : k73.C w A5 x.f2.length x.f2) (l6 : x.f3.length ≤ c6) (g6 : k75.C w A6 x.f3.length x.f3)
    (h : rputF k l0 a b x = some (t, r)) :
    Calls Try.prog 20 #[.slice A0 l0.length c0, .agg #[.int .i64 a, .int .i64 b], .agg #[.int .i64 x.f0, .int .i64 x.f1.f0, .int .i64 x.f1.f1, .int .i64 x.f1.f2, .int .i64 x.f1.f3, .slice A5 x.f2.length c5, .slice A6 x.f3.length c6, .int .i64 x.f4]] w fun e w' => ∃ A c, e = .returned (.tuple #[.slice A t.length c, .int .i64 r]) ∧ t.length ≤ c ∧ Kd.C k30 w' A t.length t ∧ Below w.heap.size w w' := by
  obtain ⟨r1, h1, e1⟩ := Option.bind_eq_some_iff.1 h
  clear h
  cases r1 with
  | false => cases e1; exact rput_form k A0 c0 l0 a b x w hr0 hc0 l5 g5 l6 g6 h1
  | true =>
    rw [if_pos rfl] at e1
    obtain ⟨r2, h2, e2⟩ := Option.bind_eq_some_iff.1 e1
    clear e1
    cases r2 with
    | false => cases e2; exact rput_stale k A0 c0 l0 a b x w hr0 hc0 l5 g5 l6 g6 h1 h2
    | true =>
      rw [if_pos rfl] at e2
      by_cases c1 : x.f0 = b
      · by_cases c2 : x.f1.f0 = 0
        · rw [if_neg (fun hh => hh.2 c2)] at e2
          cases e2
          exact rput_kind k A0 c0 l0 a b x w hr0 hc0 l5 g5 l6 g6 h1 h2 (bne_eq_false_iff_eq.2 c1) (beq_iff_eq.2 c2)
        · rw [if_pos ⟨c1, c2⟩] at e2
          obtain ⟨t', h3, e3⟩ := Option.bind_eq_some_iff.1 e2
          obtain ⟨q, h4, e4⟩ := Option.bind_eq_some_iff.1 e3
          clear e2 e3
          cases q with
          | false => cases e4; exact rput_bad k A0 c0 l0 a b x _ w hr0 hc0 l5 g5 l6 g6 h1 h2 (bne_eq_false_iff_eq.2 c1) (beq_eq_false_iff_ne.2 c2) h3 h4
          | true => cases e4; exact rput_good k A0 c0 l0 a b x _ w hr0 hc0 l5 g5 l6 g6 h1 h2 (bne_eq_false_iff_eq.2 c1) (beq_eq_false_iff_ne.2 c2) h3 h4
      · rw [if_neg (fun hh => c1 hh.1)] at e2
        cases e2
        exact rput_gen k A0 c0 l0 a b x w hr0 hc0 l5 g5 l6 g6 h1 h2 (bne_iff_ne.2 c1)
end Go.Proofs.Ytgepphlkibnhdaa.PItab
