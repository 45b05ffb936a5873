/- ItabFinds, by hand. -/
import Derived.Test.YtgepphlkibnhdaaOne30
import Derived.Test.YtgepphlkibnhdaaPItabx25
namespace Go.Proofs.Ytgepphlkibnhdaa.PItab
open Go Go.RowKit Go.Proofs.YtgepphlkibnhdaaW.PrintWords Go.Proofs.YtgepphlkibnhdaaW.PrintLast Go.Proofs.YtgepphlkibnhdaaW.PrintMore
set_option linter.unusedVariables false

set_option maxHeartbeats 8000000 in
set_option maxRecDepth 100000 in
theorem finds_calls (k : Nat) (A0 : Option Addr) (c0 : Nat) (l0 : List S30) (a b : Int) (x : S30) (r : Int) (w : World) (hr0 : Kd.C k30 w A0 l0.length l0) (hc0 : l0.length ≤ c0)
    (h1 : itab_Find.f k l0 a b = some (x.f0, x.f1.f0, x.f1.f1, x.f1.f2, x.f1.f3, x.f2, x.f3, x.f4, r)) (h2 : sextonref09_Find.f k l0 a b = some (x.f0, x.f1.f0, x.f1.f1, x.f1.f2, x.f1.f3, x.f2, x.f3, x.f4, r))
    (hs : x.f2.length ≤ 5900000000000 ∧ x.f3.length ≤ 5900000000000) (h3 : sextonlaw09_again.f k = some true) :
    Calls Try.prog 3 #[.slice A0 l0.length c0, .agg #[.int .i64 a, .int .i64 b]] w fun e w' => e = .returned (.bool true) ∧ Below w.heap.size w w' := by
  have hu24 := Try.underlying24
  have hu30 := Try.underlying30
  have HI := Aside0.mk (And.intro h1 (And.intro h2 (And.intro h3 (And.intro hs (And.intro hr0 hc0)))))
  clear h1 h2 h3 hs hr0 hc0
  obtain ⟨w0, hw0⟩ : ∃ w0, w0 = w.alloc (.cells #[.int .i64 a, .int .i64 b] 24) := ⟨_, rfl⟩
  go_enter Try.func3, Try.ntmps3
  go_wp2_with (first
    | (go_at_call 10; refine (find1 k _ _ l0 a b x r _ (Kd.C_below HI.out.2.2.2.2.1 (below_alloc (Below.refl _ _) _)) HI.out.2.2.2.2.2 HI.out.1).mono ?_; rintro e w1 ⟨A5, c5, A6, c6, rfl, l5, g5, l6, g6, hb⟩
       have bx : w1.heap[w.heap.size]? = some (.cells #[.int .i64 a, .int .i64 b] 24 (0, 0)) := (hb.block _ (by simp)).trans Array.getElem?_push_size
       obtain ⟨q0, q1⟩ := box2 (blk_more (o' := .cells (cs30 x A5 c5 A6 c6) 30) bx)
       have H1 := Aside0.mk (And.intro l5 (And.intro g5 (And.intro l6 (And.intro g6 (And.intro (below_step (below_alloc (Below.refl _ _) _) hb) bx)))))
       simp only [cs30] at q0 q1 ⊢
       clear l5 g5 l6 g6 hb bx)
    | (go_at_call 11; refine (rfind1 k _ _ l0 a b x r _ (Kd.C_below HI.out.2.2.2.2.1 (below_alloc H1.out.2.2.2.2.1 _)) HI.out.2.2.2.2.2 HI.out.2.1).mono ?_; rintro e w2 ⟨B5, d5, B6, d6, rfl, m5, j5, m6, j6, hb⟩
       have by1 : w2.heap[w1.heap.size]? = some (.cells (cs30 x A5 c5 A6 c6) 30 (0, 0)) := (hb.block _ (by simp)).trans Array.getElem?_push_size
       have by2 : (w2.alloc (.cells (cs30 x B5 d5 B6 d6) 30)).heap[w1.heap.size]? = some (.cells (cs30 x A5 c5 A6 c6) 30 (0, 0)) := blk_more by1
       have by3 : ((w2.alloc (.cells (cs30 x B5 d5 B6 d6) 30)).alloc (.cells (cs30 x A5 c5 A6 c6) 30)).heap[w2.heap.size]? = some (.cells (cs30 x B5 d5 B6 d6) 30 (0, 0)) := blk_more Array.getElem?_push_size
       obtain ⟨y0, y1, y2, y3, y4, y5, y6, y7⟩ := box8 by2
       obtain ⟨z0, z1, z2, z3, z4, z5, z6, z7⟩ := box8 by3
       have hbb : Below w1.heap.size w1 w2 := below_step (below_alloc (Below.refl _ _) _) hb
       have H2 := Aside0.mk (And.intro m5 (And.intro j5 (And.intro m6 (And.intro j6 hbb))))
       simp only [cs30] at y0 y1 y2 y3 y4 y5 y6 y7 z0 z1 z2 z3 z4 z5 z6 z7 ⊢
       clear m5 j5 m6 j6 hb hbb by1 by2 by3 q0 q1)
    | (go_at_call 12; refine (same2 (.cells (cs30 x B5 d5 B6 d6) 30) H1.out.1 (Kd.C_below H1.out.2.1 H2.out.2.2.2.2) H1.out.2.2.1 (Kd.C_below H1.out.2.2.2.1 H2.out.2.2.2.2) H2.out.1 H2.out.2.1 H2.out.2.2.1 H2.out.2.2.2.1 HI.out.2.2.2.1).mono ?_; rintro e w3 ⟨rfl, hb⟩; have H3 := Aside0.mk (below_step H1.out.2.2.2.2.1 (below_step H2.out.2.2.2.2 hb)); clear hb)
    | (go_at_call 13; refine (sextonlaw09_again.calls k _ HI.out.2.2.1).mono ?_; rintro e w4 ⟨rfl, hb⟩; have H4 := Aside0.mk (below_step H3.out hb); clear hb))
  go_ret
  exact ⟨rfl, H4.out⟩
def sextonlaw09_ItabFinds.f (k : Nat) (l0 : List S30) (a b : Int) : Option Bool := (itab_Find.f k l0 a b).bind fun p => (sextonref09_Find.f k l0 a b).bind fun q =>
  if (eq30 ⟨p.1, ⟨p.2.1, p.2.2.1, p.2.2.2.1, p.2.2.2.2.1⟩, p.2.2.2.2.2.1, p.2.2.2.2.2.2.1, p.2.2.2.2.2.2.2.1⟩ ⟨q.1, ⟨q.2.1, q.2.2.1, q.2.2.2.1, q.2.2.2.2.1⟩, q.2.2.2.2.2.1, q.2.2.2.2.2.2.1, q.2.2.2.2.2.2.2.1⟩ && (p.2.2.2.2.2.2.2.2 == q.2.2.2.2.2.2.2.2) && decide (p.2.2.2.2.2.1.length ≤ 5900000000000) && decide (p.2.2.2.2.2.2.1.length ≤ 5900000000000)) = true then sextonlaw09_again.f k else none
theorem sextonlaw09_ItabFinds.calls (k : Nat) (A0 : Option Addr) (c0 : Nat) (l0 : List S30) (a b : Int) (w : World) (hr0 : Kd.C k30 w A0 l0.length l0) (hc0 : l0.length ≤ c0) (h : sextonlaw09_ItabFinds.f k l0 a b = some true) :
    Calls Try.prog 3 #[.slice A0 l0.length c0, .agg #[.int .i64 a, .int .i64 b]] w fun e w' => e = .returned (.bool true) ∧ Below w.heap.size w w' := by
  obtain ⟨⟨p0, p1, p2, p3, p4, p5, p6, p7, p8⟩, hp, h⟩ := Option.bind_eq_some_iff.1 h
  obtain ⟨⟨q0, q1, q2, q3, q4, q5, q6, q7, q8⟩, hq, h⟩ := Option.bind_eq_some_iff.1 h
  dsimp only at h
  split at h
  · rename_i hc
    simp only [Bool.and_eq_true, beq_iff_eq, decide_eq_true_eq] at hc
    obtain ⟨⟨⟨he, rfl⟩, h5⟩, h6⟩ := hc
    have he := eq30_eq _ _ he
    simp only [S30.mk.injEq, S26.mk.injEq] at he
    obtain ⟨rfl, ⟨rfl, rfl, rfl, rfl⟩, rfl, rfl, rfl⟩ := he
    exact finds_calls k A0 c0 l0 a b ⟨p0, ⟨p1, p2, p3, p4⟩, p5, p6, p7⟩ p8 w hr0 hc0 hp hq ⟨h5, h6⟩ h
  · cases h
end Go.Proofs.Ytgepphlkibnhdaa.PItab
