/- A slice of one inode, and of one inode alone what Find answers. -/
import Derived.Test.YtgepphlkibnhdaaInodes
import Derived.Test.YtgepphlkibnhdaaPItabx15
import Derived.Test.YtgepphlkibnhdaaPItabx21
namespace Go.Proofs.Ytgepphlkibnhdaa.PItab
open Go Go.RowKit Go.Proofs.YtgepphlkibnhdaaW.PrintWords Go.Proofs.YtgepphlkibnhdaaW.PrintLast Go.Proofs.YtgepphlkibnhdaaW.PrintMore
set_option linter.unusedVariables false

def cs30 (x : S30) (A5 : Option Addr) (c5 : Nat) (A6 : Option Addr) (c6 : Nat) : Array Value := #[.int .i64 x.f0, .int .i64 x.f1.f0, .int .i64 x.f1.f1, .int .i64 x.f1.f2, .int .i64 x.f1.f3, .slice A5 x.f2.length c5, .slice A6 x.f3.length c6, .int .i64 x.f4]
theorem one30 {w : World} {b t : Nat} {x : S30} {A5 A6 : Option Addr} {c5 c6 : Nat} (hb : w.heap[b]? = some (.cells (cs30 x A5 c5 A6 c6) t (0, 0))) (l5 : x.f2.length ≤ c5) (g5 : k73.C w A5 x.f2.length x.f2) (l6 : x.f3.length ≤ c6) (g6 : k75.C w A6 x.f3.length x.f3) :
    Kd.C k30 w (some ⟨b, 0, none⟩) 1 [x] := by
  refine ⟨rfl, by decide, fun _ => ⟨_, rfl, fun j p hj => ?_⟩⟩
  obtain rfl : j = 0 := by
    have := (List.getElem?_eq_some_iff.1 hj).1
    simpa using this
  obtain rfl : x = p := by simpa using hj
  refine ⟨_, rfl, k30_mk w x l5 g5 l6 g6, fun i u hu => ?_⟩
  have e : (⟨b, 0, none⟩ : Addr).add (0 * k30.sz + i) = ⟨b, i, none⟩ := by simp only [Nat.zero_mul, Nat.zero_add, Addr.add]; split <;> simp_all
  rw [e, blk_cell hb]
  exact (by simpa [cs30] using hu)
theorem one30a {w : World} {x : S30} {A5 A6 : Option Addr} {c5 c6 : Nat} (l5 : x.f2.length ≤ c5) (g5 : k73.C w A5 x.f2.length x.f2) (l6 : x.f3.length ≤ c6) (g6 : k75.C w A6 x.f3.length x.f3) :
    Kd.C k30 (w.alloc (.cells (cs30 x A5 c5 A6 c6) 30)) (some ⟨w.heap.size, 0, none⟩) 1 [x] :=
  one30 (b := w.heap.size) (t := 30) Array.getElem?_push_size l5 (Kd.C_below g5 (below_alloc (Below.refl _ _) _)) l6 (Kd.C_below g6 (below_alloc (Below.refl _ _) _))
theorem box8 {w : World} {b t : Nat} {x : S30} {A5 A6 : Option Addr} {c5 c6 : Nat} (h : w.heap[b]? = some (.cells (cs30 x A5 c5 A6 c6) t (0, 0))) :
    w.cell? ⟨b, 0, none⟩ = some (.int .i64 x.f0) ∧ w.cell? ⟨b, 1, none⟩ = some (.int .i64 x.f1.f0) ∧ w.cell? ⟨b, 2, none⟩ = some (.int .i64 x.f1.f1) ∧ w.cell? ⟨b, 3, none⟩ = some (.int .i64 x.f1.f2) ∧ w.cell? ⟨b, 4, none⟩ = some (.int .i64 x.f1.f3) ∧ w.cell? ⟨b, 5, none⟩ = some (.slice A5 x.f2.length c5) ∧ w.cell? ⟨b, 6, none⟩ = some (.slice A6 x.f3.length c6) ∧ w.cell? ⟨b, 7, none⟩ = some (.int .i64 x.f4) :=
  ⟨(blk_cell h 0).trans rfl, (blk_cell h 1).trans rfl, (blk_cell h 2).trans rfl, (blk_cell h 3).trans rfl, (blk_cell h 4).trans rfl, (blk_cell h 5).trans rfl, (blk_cell h 6).trans rfl, (blk_cell h 7).trans rfl⟩
theorem box2 {w : World} {b t : Nat} {u v : Value} (h : w.heap[b]? = some (.cells #[u, v] t (0, 0))) : w.cell? ⟨b, 0, none⟩ = some u ∧ w.cell? ⟨b, 1, none⟩ = some v := ⟨(blk_cell h 0).trans rfl, (blk_cell h 1).trans rfl⟩
theorem blk_more {w : World} {b : Nat} {o o' : Obj} (h : w.heap[b]? = some o) : (w.alloc o').heap[b]? = some o := by
  have hl : b < w.heap.size := (Array.getElem?_eq_some_iff.1 h).1
  rw [Below.heap_alloc _ _ _ (by omega)]; exact h
/-- Two slices of one inode each, the same, laid behind a block. -/
theorem same2 {w : World} {x : S30} {A5 A6 B5 B6 : Option Addr} {c5 c6 d5 d6 : Nat} (o : Obj) (l5 : x.f2.length ≤ c5) (g5 : k73.C w A5 x.f2.length x.f2) (l6 : x.f3.length ≤ c6) (g6 : k75.C w A6 x.f3.length x.f3)
    (m5 : x.f2.length ≤ d5) (j5 : k73.C w B5 x.f2.length x.f2) (m6 : x.f3.length ≤ d6) (j6 : k75.C w B6 x.f3.length x.f3) (hs : x.f2.length ≤ 5900000000000 ∧ x.f3.length ≤ 5900000000000) :
    Calls Try.prog 12 #[.slice (some ⟨w.heap.size + 1, 0, none⟩) 1 1, .slice (some ⟨w.heap.size + 1 + 1, 0, none⟩) 1 1] (((w.alloc o).alloc (.cells (cs30 x A5 c5 A6 c6) 30)).alloc (.cells (cs30 x B5 d5 B6 d6) 30)) fun e w' => e = .returned (.bool true) ∧ Below w.heap.size w w' := by
  have e1 : (w.alloc o).heap.size = w.heap.size + 1 := by simp
  have e2 : ((w.alloc o).alloc (.cells (cs30 x A5 c5 A6 c6) 30)).heap.size = w.heap.size + 1 + 1 := by simp
  have b1 : Below w.heap.size w (w.alloc o) := below_alloc (Below.refl _ _) _
  have b2 : Below w.heap.size w ((w.alloc o).alloc (.cells (cs30 x A5 c5 A6 c6) 30)) := below_alloc b1 _
  have h1 := one30a l5 (Kd.C_below g5 b1) l6 (Kd.C_below g6 b1)
  have h2 := one30a m5 (Kd.C_below j5 b2) m6 (Kd.C_below j6 b2)
  rw [e1] at h1
  rw [e2] at h2
  refine (same_calls _ 1 _ 1 [x] _ (Kd.C_below h1 (below_alloc (Below.refl _ _) _)) h2 (by simp) (by simpa using hs)).mono ?_
  rintro e w' ⟨rfl, hb⟩
  exact ⟨rfl, below_step (below_alloc b2 _) hb⟩
theorem find1 (k : Nat) (A0 : Option Addr) (c0 : Nat) (l0 : List S30) (a b : Int) (x : S30) (r : Int) (w : World) (hr0 : Kd.C k30 w A0 l0.length l0) (hc0 : l0.length ≤ c0) (h : itab_Find.f k l0 a b = some (x.f0, x.f1.f0, x.f1.f1, x.f1.f2, x.f1.f3, x.f2, x.f3, x.f4, r)) :
    Calls Try.prog 10 #[.slice A0 l0.length c0, .agg #[.int .i64 a, .int .i64 b]] w fun e w' => ∃ A5 c5 A6 c6, e = .returned (.tuple #[.agg (cs30 x A5 c5 A6 c6), .int .i64 r]) ∧ x.f2.length ≤ c5 ∧ k73.C w' A5 x.f2.length x.f2 ∧ x.f3.length ≤ c6 ∧ k75.C w' A6 x.f3.length x.f3 ∧ Below w.heap.size w w' := by
  refine (itab_Find.calls k A0 c0 l0 a b _ _ _ _ _ _ _ _ _ w hr0 hc0 h).mono ?_
  rintro e w' ⟨v5, v6, rfl, h5, h6, hb⟩
  obtain ⟨A5, c5, rfl, l5, g5⟩ := Kd.R_reads h5
  obtain ⟨A6, c6, rfl, l6, g6⟩ := Kd.R_reads h6
  exact ⟨A5, c5, A6, c6, rfl, l5, g5, l6, g6, hb⟩
theorem V_read {α : Type} {d : Kd α} {e base : Nat} {W : World} {ok : Nat → Prop} {v : Value} {xs : List α} (h : Kd.V d e W base ok v xs) : ∃ A c, v = .slice A xs.length c ∧ xs.length ≤ c ∧ d.C W A xs.length xs := by
  obtain ⟨A, c, rfl, hl, hf⟩ := h
  exact ⟨A, c, rfl, hl, Kd.F_now hf⟩
theorem rfind1 (k : Nat) (A0 : Option Addr) (c0 : Nat) (l0 : List S30) (a b : Int) (x : S30) (r : Int) (w : World) (hr0 : Kd.C k30 w A0 l0.length l0) (hc0 : l0.length ≤ c0) (h : sextonref09_Find.f k l0 a b = some (x.f0, x.f1.f0, x.f1.f1, x.f1.f2, x.f1.f3, x.f2, x.f3, x.f4, r)) :
    Calls Try.prog 11 #[.slice A0 l0.length c0, .agg #[.int .i64 a, .int .i64 b]] w fun e w' => ∃ A5 c5 A6 c6, e = .returned (.tuple #[.agg (cs30 x A5 c5 A6 c6), .int .i64 r]) ∧ x.f2.length ≤ c5 ∧ k73.C w' A5 x.f2.length x.f2 ∧ x.f3.length ≤ c6 ∧ k75.C w' A6 x.f3.length x.f3 ∧ Below w.heap.size w w' := by
  refine (sextonref09_Find.calls k (fun k_ => k_ < w.heap.size) A0 c0 l0 a b _ _ _ _ _ _ _ _ _ w (Kd.V_mk hc0 (Kd.C_F k30_heap hr0)) h).mono ?_
  rintro e w' ⟨v5, v6, rfl, h5, h6, hb⟩
  obtain ⟨A5, c5, rfl, l5, g5⟩ := V_read h5
  obtain ⟨A6, c6, rfl, l6, g6⟩ := V_read h6
  exact ⟨A5, c5, A6, c6, rfl, l5, g5, l6, g6, hb⟩
end Go.Proofs.Ytgepphlkibnhdaa.PItab
