/- A slice of one inode, and of one inode alone what Find answers. -/
import Derived.Test.YtgepphlkibnhdaaInodes
namespace Go.Proofs.Ytgepphlkibnhdaa.PItab
open Go Go.RowKit Go.Proofs.YtgepphlkibnhdaaW.PrintWords Go.Proofs.YtgepphlkibnhdaaW.PrintLast Go.Proofs.YtgepphlkibnhdaaW.PrintMore
set_option linter.unusedVariables false

def cs30 (x : S30) (A5 : Option Addr) (c5 : Nat) (A6 : Option Addr) (c6 : Nat) : Array Value := #[.int .i64 x.f0, .int .i64 x.f1.f0, .int .i64 x.f1.f1, .int .i64 x.f1.f2, .int .i64 x.f1.f3, .slice A5 x.f2.length c5, .slice A6 x.f3.length c6, .int .i64 x.f4]
theorem one30 {w : World} {b t : Nat} {x : S30} {A5 A6 : Option Addr} {c5 c6 : Nat} (hb : w.heap[b]? = some (.cells (cs30 x A5 c5 A6 c6) t (0, 0))) (l5 : x.f2.length ≤ c5) (g5 : k73.C w A5 x.f2.length x.f2) (l6 : x.f3.length ≤ c6) (g6 : k75.C w A6 x.f3.length x.f3) :
    Kd.C k30 w (some ⟨b, 0, none⟩) 1 [x] := by
  refine ⟨rfl, by decide, fun _ => ⟨_, rfl, fun j p hj => ?_⟩⟩
  obtain rfl : j = 0 := by
    have := (List.getElem?_eq_some_iff.1 hj).1
    simpa using this
  obtain rfl : x = p := by simpa using hj
  refine ⟨_, rfl, k30_mk w x l5 g5 l6 g6, fun i u hu => ?_⟩
  have e : (⟨b, 0, none⟩ : Addr).add (0 * k30.sz + i) = ⟨b, i, none⟩ := by simp only [Nat.zero_mul, Nat.zero_add, Addr.add]; split <;> simp_all
  rw [e, blk_cell hb]
  exact (by simpa [cs30] using hu)
theorem one30a {w : World} {x : S30} {A5 A6 : Option Addr} {c5 c6 : Nat} (l5 : x.f2.length ≤ c5) (g5 : k73.C w A5 x.f2.length x.f2) (l6 : x.f3.length ≤ c6) (g6 : k75.C w A6 x.f3.length x.f3) :
    Kd.C k30 (w.alloc (.cells (cs30 x A5 c5 A6 c6) 30)) (some ⟨w.heap.size, 0, none⟩) 1 [x] :=
  one30 (b := w.heap.size) (t := 30) Array.getElem?_push_size l5 (Kd.C_below g5 (below_alloc (Below.refl _ _) _)) l6 (Kd.C_below g6 (below_alloc (Below.refl _ _) _))
theorem box8 {w : World} {b t : Nat} {x : S30} {A5 A6 : Option Addr} {c5 c6 : Nat} (h : w.heap[b]? = some (.cells (cs30 x A5 c5 A6 c6) t (0, 0))) :
    w.cell? ⟨b, 0, none⟩ = some (.int .i64 x.f0) ∧ w.cell? ⟨b, 1, none⟩ = some (.int .i64 x.f1.f0) ∧ w.cell? ⟨b, 2, none⟩ = some (.int .i64 x.f1.f1) ∧ w.cell? ⟨b, 3, none⟩ = some (.int .i64 x.f1.f2) ∧ w.cell? ⟨b, 4, none⟩ = some (.int .i64 x.f1.f3) ∧ w.cell? ⟨b, 5, none⟩ = some (.slice A5 x.f2.length c5) ∧ w.cell? ⟨b, 6, none⟩ = some (.slice A6 x.f3.length c6) ∧ w.cell? ⟨b, 7, none⟩ = some (.int .i64 x.f4) :=
  ⟨(blk_cell h 0).trans rfl, (blk_cell h 1).trans rfl, (blk_cell h 2).trans rfl, (blk_cell h 3).trans rfl, (blk_cell h 4).trans rfl, (blk_cell h 5).trans rfl, (blk_cell h 6).trans rfl, (blk_cell h 7).trans rfl⟩
theorem box2 {w : World} {b t : Nat} {u v : Value} (h : w.heap[b]? = some (.cells #[u, v] t (0, 0))) : w.cell? ⟨b, 0, none⟩ = some u ∧ w.cell? ⟨b, 1, none⟩ = some v := ⟨(blk_cell h 0).trans rfl, (blk_cell h 1).trans rfl⟩
theorem blk_more {w : World} {b : Nat} {o o' : Obj} (h : w.heap[b]? = some o) : (w.alloc o').heap[b]? = some o := by
  have hl : b < w.heap.size := (Array.getElem?_eq_some_iff.1 h).1
  rw [Below.heap_alloc _ _ _ (by omega)]; exact h
/-- Two slices of one inode each, the same, laid behind a block. -/
theorem same2 {w : World} {x : S30} {A5 A6 B5 B6 : Option Addr} {c5 c6 d5 d6 : Nat} (o : Obj) (l5 : x.f2.length ≤ c5) (g5 : k73.C w A5 x.f2.length x.f2) (l6 : x.f3.length ≤ c6) (g6 : k75.C w A6 x.f3.length x.f3)
    (m5 : x.f2.length ≤ d5) (j5 : k73.C w B5 x.f2.length x.f2) (m6 : x.f3.length ≤ d6) (j6 : k75.C w B6 x.f3.length x.f3) (hs : x.f2.length ≤ 5900000000000 ∧ x.f3.length ≤ 5900000000000) :
    Calls Try.prog 12 #[.slice (some ⟨w.heap.size + 1, 0, none⟩) 1 1, .slice (some ⟨w.heap.size + 1 + 1, 0, none⟩) 1 1] (((w.alloc o).alloc (.cells (cs30 x A5 c5 A6 c6) 30)).alloc (.cells (cs30 x B5 d5 B6 d6) 30)) fun e w' => e = .returned (.bool true) ∧ Below w.heap.size w w' := by
  have e1 : (w.alloc o).heap.size = w.heap.size + 1 := by simp
  have e2 : ((w.alloc o).alloc (.cells (cs30 x A5 c5 A6 c6) 30)).heap.size = w.heap.size + 1 + 1 := by simp
  have b1 : Below w.heap.size w (w.alloc o) := below_alloc (Below.refl _ _) _
  have b2 : Below w.heap.size w ((w.alloc o).alloc (.cells (cs30 x A5 c5 A6 c6) 30)) := below_alloc b1 _
  have h1 := one30a l5 (Kd.C_below g5 b1) l6 (Kd.C_below g6 b1)
  have h2 := one30a m5 (Kd.C_below j5 b2) m6 (Kd.C_below j6 b2)
  rw [e1] at h1
  rw [e2] at h2
  refine (same_calls _ 1 _ 1 [x] _ (Kd.C_below h1 (below_alloc (Below.refl _ _) _)) h2 (by simp) (by simpa using hs)).mono ?_
  rintro e w' ⟨rfl, hb⟩
  exact ⟨rfl, below_step (below_alloc b2 _) hb⟩
/-- The two blocks of a handle and an inode that were laid first, in a later world. -/
structure Bx (w W : World) (a b : Int) (x : S30) (A5 : Option Addr) (c5 : Nat) (A6 : Option Addr) (c6 : Nat) : Prop where
  bel : Below w.heap.size w W
  h0 : W.heap[w.heap.size]? = some (.cells #[.int .i64 a, .int .i64 b] 24 (0, 0))
  h1 : W.heap[w.heap.size + 1]? = some (.cells (cs30 x A5 c5 A6 c6) 30 (0, 0))
section
variable {w W W' : World} {a b : Int} {x : S30} {A5 A6 : Option Addr} {c5 c6 : Nat}
theorem Bx.start (w : World) (a b : Int) (x : S30) (A5 : Option Addr) (c5 : Nat) (A6 : Option Addr) (c6 : Nat) : Bx w ((w.alloc (.cells #[.int .i64 a, .int .i64 b] 24)).alloc (.cells (cs30 x A5 c5 A6 c6) 30)) a b x A5 c5 A6 c6 := by
  have e1 : (w.alloc (.cells #[.int .i64 a, .int .i64 b] 24)).heap.size = w.heap.size + 1 := by simp
  exact ⟨below_alloc (below_alloc (Below.refl _ _) _) _, blk_more Array.getElem?_push_size, by rw [← e1]; exact Array.getElem?_push_size⟩
theorem Bx.step (H : Bx w W a b x A5 c5 A6 c6) (hb : Below W.heap.size W W') : Bx w W' a b x A5 c5 A6 c6 :=
  ⟨below_step H.bel hb, (hb.block _ (Array.getElem?_eq_some_iff.1 H.h0).1).trans H.h0, (hb.block _ (Array.getElem?_eq_some_iff.1 H.h1).1).trans H.h1⟩
theorem Bx.cells0 (H : Bx w W a b x A5 c5 A6 c6) : W.cell? ⟨w.heap.size, 0, none⟩ = some (.int .i64 a) ∧ W.cell? ⟨w.heap.size, 1, none⟩ = some (.int .i64 b) := box2 H.h0
theorem Bx.cells1 (H : Bx w W a b x A5 c5 A6 c6) : W.cell? ⟨w.heap.size + 1, 0, none⟩ = some (.int .i64 x.f0) ∧ W.cell? ⟨w.heap.size + 1, 1, none⟩ = some (.int .i64 x.f1.f0) ∧ W.cell? ⟨w.heap.size + 1, 2, none⟩ = some (.int .i64 x.f1.f1) ∧ W.cell? ⟨w.heap.size + 1, 3, none⟩ = some (.int .i64 x.f1.f2) ∧ W.cell? ⟨w.heap.size + 1, 4, none⟩ = some (.int .i64 x.f1.f3) ∧ W.cell? ⟨w.heap.size + 1, 5, none⟩ = some (.slice A5 x.f2.length c5) ∧ W.cell? ⟨w.heap.size + 1, 6, none⟩ = some (.slice A6 x.f3.length c6) ∧ W.cell? ⟨w.heap.size + 1, 7, none⟩ = some (.int .i64 x.f4) := box8 H.h1
end
end Go.Proofs.Ytgepphlkibnhdaa.PItab
