/- Laws of no program: copy and clear of elements of several cells, and rows of such elements, flat. -/
import Derived.Test.YtgepphlkibnhdaaWMore
import Derived.Laws.IdiomCopy
import Derived.Lib.SliceRun
import Derived.Lib.AppendZerosOnto
import Derived.Lib.SmallJoins
import Derived.Deep.Upon
namespace Go.Proofs.Ytgepphlkibnhdaa.Sl
open Go Go.RowKit Go.Proofs.YtgepphlkibnhdaaW.PrintWords
set_option linter.unusedVariables false
set_option linter.unusedSimpArgs false
variable {P : Program}

theorem run_copy_cellsK (w : World) (dT sT ty elem : TypeId) (k b o dLen dCap : Nat) (a : Addr) (sLen sCap : Nat) (cs : List Value)
    (hu : P.underlying dT = some (.slice elem)) (hs : (P.info? elem).map (·.size) = some k) (hn : cs.length = Nat.min sLen dLen * k)
    (hsrc : ∀ j v, cs[j]? = some v → w.cell? (a.add j) = some v) (hc : ∀ j, j < cs.length → (w.cell? ⟨b, o + j, none⟩).isSome = true) (hf : ∀ j, j < cs.length → w.frozen? ⟨b, o + j, none⟩ = false) (h1 : ∀ v ∈ cs, v.oneCell' = true) :
    (Builtin.copy_ #[dT, sT] ty #[.slice (some ⟨b, o, none⟩) dLen dCap, .slice (some a) sLen sCap]).run P w = .ok (goInt (Nat.min sLen dLen : Nat)) (w.setCells b o cs) := by
  have hl := run_loadCells_list (P := P) w a cs hsrc
  have hst := run_storeCells_cells (P := P) b o cs 0 w (by simpa using hc) (by simpa using hf) h1
  cases hq : P.info? elem with
  | none => simp [hq] at hs
  | some i =>
    have hi : i.size = k := by simpa [hq] using hs
    simp [Builtin.copy_, run_underlying hu, Builtin.lenOf, Builtin.firstCells, sizeOf, typeInfo, hq, hi, ← hn, hl, hst]

theorem run_clear_sliceK (w : World) (t e ty : TypeId) (z : Value) (k : Nat) (ht : P.underlying t = some (.slice e)) (hv : ∀ w, (zeroValue e).run P w = .ok z w) (hz : z.cells.size = k) (hk : 0 < k) (h1 : ∀ v ∈ z.cells.toList, v.oneCell' = true) (b o n c : Nat) (hn : 0 < n)
    (hc : ∀ j, j < n * k → (w.cell? ⟨b, o + j, none⟩).isSome = true) (hf : ∀ j, j < n * k → w.frozen? ⟨b, o + j, none⟩ = false) :
    ∃ news : List Value, news.length = n * k ∧ (Builtin.clear_ #[t] ty #[.slice (some ⟨b, o, none⟩) n c]).run P w = .ok (.tuple #[]) (w.setCells b o news) := by
  have hl : (Builtin.zeroCells z.cells n).toList.length = n * k := by simp [Builtin.zeroCells, hz]
  have hone : ∀ v ∈ (Builtin.zeroCells z.cells n).toList, v.oneCell' = true := by
    intro v hv'
    simp only [Builtin.zeroCells, Array.toList_map, List.mem_map] at hv'
    obtain ⟨i, _, rfl⟩ := hv'
    have hlt : i % z.cells.size < z.cells.size := Nat.mod_lt _ (by omega)
    rw [getElem!_pos z.cells _ hlt]
    exact h1 _ (by simp)
  refine ⟨_, hl, ?_⟩
  have hst := run_storeCells_cells (P := P) b o (Builtin.zeroCells z.cells n).toList 0 w (by rw [hl]; simpa using hc) (by rw [hl]; simpa using hf) hone
  simp only [Nat.add_zero] at hst
  obtain ⟨m, rfl⟩ : ∃ m, n = m + 1 := ⟨n - 1, by omega⟩
  simp [Builtin.clear_, run_underlying ht, hv, hst]

theorem setCells_blk (g : Nat) : ∀ (vs : List Value) (o : Nat) (w : World) (cur : Array Value) (e : TypeId), w.heap[g]? = some (.cells cur e (0, 0)) → ∃ cur', (w.setCells g o vs).heap[g]? = some (.cells cur' e (0, 0)) ∧ cur'.size = cur.size
  | [], _, _, cur, _, h => ⟨cur, h, rfl⟩
  | v :: r, o, w, cur, e, h => by
    obtain ⟨cur', h1, h2⟩ := setCells_blk g r (o + 1) (w.setCell ⟨g, o, none⟩ v) _ e (Go.Joins.block_setCell (i := o) h v)
    exact ⟨cur', h1, by simpa using h2⟩
theorem sl_below {B g : Nat} : ∀ (vs : List Value) (o : Nat) {a w : World}, Below B a w → B ≤ g → Below B a (w.setCells g o vs)
  | [], _, _, _, h, _ => h
  | v :: r, o, a, w, h, hg => sl_below r (o + 1) (h.setCell (p := ⟨g, o, none⟩) hg v) hg
theorem sl_grown {g : Nat} {row : Option Nat} : ∀ (vs : List Value) (o : Nat) {a w : World}, a.grownBy w row → (row = some g ∨ a.heap.size ≤ g) → a.grownBy (w.setCells g o vs) row
  | [], _, _, _, h, _ => h
  | v :: r, o, a, w, h, hg => by
    have hb := (Below.refl 0 w).setCell (p := ⟨g, o, none⟩) (Nat.zero_le _) v
    refine sl_grown r (o + 1) ⟨hb.os.trans h.os, hb.tape.trans h.tape, hb.output.trans h.output, Nat.le_trans h.size hb.size, fun k hk hne => (Below.heap_setCell w ⟨g, o, none⟩ v k ?_).trans (h.block k hk hne)⟩ hg
    intro e
    have e : k = g := e
    subst e
    rcases hg with hg | hg
    · exact hne hg.symm
    · omega
theorem isSome_setCells' (b : Nat) (vs : List Value) (o : Nat) (w : World) (h : ∀ j, j < vs.length → (w.cell? ⟨b, o + j, none⟩).isSome = true) (k : Nat) (hk : (w.cell? ⟨b, k, none⟩).isSome = true) : ((w.setCells b o vs).cell? ⟨b, k, none⟩).isSome = true := by
  by_cases hin : o ≤ k ∧ k < o + vs.length
  · have := World.cell?_setCells_in b vs o w h (k - o) (by omega)
    rw [show o + (k - o) = k by omega] at this
    rw [this]; rfl
  · rw [World.cell?_setCells_out b vs o w ⟨b, k, none⟩ (fun _ _ => by show k < o ∨ o + vs.length ≤ k; omega)]
    exact hk
theorem cell_blk {w : World} {g : Nat} {cur : Array Value} {e : TypeId} (h : w.heap[g]? = some (.cells cur e (0, 0))) (j : Nat) : w.cell? ⟨g, j, none⟩ = cur[j]? := by simp [World.cell?, h]
theorem frozen_blk {w : World} {g : Nat} {cur : Array Value} {e : TypeId} (h : w.heap[g]? = some (.cells cur e (0, 0))) (j : Nat) : w.frozen? ⟨g, j, none⟩ = false := by simp [World.frozen?, h]
theorem own_cells {W : World} {base g cap n k : Nat} {e : TypeId} {cur : Array Value} {xs : List Value} (hb : base ≤ g) (hh : W.heap[g]? = some (.cells cur e (0, 0))) (hn : n ≤ cap) (hm : cap ≤ maxLen) (hs : cur.size = cap * k) (hl : xs.length = n * k)
    (hc : ∀ j u, xs[j]? = some u → W.cell? ⟨g, j, none⟩ = some u) : W.ownsRow base e k (.slice (some ⟨g, 0, none⟩) n cap) n xs := by
  refine ⟨hl, .inr ⟨g, cap, cur, rfl, hb, hh, hn, hm, hs, ?_⟩⟩
  have hnk : n * k ≤ cap * k := Nat.mul_le_mul_right _ hn
  refine List.ext_getElem? fun j => ?_
  rcases Nat.lt_or_ge j (n * k) with hj | hj
  · have hx : xs[j]? = some xs[j] := List.getElem?_eq_getElem (by omega)
    have := hc j _ hx
    rw [cell_blk hh] at this
    rw [List.getElem?_take, if_pos hj, hx, Array.getElem?_toList, this]
  · rw [List.getElem?_take, if_neg (by omega), List.getElem?_eq_none (by omega)]

/-! ### flat -/
section
variable {α : Type} {R : α → List Value → Prop} {k : Nat} {enc : α → List Value}
theorem flat_len (hk : ∀ x, (enc x).length = k) : ∀ xs : List α, (xs.flatMap enc).length = xs.length * k
  | [] => by simp
  | x :: xs => by rw [List.flatMap_cons, List.length_append, hk, flat_len hk xs, List.length_cons, Nat.add_mul, Nat.one_mul, Nat.add_comm]
theorem flat_drop (hk : ∀ x, (enc x).length = k) : ∀ (xs : List α) (j : Nat), (xs.flatMap enc).drop (j * k) = (xs.drop j).flatMap enc
  | xs, 0 => by simp
  | [], j + 1 => by simp
  | x :: xs, j + 1 => by
    rw [List.flatMap_cons, List.drop_append, hk, List.drop_eq_nil_of_le (by rw [hk, Nat.add_mul]; omega), List.nil_append, show (j + 1) * k - k = j * k by rw [Nat.add_mul]; omega, flat_drop hk xs j, List.drop_succ_cons]
theorem flat_take (hk : ∀ x, (enc x).length = k) : ∀ (xs : List α) (j : Nat), (xs.flatMap enc).take (j * k) = (xs.take j).flatMap enc
  | xs, 0 => by simp
  | [], j + 1 => by simp
  | x :: xs, j + 1 => by
    rw [List.flatMap_cons, List.take_append, hk, List.take_of_length_le (by rw [hk, Nat.add_mul]; omega), show (j + 1) * k - k = j * k by rw [Nat.add_mul]; omega, flat_take hk xs j, List.take_succ_cons, List.flatMap_cons]
theorem reps_flat (hR : ∀ x c, R x c → c = enc x) (hk : ∀ x, (enc x).length = k) : ∀ (xs : List α) (inner : List Value), Reps R k xs inner → inner = xs.flatMap enc
  | [], inner, h => by
    have := h.1
    simp at this
    subst this; rfl
  | x :: xs, inner, h => by
    have h0 := hR _ _ (h.2 0 x rfl)
    rw [Nat.zero_mul, List.drop_zero] at h0
    have ih := reps_flat hR hk xs (inner.drop k) ⟨by rw [List.length_drop, h.1, List.length_cons, Nat.add_mul]; omega, fun j p hp => by
      have := h.2 (j + 1) p (by simpa using hp)
      rwa [Nat.add_mul, Nat.one_mul, Nat.add_comm, ← List.drop_drop] at this⟩
    rw [List.flatMap_cons, ← ih, ← h0, List.take_append_drop]
theorem flat_reps (hR : ∀ x, R x (enc x)) (hk : ∀ x, (enc x).length = k) (xs : List α) : Reps R k xs (xs.flatMap enc) := by
  refine ⟨flat_len hk xs, fun j p hp => ?_⟩
  obtain ⟨hj, rfl⟩ := List.getElem?_eq_some_iff.1 hp
  rw [flat_drop hk, List.drop_eq_getElem_cons hj, List.flatMap_cons, List.take_append, hk, Nat.sub_self, List.take_zero, List.append_nil, List.take_of_length_le (by rw [hk]; exact Nat.le_refl _)]
  exact hR _
end
end Go.Proofs.Ytgepphlkibnhdaa.Sl
