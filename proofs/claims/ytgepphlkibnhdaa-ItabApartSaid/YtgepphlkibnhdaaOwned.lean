/- itab.owned and itab.copied: an inode, and a table, with lists of their own: what is answered, and that nothing elder turns. -/
import Derived.Lib.LazyBuf
import Derived.Laws.MakeOwn
import Derived.Shelf.Spec.SlicesInsert
import Derived.WalkKit
import Derived.Lib.Hide
import Derived.Lib.Walk
import Derived.Test.YtgepphlkibnhdaaSl
import Derived.Test.YtgepphlkibnhdaaPItabx0
namespace Go.Proofs.Ytgepphlkibnhdaa.PItab
open Go Go.RowKit Go.Shelf Go.Proofs.YtgepphlkibnhdaaW.PrintWords Go.Proofs.YtgepphlkibnhdaaW.PrintLast Go.Proofs.YtgepphlkibnhdaaW.PrintMore Go.Proofs.Ytgepphlkibnhdaa.Sl
set_option linter.unusedVariables false
set_option linter.unusedSimpArgs false

theorem info73 : (Try.prog.info? 73).map (fun i => (i.zero, i.size, i.bytes)) = some (some (.agg #[(.int .i64 0), (.string ⟨#[]⟩)]), 2, 24) := by kernel_rfl
theorem info75 : (Try.prog.info? 75).map (fun i => (i.zero, i.size, i.bytes)) = some (some (.agg #[(.string ⟨#[]⟩), (.int .i64 0), (.int .i64 0), (.int .i64 0)]), 4, 40) := by kernel_rfl
def enc73 (x : S73) : List Value := [.int .i64 x.f0, .string x.f1]
def enc75 (x : S75) : List Value := [.string x.f0, .int .i64 x.f1, .int .i64 x.f2.f0, .int .i64 x.f2.f1]
theorem enc73_len (x : S73) : (enc73 x).length = 2 := rfl
theorem enc75_len (x : S75) : (enc75 x).length = 4 := rfl
theorem enc73_one (x : S73) : ∀ v ∈ enc73 x, v.oneCell' = true := by
  intro v hv
  simp only [enc73, List.mem_cons, List.not_mem_nil, or_false] at hv
  rcases hv with rfl | rfl <;> rfl
theorem enc75_one (x : S75) : ∀ v ∈ enc75 x, v.oneCell' = true := by
  intro v hv
  simp only [enc75, List.mem_cons, List.not_mem_nil, or_false] at hv
  rcases hv with rfl | rfl | rfl | rfl <;> rfl
section
variable {P : Program} {α : Type} {d : Kd α} {enc : α → List Value} {k e : Nat}
/-- What a row that is read holds, flat. -/
theorem read_flat (hk : d.sz = k) (hlen : ∀ x, (enc x).length = k) (hopen : ∀ {w : World} {x : α} {c : List Value}, d.K w x c → c = enc x) {w : World} {ad : Addr} {l : List α} (h : d.C w (some ad) l.length l) : ∀ j u, (l.flatMap enc)[j]? = some u → w.cell? (ad.add j) = some u := by
  intro j u hj
  have hjl := (List.getElem?_eq_some_iff.1 hj).1
  rw [flat_len hlen] at hjl
  have hpos : 0 < k := by
    rcases Nat.eq_zero_or_pos k with h0 | h0
    · rw [h0] at hjl; simp at hjl
    · exact h0
  have hq : j / k < l.length := Nat.div_lt_of_lt_mul (by rw [Nat.mul_comm]; exact hjl)
  obtain ⟨ad', he, hc⟩ := h.2.2 (Nat.lt_of_le_of_lt (Nat.zero_le _) hq)
  injection he with he
  subst he
  obtain ⟨c, hcl, hK, hcc⟩ := hc (j / k) _ (List.getElem?_eq_getElem hq)
  have hc' := hopen hK
  have hm : j % k < k := Nat.mod_lt _ hpos
  have hj' : j = j / k * k + j % k := by rw [Nat.mul_comm]; exact (Nat.div_add_mod j k).symm
  have hx : c[j % k]? = some u := by
    rw [hc']
    have h2 : ((l.flatMap enc).drop (j / k * k))[j % k]? = some u := by rw [List.getElem?_drop, ← hj']; exact hj
    rw [flat_drop hlen, List.drop_eq_getElem_cons hq, List.flatMap_cons, List.getElem?_append_left (by rw [hlen]; exact hm)] at h2
    exact h2
  have := hcc _ u hx
  rw [hk, ← hj'] at this
  exact this
/-- 'r := make([]T, len(l)); copy(r, l)': a row of one's own that holds what l holds. -/
theorem made_copied (hk : d.sz = k) (hpos : 0 < k) (hlen : ∀ x, (enc x).length = k) (hone : ∀ x, ∀ v ∈ enc x, v.oneCell' = true) (hopen : ∀ {w : World} {x : α} {c : List Value}, d.K w x c → c = enc x) (hmk : ∀ (w : World) (base : Nat) (ok : Nat → Prop) (x : α), d.M w base ok x (enc x))
    (t elem : TypeId) (z : Value) (bytes : Nat) (hu : P.underlying t = some (.slice elem)) (hinfo : (P.info? elem).map (fun i => (i.zero, i.size, i.bytes)) = some (some z, k, bytes)) (A : Option Addr) (c : Nat) (l : List α) (w : World) (hC : d.C w A l.length l) (hl : l.length ≤ 5900000000000) (hbs : bytes ≤ 40) :
    ∃ w1 w2 : World, (∀ (kl kc : IntKind), (Instr.makeSlice t (.int kl l.length) (.int kc l.length)).run P w = .ok (.slice (some ⟨w.heap.size, 0, none⟩) l.length l.length) w1) ∧
      (∀ ty, (Builtin.copy_ #[t, t] ty #[.slice (some ⟨w.heap.size, 0, none⟩) l.length l.length, .slice A l.length c]).run P w1 = .ok (goInt (l.length : Nat)) w2) ∧
      Below w.heap.size w w1 ∧ Below w.heap.size w1 w2 ∧ w2.heap.size = w.heap.size + 1 ∧ w1.heap.size = w.heap.size + 1 ∧ d.R elem w2 w.heap.size (fun k => k = w.heap.size) (.slice (some ⟨w.heap.size, 0, none⟩) l.length l.length) l := by
  obtain ⟨i0, hi0, hz00⟩ := Option.map_eq_some_iff.1 hinfo
  simp only [Prod.mk.injEq] at hz00
  obtain ⟨hz0, hz1, hz2⟩ := hz00
  have hb : (i0.bytes : Int) * (l.length : Int) ≤ 281474976710656 := by
    have h1 : i0.bytes * l.length ≤ 40 * 5900000000000 := Nat.mul_le_mul (by omega) hl
    rw [← Int.natCast_mul]; omega
  have hmake : ∀ (kl kc : IntKind), (Instr.makeSlice t (.int kl l.length) (.int kc l.length)).run P w = .ok (.slice (some ⟨w.heap.size, 0, none⟩) l.length l.length) (w.alloc (.cells (madeCells z.cells (l.length * k)) elem)) := fun kl kc => by
    have := run_make (P := P) w t elem i0 z hu hi0 hz0 kl kc (l.length : Int) (l.length : Int) (by omega) (by omega) hb (by omega)
    rw [hz1, Int.toNat_natCast] at this
    exact this
  obtain ⟨w1, hw1⟩ : ∃ w1, w1 = w.alloc (.cells (madeCells z.cells (l.length * k)) elem) := ⟨_, rfl⟩
  rw [← hw1] at hmake
  have hb1 : w1.heap[w.heap.size]? = some (.cells (madeCells z.cells (l.length * k)) elem (0, 0)) := by rw [hw1]; exact Array.getElem?_push_size
  have hbel : Below w.heap.size w w1 := by rw [hw1]; exact (Below.refl _ w).alloc (Nat.le_refl _) _
  have hsz1 : w1.heap.size = w.heap.size + 1 := by rw [hw1]; simp
  have hms : (madeCells z.cells (l.length * k)).size = l.length * k := size_madeCells _ _
  have hsize : (P.info? elem).map (·.size) = some k := by rw [hi0]; simp [hz1]
  rcases Nat.eq_zero_or_pos l.length with h0 | h0
  · have hl0 : l = [] := List.eq_nil_of_length_eq_zero h0
    subst hl0
    refine ⟨w1, w1, hmake, fun ty => ?_, hbel, Below.refl _ _, hsz1, hsz1, ⟨fun k hk => by simpa [Value.ownBlock] using hk.symm, [], ⟨by simp, .inr ⟨w.heap.size, 0, _, rfl, Nat.le_refl _, hb1, Nat.le_refl _, by unfold maxLen; omega, by simpa using hms, by simp⟩⟩, Reps.none _ _⟩⟩
    cases hq : P.info? elem with
    | none => simp [hq] at hsize
    | some i =>
      have hl' : ∀ (x : Addr) (w : World), (loadCells x 0).run P w = .ok #[] w := fun x w => by simpa using run_loadCells_list (P := P) w x [] (by simp)
      cases A <;> simp [Builtin.copy_, run_underlying hu, Builtin.lenOf, Builtin.firstCells, sizeOf, typeInfo, hq, storeCells, hl']
  · obtain ⟨ad, rfl, _⟩ := hC.2.2 h0
    have hfl := flat_len hlen l
    have hcp : ∀ ty, (Builtin.copy_ #[t, t] ty #[.slice (some ⟨w.heap.size, 0, none⟩) l.length l.length, .slice (some ad) l.length c]).run P w1 = .ok (goInt (Nat.min l.length l.length : Nat)) (w1.setCells w.heap.size 0 (l.flatMap enc)) := fun ty =>
      run_copy_cellsK w1 _ _ ty elem k w.heap.size 0 l.length l.length ad l.length c (l.flatMap enc) hu hsize (by rw [hfl]; congr 1; simp only [Nat.min_def]; split <;> omega)
        (fun j v hj => read_flat hk hlen hopen (Kd.C_below hC hbel) j v hj)
        (fun j hj => by rw [hfl] at hj; rw [cell_blk hb1, Array.getElem?_eq_getElem (by rw [hms]; omega)]; rfl) (fun j hj => frozen_blk hb1 _)
        (fun v hv => by obtain ⟨x, _, hx⟩ := List.mem_flatMap.1 hv; exact hone x v hx)
    have hmin : Nat.min l.length l.length = l.length := by simp only [Nat.min_def]; split <;> omega
    rw [hmin] at hcp
    obtain ⟨cur2, hb2, hsz2⟩ := setCells_blk w.heap.size (l.flatMap enc) 0 w1 _ elem hb1
    have hbel2 : Below w.heap.size w1 (w1.setCells w.heap.size 0 (l.flatMap enc)) := sl_below _ _ (Below.refl _ _) (Nat.le_refl _)
    have hg := sl_grown (row := none) (l.flatMap enc) 0 (World.grownBy.refl w none) (g := w.heap.size) (.inr (Nat.le_refl _))
    refine ⟨w1, _, hmake, hcp, hbel, hbel2, ?_, hsz1, ⟨fun k hk => by simpa [Value.ownBlock] using hk.symm, l.flatMap enc, ?_, ?_⟩⟩
    · have h1 : ∀ (vs : List Value) (o : Nat) (w : World) (g : Nat), (w.setCells g o vs).heap.size = w.heap.size := by
        intro vs
        induction vs with
        | nil => intro o w g; rfl
        | cons v r ih =>
          intro o w g
          rw [World.setCells, ih]
          simp [World.setCell]
      rw [h1, hsz1]
    · rw [hk]
      refine own_cells (Nat.le_refl _) hb2 (Nat.le_refl _) (by unfold maxLen; omega) (by rw [hsz2, hms]) hfl fun j u hj => ?_
      have hjl := (List.getElem?_eq_some_iff.1 hj).1
      have := World.cell?_setCells_in w.heap.size (l.flatMap enc) 0 w1 (fun t ht => by rw [hfl] at ht; rw [cell_blk hb1, Array.getElem?_eq_getElem (by rw [hms]; omega)]; rfl) j hjl
      rw [Nat.zero_add] at this
      rw [this]
      exact (List.getElem?_eq_some_iff.1 hj).2 ▸ rfl
    · rw [hk]
      exact flat_reps (fun x => hmk _ _ _ x) hlen l
end

def stores (w : World) (l : List (Addr × Value)) : World := l.foldl (fun w p => w.setCell p.1 p.2) w
theorem stores_below {B : Nat} : ∀ (l : List (Addr × Value)) {a w : World}, Below B a w → (∀ p ∈ l, B ≤ p.1.block) → Below B a (stores w l)
  | [], _, _, h, _ => h
  | p :: l, a, w, h, hl => stores_below l (h.setCell (hl p (by simp)) p.2) (fun q hq => hl q (by simp [hq]))
theorem stores_far (k : Nat) : ∀ (l : List (Addr × Value)) (w : World), (∀ p ∈ l, k ≠ p.1.block) → (stores w l).heap[k]? = w.heap[k]?
  | [], _, _ => rfl
  | p :: l, w, h => (stores_far k l (w.setCell p.1 p.2) (fun q hq => h q (by simp [hq]))).trans (Below.heap_setCell w p.1 p.2 k (h p (by simp)))
def itab_owned.f (a0 a1 a2 a3 a4 : Int) (l5 : List S73) (l6 : List S75) (a7 : Int) : Option (Int × Int × Int × Int × Int × List S73 × List S75 × Int) :=
  if l5.length ≤ 5900000000000 ∧ l6.length ≤ 5900000000000 then some (a0, a1, a2, a3, a4, l5, l6, a7) else none
set_option maxHeartbeats 8000000 in
set_option maxRecDepth 100000 in
theorem owned_calls (a0 a1 a2 a3 a4 : Int) (A5 : Option Addr) (c5 : Nat) (l5 : List S73) (A6 : Option Addr) (c6 : Nat) (l6 : List S75) (a7 : Int) (w : World) (h5 : Kd.C k73 w A5 l5.length l5) (h6 : Kd.C k75 w A6 l6.length l6) (n5 : l5.length ≤ 5900000000000) (n6 : l6.length ≤ 5900000000000) :
    Calls Try.prog 28 #[.agg #[.int .i64 a0, .int .i64 a1, .int .i64 a2, .int .i64 a3, .int .i64 a4, .slice A5 l5.length c5, .slice A6 l6.length c6, .int .i64 a7]] w fun e w' =>
      ∃ g5 g6 : Nat, g5 ≠ g6 ∧ w.heap.size ≤ g5 ∧ w.heap.size ≤ g6 ∧ e = .returned (.agg #[.int .i64 a0, .int .i64 a1, .int .i64 a2, .int .i64 a3, .int .i64 a4, .slice (some ⟨g5, 0, none⟩) l5.length l5.length, .slice (some ⟨g6, 0, none⟩) l6.length l6.length, .int .i64 a7]) ∧
        Kd.R k73 73 w' w.heap.size (fun k => k = g5) (.slice (some ⟨g5, 0, none⟩) l5.length l5.length) l5 ∧ Kd.R k75 75 w' w.heap.size (fun k => k = g6) (.slice (some ⟨g6, 0, none⟩) l6.length l6.length) l6 ∧ Below w.heap.size w w' := by
  have hu30 := Try.underlying30
  obtain ⟨W0, hW0⟩ : ∃ W0, W0 = (w.alloc (.cells #[.int .i64 a0, .int .i64 a1, .int .i64 a2, .int .i64 a3, .int .i64 a4, .slice A5 l5.length c5, .slice A6 l6.length c6, .int .i64 a7] 30)).alloc (.cells #[.int .i64 0, .int .i64 0, .int .i64 0, .int .i64 0, .int .i64 0, .slice none 0 0, .slice none 0 0, .int .i64 0] 30) := ⟨_, rfl⟩
  have hB0 : Below w.heap.size w W0 := by rw [hW0]; exact below_alloc (below_alloc (Below.refl _ w) _) _
  have hz0 : W0.heap.size = w.heap.size + 2 := by rw [hW0]; simp
  have hx0 : W0.heap[w.heap.size]? = some (.cells #[.int .i64 a0, .int .i64 a1, .int .i64 a2, .int .i64 a3, .int .i64 a4, .slice A5 l5.length c5, .slice A6 l6.length c6, .int .i64 a7] 30 (0, 0)) := by
    rw [hW0, Below.heap_alloc _ _ _ (by simp)]; exact Array.getElem?_push_size
  have hx1 : W0.heap[w.heap.size + 1]? = some (.cells #[.int .i64 0, .int .i64 0, .int .i64 0, .int .i64 0, .int .i64 0, .slice none 0 0, .slice none 0 0, .int .i64 0] 30 (0, 0)) := by
    rw [hW0]
    have : (w.alloc (.cells #[.int .i64 a0, .int .i64 a1, .int .i64 a2, .int .i64 a3, .int .i64 a4, .slice A5 l5.length c5, .slice A6 l6.length c6, .int .i64 a7] 30)).heap.size = w.heap.size + 1 := by simp
    rw [← this]; exact Array.getElem?_push_size
  obtain ⟨w1, w2, hm1, hc1, hb1, hb2, hs2, hs1, hR1⟩ := made_copied (P := Try.prog) (k := 2) (d := k73) (enc := enc73) rfl (by decide) enc73_len enc73_one (fun h => k73_open h) (fun w b ok x => k73_mkM w b ok x) 27 73 (.agg #[(.int .i64 0), (.string ⟨#[]⟩)]) 24 Try.underlying27 info73 A5 c5 l5 W0 (Kd.C_below h5 hB0) n5 (by decide)
  have hB02 : Below W0.heap.size W0 w2 := hb1.trans hb2
  obtain ⟨w3, w4, hm3, hc3, hb3, hb4, hs4, hs3, hR3⟩ := made_copied (P := Try.prog) (k := 4) (d := k75) (enc := enc75) rfl (by decide) enc75_len enc75_one (fun h => k75_open h) (fun w b ok x => k75_mkM w b ok x) 28 75 (.agg #[(.string ⟨#[]⟩), (.int .i64 0), (.int .i64 0), (.int .i64 0)]) 40 Try.underlying28 info75 A6 c6 l6 w2 (Kd.C_below (Kd.C_below h6 hB0) hB02) n6 (by decide)
  have hB24 : Below w2.heap.size w2 w4 := hb3.trans hb4
  have hB23 : Below w2.heap.size w2 w3 := hb3
  have hk1 : ∀ b, b < W0.heap.size → w1.heap[b]? = W0.heap[b]? := fun b h => hb1.block b h
  have hk2 : ∀ b, b < W0.heap.size → w2.heap[b]? = W0.heap[b]? := fun b h => hB02.block b h
  have hk3 : ∀ b, b < W0.heap.size → w3.heap[b]? = W0.heap[b]? := fun b h => (hB23.block b (by omega)).trans (hk2 b h)
  have hk4 : ∀ b, b < W0.heap.size → w4.heap[b]? = W0.heap[b]? := fun b h => (hB24.block b (by omega)).trans (hk2 b h)
  have x15 : w1.cell? ⟨w.heap.size, 5, none⟩ = some (.slice A5 l5.length c5) := by rw [cell_blk ((hk1 _ (by omega)).trans hx0)]; rfl
  have x26 : w2.cell? ⟨w.heap.size, 6, none⟩ = some (.slice A6 l6.length c6) := by rw [cell_blk ((hk2 _ (by omega)).trans hx0)]; rfl
  have x36 : w3.cell? ⟨w.heap.size, 6, none⟩ = some (.slice A6 l6.length c6) := by rw [cell_blk ((hk3 _ (by omega)).trans hx0)]; rfl
  have y0 := (hk4 _ (by omega)).trans hx0
  have y1 := (hk4 _ (by omega)).trans hx1
  have p0 : w4.cell? ⟨w.heap.size, 0, none⟩ = some (.int .i64 a0) := by rw [cell_blk y0]; rfl
  have p1 : w4.cell? ⟨w.heap.size, 1, none⟩ = some (.int .i64 a1) := by rw [cell_blk y0]; rfl
  have p2 : w4.cell? ⟨w.heap.size, 2, none⟩ = some (.int .i64 a2) := by rw [cell_blk y0]; rfl
  have p3 : w4.cell? ⟨w.heap.size, 3, none⟩ = some (.int .i64 a3) := by rw [cell_blk y0]; rfl
  have p4 : w4.cell? ⟨w.heap.size, 4, none⟩ = some (.int .i64 a4) := by rw [cell_blk y0]; rfl
  have p5 : w4.cell? ⟨w.heap.size, 5, none⟩ = some (.slice A5 l5.length c5) := by rw [cell_blk y0]; rfl
  have p6 : w4.cell? ⟨w.heap.size, 6, none⟩ = some (.slice A6 l6.length c6) := by rw [cell_blk y0]; rfl
  have p7 : w4.cell? ⟨w.heap.size, 7, none⟩ = some (.int .i64 a7) := by rw [cell_blk y0]; rfl
  have f5 : w4.frozen? ⟨w.heap.size, 5, none⟩ = false := frozen_blk y0 _
  have f6 : w4.frozen? ⟨w.heap.size, 6, none⟩ = false := frozen_blk y0 _
  have q0 : w4.cell? ⟨w.heap.size + 1, 0, none⟩ = some (.int .i64 0) := by rw [cell_blk y1]; rfl
  have q1 : w4.cell? ⟨w.heap.size + 1, 1, none⟩ = some (.int .i64 0) := by rw [cell_blk y1]; rfl
  have q2 : w4.cell? ⟨w.heap.size + 1, 2, none⟩ = some (.int .i64 0) := by rw [cell_blk y1]; rfl
  have q3 : w4.cell? ⟨w.heap.size + 1, 3, none⟩ = some (.int .i64 0) := by rw [cell_blk y1]; rfl
  have q4 : w4.cell? ⟨w.heap.size + 1, 4, none⟩ = some (.int .i64 0) := by rw [cell_blk y1]; rfl
  have q5 : w4.cell? ⟨w.heap.size + 1, 5, none⟩ = some (.slice none 0 0) := by rw [cell_blk y1]; rfl
  have q6 : w4.cell? ⟨w.heap.size + 1, 6, none⟩ = some (.slice none 0 0) := by rw [cell_blk y1]; rfl
  have q7 : w4.cell? ⟨w.heap.size + 1, 7, none⟩ = some (.int .i64 0) := by rw [cell_blk y1]; rfl
  have r0 : w4.frozen? ⟨w.heap.size + 1, 0, none⟩ = false := frozen_blk y1 _
  have r1 : w4.frozen? ⟨w.heap.size + 1, 1, none⟩ = false := frozen_blk y1 _
  have r2 : w4.frozen? ⟨w.heap.size + 1, 2, none⟩ = false := frozen_blk y1 _
  have r3 : w4.frozen? ⟨w.heap.size + 1, 3, none⟩ = false := frozen_blk y1 _
  have r4 : w4.frozen? ⟨w.heap.size + 1, 4, none⟩ = false := frozen_blk y1 _
  have r5 : w4.frozen? ⟨w.heap.size + 1, 5, none⟩ = false := frozen_blk y1 _
  have r6 : w4.frozen? ⟨w.heap.size + 1, 6, none⟩ = false := frozen_blk y1 _
  have r7 : w4.frozen? ⟨w.heap.size + 1, 7, none⟩ = false := frozen_blk y1 _
  obtain ⟨g5, hg5⟩ : ∃ g, g = W0.heap.size := ⟨_, rfl⟩
  obtain ⟨g6, hg6⟩ : ∃ g, g = w2.heap.size := ⟨_, rfl⟩
  have hR1' : Kd.R k73 73 w4 w.heap.size (fun k => k = g5) (.slice (some ⟨g5, 0, none⟩) l5.length l5.length) l5 := by
    rw [hg5]
    exact Kd.R_lower (Kd.R_below hR1 hB24) (by omega)
  have hR3' : Kd.R k75 75 w4 w.heap.size (fun k => k = g6) (.slice (some ⟨g6, 0, none⟩) l6.length l6.length) l6 := by
    rw [hg6]
    exact Kd.R_lower hR3 (by omega)
  have HR1 := Aside0.mk hR1'
  have HR3 := Aside0.mk hR3'
  have hB4 : Below w.heap.size w w4 := hB0.trans ((hB02.mono (by omega)).trans (hB24.mono (by omega)))
  have HB := Aside0.mk hB4
  have HY := Aside0.mk y1
  have HG := Aside0.mk (show w.heap.size + 2 = g5 ∧ g6 = g5 + 1 by omega)
  rw [← hg5] at hm1 hc1
  rw [← hg6] at hm3 hc3
  rw [hW0] at hm1
  clear hR1 hR1' hR3 hR3' hB4 hB0 hB02 hB24 hB23 hk1 hk2 hk3 hk4 y0 y1 hx0 hx1 hb1 hb2 hb3 hb4 hs1 hs2 hs3 hs4 hz0 hg5 hg6 h5 h6 hW0
  go_enter Try.func28, Try.ntmps28
  go_wp2_with fail
  obtain ⟨e5, e6⟩ := HG.out
  obtain ⟨W, hW⟩ : ∃ W, W = stores w4 [(⟨w.heap.size, 5, none⟩, .slice (some ⟨g5, 0, none⟩) l5.length l5.length), (⟨w.heap.size, 6, none⟩, .slice (some ⟨g6, 0, none⟩) l6.length l6.length), (⟨w.heap.size + 1, 0, none⟩, .int .i64 a0), (⟨w.heap.size + 1, 1, none⟩, .int .i64 a1), (⟨w.heap.size + 1, 2, none⟩, .int .i64 a2), (⟨w.heap.size + 1, 3, none⟩, .int .i64 a3), (⟨w.heap.size + 1, 4, none⟩, .int .i64 a4), (⟨w.heap.size + 1, 5, none⟩, .slice (some ⟨g5, 0, none⟩) l5.length l5.length), (⟨w.heap.size + 1, 6, none⟩, .slice (some ⟨g6, 0, none⟩) l6.length l6.length), (⟨w.heap.size + 1, 7, none⟩, .int .i64 a7)] := ⟨_, rfl⟩
  have hfar : ∀ k, k ≠ w.heap.size → k ≠ w.heap.size + 1 → W.heap[k]? = w4.heap[k]? := fun k h0 h1 => by
    rw [hW]
    refine stores_far k _ _ fun p hp => ?_
    simp only [List.mem_cons, List.not_mem_nil, or_false] at hp
    rcases hp with rfl | rfl | rfl | rfl | rfl | rfl | rfl | rfl | rfl | rfl <;> first | exact h0 | exact h1
  have hbel : Below w.heap.size w W := by
    rw [hW]
    refine stores_below _ HB.out fun p hp => ?_
    simp only [List.mem_cons, List.not_mem_nil, or_false] at hp
    rcases hp with rfl | rfl | rfl | rfl | rfl | rfl | rfl | rfl | rfl | rfl <;> (show w.heap.size ≤ _; simp)
  have hblk : W.heap[w.heap.size + 1]? = some (.cells #[.int .i64 a0, .int .i64 a1, .int .i64 a2, .int .i64 a3, .int .i64 a4, .slice (some ⟨g5, 0, none⟩) l5.length l5.length, .slice (some ⟨g6, 0, none⟩) l6.length l6.length, .int .i64 a7] 30 (0, 0)) := by
    rw [hW]
    have h0 := HY.out
    have hne : w.heap.size + 1 ≠ w.heap.size := by omega
    have h1 := (Below.heap_setCell w4 ⟨w.heap.size, 5, none⟩ (.slice (some ⟨g5, 0, none⟩) l5.length l5.length) (w.heap.size + 1) hne).trans h0
    have h2 := (Below.heap_setCell _ ⟨w.heap.size, 6, none⟩ (.slice (some ⟨g6, 0, none⟩) l6.length l6.length) (w.heap.size + 1) hne).trans h1
    have h3 := Go.Joins.block_setCell (i := 0) h2 (.int .i64 a0)
    simp only [List.setIfInBounds_toArray, List.set_cons_zero, List.set_cons_succ] at h3
    have h4 := Go.Joins.block_setCell (i := 1) h3 (.int .i64 a1)
    simp only [List.setIfInBounds_toArray, List.set_cons_zero, List.set_cons_succ] at h4
    have h5 := Go.Joins.block_setCell (i := 2) h4 (.int .i64 a2)
    simp only [List.setIfInBounds_toArray, List.set_cons_zero, List.set_cons_succ] at h5
    have h6 := Go.Joins.block_setCell (i := 3) h5 (.int .i64 a3)
    simp only [List.setIfInBounds_toArray, List.set_cons_zero, List.set_cons_succ] at h6
    have h7 := Go.Joins.block_setCell (i := 4) h6 (.int .i64 a4)
    simp only [List.setIfInBounds_toArray, List.set_cons_zero, List.set_cons_succ] at h7
    have h8 := Go.Joins.block_setCell (i := 5) h7 (.slice (some ⟨g5, 0, none⟩) l5.length l5.length)
    simp only [List.setIfInBounds_toArray, List.set_cons_zero, List.set_cons_succ] at h8
    have h9 := Go.Joins.block_setCell (i := 6) h8 (.slice (some ⟨g6, 0, none⟩) l6.length l6.length)
    simp only [List.setIfInBounds_toArray, List.set_cons_zero, List.set_cons_succ] at h9
    have h10 := Go.Joins.block_setCell (i := 7) h9 (.int .i64 a7)
    simp only [List.setIfInBounds_toArray, List.set_cons_zero, List.set_cons_succ] at h10
    exact h10
  have hsz30 : (Try.prog.info? 30).map (·.size) = some 8 := by
    obtain ⟨i0, hi0, hz00⟩ := Option.map_eq_some_iff.1 info30
    simp only [Prod.mk.injEq] at hz00
    rw [hi0]; simp [hz00.2.1]
  have hW' : stores w4 [(⟨w.heap.size, 5, none⟩, .slice (some ⟨g5, 0, none⟩) l5.length l5.length), (⟨w.heap.size, 6, none⟩, .slice (some ⟨g6, 0, none⟩) l6.length l6.length), (⟨w.heap.size + 1, 0, none⟩, .int .i64 a0), (⟨w.heap.size + 1, 1, none⟩, .int .i64 a1), (⟨w.heap.size + 1, 2, none⟩, .int .i64 a2), (⟨w.heap.size + 1, 3, none⟩, .int .i64 a3), (⟨w.heap.size + 1, 4, none⟩, .int .i64 a4), (⟨w.heap.size + 1, 5, none⟩, .slice (some ⟨g5, 0, none⟩) l5.length l5.length), (⟨w.heap.size + 1, 6, none⟩, .slice (some ⟨g6, 0, none⟩) l6.length l6.length), (⟨w.heap.size + 1, 7, none⟩, .int .i64 a7)] = W := hW.symm
  simp only [stores, List.foldl_cons, List.foldl_nil] at hW'
  rw [hW']
  refine bodyPost_ret (results_cell_row rfl _ _ (w.heap.size + 1) 30 _ (0, 0) _ rfl hblk Try.underlying30 rfl hsz30) rfl ?_
  exact ⟨g5, g6, by omega, by omega, by omega, rfl, Kd.R_step HR1.out (fun k hk _ => hfar k (by omega) (by omega)), Kd.R_step HR3.out (fun k hk _ => hfar k (by omega) (by omega)), hbel⟩
theorem itab_owned.calls (a0 a1 a2 a3 a4 : Int) (A5 : Option Addr) (c5 : Nat) (l5 : List S73) (A6 : Option Addr) (c6 : Nat) (l6 : List S75) (a7 : Int) (r0 r1 r2 r3 r4 : Int) (r5 : List S73) (r6 : List S75) (r7 : Int) (w : World) (h5 : Kd.C k73 w A5 l5.length l5) (n5 : l5.length ≤ c5) (h6 : Kd.C k75 w A6 l6.length l6) (n6 : l6.length ≤ c6)
    (h : itab_owned.f a0 a1 a2 a3 a4 l5 l6 a7 = some (r0, r1, r2, r3, r4, r5, r6, r7)) :
    Calls Try.prog 28 #[.agg #[.int .i64 a0, .int .i64 a1, .int .i64 a2, .int .i64 a3, .int .i64 a4, .slice A5 l5.length c5, .slice A6 l6.length c6, .int .i64 a7]] w fun e w' =>
      ∃ v5 v6 : Value, e = .returned (.agg #[.int .i64 r0, .int .i64 r1, .int .i64 r2, .int .i64 r3, .int .i64 r4, v5, v6, .int .i64 r7]) ∧ Kd.R k73 73 w' w.heap.size (fun _ => True) v5 r5 ∧ Kd.R k75 75 w' w.heap.size (fun _ => True) v6 r6 ∧ Below w.heap.size w w' := by
  unfold itab_owned.f at h
  split at h
  · rename_i hl
    simp only [Option.some.injEq, Prod.mk.injEq] at h
    obtain ⟨rfl, rfl, rfl, rfl, rfl, rfl, rfl, rfl⟩ := h
    refine (owned_calls a0 a1 a2 a3 a4 A5 c5 l5 A6 c6 l6 a7 w h5 h6 hl.1 hl.2).mono ?_
    rintro e w' ⟨g5, g6, _, _, _, rfl, hR5, hR6, hb⟩
    exact ⟨_, _, rfl, Kd.R_mono hR5 (fun _ _ => trivial), Kd.R_mono hR6 (fun _ _ => trivial), hb⟩
  · cases h

/-- What stands in the new table behind i rounds. -/
def Cop (base G : Nat) (l : List S30) (i : Nat) (W : World) : Prop :=
  ∃ (f : Nat → Nat) (cur : Array Value), W.heap[G]? = some (.cells cur 30 (0, 0)) ∧ cur.size = l.length * 8 ∧
    ∀ (j : Nat) (h : j < l.length), j < i → ∃ c : List Value, c.length = 8 ∧ k30.M W base (fun k => k ≠ G ∧ f k = j) l[j] c ∧ ∀ t u, c[t]? = some u → cur[j * 8 + t]? = some u
theorem hz (n i : Nat) (h : n ≤ 1000000000000) (hi : i < n) : wrap64 ((i : Int) + 1) = ((i + 1 : Nat) : Int) := by unfold wrap64; omega
theorem M_stepb {α : Type} (d : Kd α) {w w1 : World} {base : Nat} {ok ok' : Nat → Prop} {x : α} {cs : List Value} (h : d.M w base ok x cs) (hm : ∀ k, ok k → k < w.heap.size → w1.heap[k]? = w.heap[k]?) (hok : ∀ k, ok k → k < w.heap.size → ok' k) : d.M w1 base ok' x cs :=
  d.M_mono (fun k hk => hok k hk.1 hk.2.2.1) (Kd.M_step (d.M_bound h) (fun k hk hlt => hm k hk.1 hlt))
theorem M_mono' {α : Type} (d : Kd α) {w : World} {base : Nat} {ok ok' : Nat → Prop} {x : α} {cs : List Value} (h : d.M w base ok x cs) (hok : ∀ k, ok k → ok' k) : d.M w base ok' x cs := d.M_mono hok h
theorem cop_step {base G k : Nat} {l : List S30} {wr Wb w2 : World} {f : Nat → Nat} {cur : Array Value} {x : S30} {n5 n6 : Nat} (hbase : base ≤ G) (hGlt : G < wr.heap.size) (hB : Below wr.heap.size wr Wb) (hWbs : Wb.heap.size = wr.heap.size + 1) (hb : Below Wb.heap.size Wb w2)
    (hG2 : w2.heap[G]? = some (.cells cur 30 (0, 0))) (hsz : cur.size = l.length * 8) (hk : k < l.length) (hx : x = l[k])
    (hel : ∀ (j : Nat) (h : j < l.length), j < k → ∃ c : List Value, c.length = 8 ∧ k30.M wr base (fun b => b ≠ G ∧ f b = j) l[j] c ∧ ∀ t u, c[t]? = some u → cur[j * 8 + t]? = some u)
    (hn5 : Wb.heap.size ≤ n5) (hn6 : Wb.heap.size ≤ n6) (hR5 : Kd.R k73 73 w2 Wb.heap.size (fun b => b = n5) (.slice (some ⟨n5, 0, none⟩) x.f2.length x.f2.length) x.f2) (hR6 : Kd.R k75 75 w2 Wb.heap.size (fun b => b = n6) (.slice (some ⟨n6, 0, none⟩) x.f3.length x.f3.length) x.f3) :
    Cop base G l (k + 1) (w2.setCells G (k * 8) [.int .i64 x.f0, .int .i64 x.f1.f0, .int .i64 x.f1.f1, .int .i64 x.f1.f2, .int .i64 x.f1.f3, .slice (some ⟨n5, 0, none⟩) x.f2.length x.f2.length, .slice (some ⟨n6, 0, none⟩) x.f3.length x.f3.length, .int .i64 x.f4]) := by
  obtain ⟨vs, hvs⟩ : ∃ vs : List Value, vs = [.int .i64 x.f0, .int .i64 x.f1.f0, .int .i64 x.f1.f1, .int .i64 x.f1.f2, .int .i64 x.f1.f3, .slice (some ⟨n5, 0, none⟩) x.f2.length x.f2.length, .slice (some ⟨n6, 0, none⟩) x.f3.length x.f3.length, .int .i64 x.f4] := ⟨_, rfl⟩
  have hvl : vs.length = 8 := by rw [hvs]; rfl
  rw [← hvs]
  obtain ⟨cur', hb', hsz'⟩ := setCells_blk G vs (k * 8) w2 cur 30 hG2
  have hfar : ∀ b, b ≠ G → (w2.setCells G (k * 8) vs).heap[b]? = w2.heap[b]? := fun b hne => by
    have : ∀ (vs : List Value) (o : Nat) (w : World), (w.setCells G o vs).heap[b]? = w.heap[b]? := by
      intro vs
      induction vs with
      | nil => intro o w; rfl
      | cons v r ih => intro o w; rw [World.setCells, ih]; exact Below.heap_setCell w ⟨G, o, none⟩ v b hne
    exact this vs _ _
  have hnk : (k + 1) * 8 ≤ l.length * 8 := Nat.mul_le_mul_right _ hk
  have hsome : ∀ j, j < vs.length → (w2.cell? ⟨G, k * 8 + j, none⟩).isSome = true := fun j hj => by rw [cell_blk hG2, Array.getElem?_eq_getElem (by omega)]; rfl
  refine ⟨fun b => if b < wr.heap.size then f b else k, cur', hb', by rw [hsz', hsz], fun j hj hjk => ?_⟩
  by_cases hjk2 : j = k
  · have hR5' : Kd.R k73 73 (w2.setCells G (k * 8) vs) base (fun b => b ≠ G ∧ (if b < wr.heap.size then f b else k) = j) (.slice (some ⟨n5, 0, none⟩) x.f2.length x.f2.length) x.f2 :=
      Kd.R_mono (Kd.R_lower (Kd.R_step hR5 (fun b hb5 _ => hfar b (by omega))) (by omega)) (fun b hb5 => ⟨by omega, by rw [if_neg (by omega)]; exact hjk2.symm⟩)
    have hR6' : Kd.R k75 75 (w2.setCells G (k * 8) vs) base (fun b => b ≠ G ∧ (if b < wr.heap.size then f b else k) = j) (.slice (some ⟨n6, 0, none⟩) x.f3.length x.f3.length) x.f3 :=
      Kd.R_mono (Kd.R_lower (Kd.R_step hR6 (fun b hb6 _ => hfar b (by omega))) (by omega)) (fun b hb6 => ⟨by omega, by rw [if_neg (by omega)]; exact hjk2.symm⟩)
    have hM := k30_mkM _ _ _ x hR5' hR6'
    rw [← hvs] at hM
    have hxj : l[j] = x := by rw [hx]; congr 1
    refine ⟨vs, hvl, by rw [hxj]; exact hM, fun t u ht => ?_⟩
    obtain ⟨htl, hte⟩ := List.getElem?_eq_some_iff.1 ht
    have := World.cell?_setCells_in G vs (k * 8) w2 hsome t htl
    rw [cell_blk hb'] at this
    rw [hjk2, this, hte]
  · obtain ⟨c, hc8, hM, hcc⟩ := hel j hj (by omega)
    refine ⟨c, hc8, ?_, fun t u ht => ?_⟩
    · exact M_stepb k30 hM (fun b hb3 hlt => (hfar b hb3.1).trans ((hb.block b (by omega)).trans (hB.block b hlt))) (fun b hb3 hlt => ⟨hb3.1, (if_pos hlt).trans hb3.2⟩)
    · have ht8 := (List.getElem?_eq_some_iff.1 ht).1
      rw [← cell_blk hb', World.cell?_setCells_out _ _ _ _ _ (fun _ _ => .inl (by show j * 8 + t < k * 8; omega)), cell_blk hG2]
      exact hcc t u ht
theorem setCells_size (g : Nat) : ∀ (vs : List Value) (o : Nat) (w : World), (w.setCells g o vs).heap.size = w.heap.size
  | [], _, _ => rfl
  | v :: r, o, w => by rw [World.setCells, setCells_size g r]; simp [World.setCell]
theorem cop_end {base G : Nat} {l : List S30} {W : World} (hbase : base ≤ G) (hl : l.length ≤ 1000000000000) (h : Cop base G l l.length W) : Kd.S k30 30 W base (fun _ => True) (.slice (some ⟨G, 0, none⟩) l.length l.length) l := by
  obtain ⟨f, cur, hcur, hsz, hel⟩ := h
  refine ⟨f, fun _ _ => trivial, cur.toList, (show W.ownsRow base 30 8 (.slice (some ⟨G, 0, none⟩) l.length l.length) l.zipIdx.length cur.toList from ?_), (show Reps (fun (p : S30 × Nat) c => k30.M W base (fun b => (True ∧ some b ≠ (Value.slice (some ⟨G, 0, none⟩) l.length l.length).ownBlock) ∧ f b = p.2) p.1 c) 8 l.zipIdx cur.toList from ?_)⟩
  · rw [List.length_zipIdx]
    exact ⟨by simpa using hsz, .inr ⟨G, l.length, cur, rfl, hbase, hcur, Nat.le_refl _, by unfold maxLen; omega, hsz, List.take_of_length_le (by simp; omega)⟩⟩
  · refine ⟨by rw [List.length_zipIdx]; simpa using hsz, fun j p hp => ?_⟩
    obtain ⟨hjl, hpe⟩ := List.getElem?_eq_some_iff.1 hp
    rw [List.length_zipIdx] at hjl
    have hpe : p = (l[j], j) := by rw [← hpe]; simp
    subst hpe
    obtain ⟨c, hc8, hM, hcc⟩ := hel j hjl hjl
    have hce : (cur.toList.drop (j * 8)).take 8 = c := by
      have h8 : (j + 1) * 8 ≤ l.length * 8 := Nat.mul_le_mul_right _ hjl
      refine List.ext_getElem? fun t => ?_
      rcases Nat.lt_or_ge t 8 with ht | ht
      · rw [List.getElem?_take, if_pos ht, List.getElem?_drop, Array.getElem?_toList, List.getElem?_eq_getElem (by omega)]
        exact hcc t _ (List.getElem?_eq_getElem (by omega))
      · rw [List.getElem?_take, if_neg (by omega), List.getElem?_eq_none (by omega)]
    show k30.M W base (fun b => (True ∧ some b ≠ some G) ∧ f b = j) l[j] ((cur.toList.drop (j * 8)).take 8)
    rw [hce]
    exact M_mono' k30 hM (fun b hb => ⟨⟨trivial, fun e => hb.1 (by injection e)⟩, hb.2⟩)
def Small (l : List S30) : Prop := ∀ x ∈ l, x.f2.length ≤ 5900000000000 ∧ x.f3.length ≤ 5900000000000
set_option maxHeartbeats 8000000 in
set_option maxRecDepth 100000 in
theorem copied_calls (A0 : Option Addr) (c0 : Nat) (l0 : List S30) (w : World) (hr0 : Kd.C k30 w A0 l0.length l0) (hc0 : l0.length ≤ c0) (hlim : l0.length ≤ 1000000000000) (hsm : Small l0) :
    Calls Try.prog 32 #[.slice A0 l0.length c0] w fun e w' => ∃ v0_ : Value, e = .returned v0_ ∧ Kd.S k30 30 w' w.heap.size (fun _ => True) v0_ l0 ∧ Below w.heap.size w w' := by
  have hu30 := Try.underlying30
  obtain ⟨i0, hi0, hz00⟩ := Option.map_eq_some_iff.1 info30
  simp only [Prod.mk.injEq] at hz00
  obtain ⟨hz0, hz1, hz2⟩ := hz00
  have hb : (i0.bytes : Int) * (l0.length : Int) ≤ 281474976710656 := by
    have h1 : i0.bytes * l0.length ≤ 96 * 1000000000000 := Nat.mul_le_mul (by omega) hlim
    rw [← Int.natCast_mul]; omega
  have hmake : ∀ (kl kc : IntKind), (Instr.makeSlice 22 (.int kl l0.length) (.int kc l0.length)).run Try.prog w = .ok (.slice (some ⟨w.heap.size, 0, none⟩) l0.length l0.length) (w.alloc (.cells (madeCells (Value.cells (.agg #[(.int .i64 0), (.int .i64 0), (.int .i64 0), (.int .i64 0), (.int .i64 0), (.slice none 0 0), (.slice none 0 0), (.int .i64 0)])) (l0.length * 8)) 30)) := fun kl kc => by
    have := run_make (P := Try.prog) w 22 30 i0 _ Try.underlying22 hi0 hz0 kl kc (l0.length : Int) (l0.length : Int) (by omega) (by omega) hb (by omega)
    rw [hz1, Int.toNat_natCast] at this
    exact this
  obtain ⟨w1, hw1⟩ : ∃ w1, w1 = w.alloc (.cells (madeCells (Value.cells (.agg #[(.int .i64 0), (.int .i64 0), (.int .i64 0), (.int .i64 0), (.int .i64 0), (.slice none 0 0), (.slice none 0 0), (.int .i64 0)])) (l0.length * 8)) 30) := ⟨_, rfl⟩
  rw [← hw1] at hmake
  have hblk : w1.heap[w.heap.size]? = some (.cells (madeCells (Value.cells (.agg #[(.int .i64 0), (.int .i64 0), (.int .i64 0), (.int .i64 0), (.int .i64 0), (.slice none 0 0), (.slice none 0 0), (.int .i64 0)])) (l0.length * 8)) 30 (0, 0)) := by rw [hw1]; exact Array.getElem?_push_size
  have hB1 : Below w.heap.size w w1 := by rw [hw1]; exact below_alloc (Below.refl _ w) _
  have hs1 : w1.heap.size = w.heap.size + 1 := by rw [hw1]; simp
  have HCop := Aside0.mk (show Cop w.heap.size w.heap.size l0 0 w1 from ⟨fun _ => 0, _, hblk, size_madeCells _ _, fun j h h0 => by omega⟩)
  have HR0 := Aside0.mk hr0
  have HSM := Aside0.mk hsm
  have HB1 := Aside0.mk hB1
  have HS1 := Aside0.mk hs1
  clear hr0 hsm hblk hB1 hs1 hw1 hb hi0 hz0 hz1 hz2
  go_enter Try.func32, Try.ntmps32
  go_wp2
  go_loopw [4, 5, 11, 12, 13, 14, 15, 16, 17, 18, 19, 20, 21] (fun _ _ i _ _ _ _ _ _ _ _ _ _ wr => ∃ k : Nat, k ≤ l0.length ∧ i = .int .i64 k ∧ Cop w.heap.size w.heap.size l0 k wr ∧ Below w.heap.size w wr ∧ w.heap.size < wr.heap.size)
    (fun _ _ i _ _ _ _ _ _ _ _ _ _ _ => l0.length - (intOf i).toNat)
  case atStart => exact ⟨0, Nat.zero_le _, rfl, HCop.out, HB1.out, by rw [HS1.out]; omega⟩
  case round =>
    obtain ⟨k, hk, rfl, hcop, hB, hlt0⟩ := hrel
    by_cases hlt : k < l0.length
    · have hcx := Kd.C_below HR0.out hB
      have HB := Aside0.mk hB
      have HCOP := Aside0.mk hcop
      clear hB hcop
      have hltI : (k : Int) < (l0.length : Int) := by omega
      obtain ⟨ad, A5, c5, A6, c6, rfl, x0, x1, x2, x3, x4, x5, x6, x7, l5, g5, l6, g6⟩ := at_T30 hcx (k : Int) (by omega) hltI
      simp only [Int.toNat_natCast] at x0 x1 x2 x3 x4 x5 x6 x7
      obtain ⟨x, hx⟩ : ∃ x, x = rd_T30 l0 (k : Int) := ⟨_, rfl⟩
      rw [← hx] at x0 x1 x2 x3 x4 x5 x6 x7 l5 g5 l6 g6
      have HX := Aside0.mk hx
      have HG5 := Aside0.mk g5
      have HG6 := Aside0.mk g6
      have HL := Aside0.mk (And.intro l5 l6)
      have hxm : x.f2.length ≤ 5900000000000 ∧ x.f3.length ≤ 5900000000000 := by
        rw [hx]
        have e : rd_T30 l0 (k : Int) = l0[k] := by simp [rd_T30, List.getD_eq_getElem?_getD, List.getElem?_eq_getElem hlt]
        rw [e]
        exact HSM.out _ (List.getElem_mem hlt)
      have hxk : x = l0[k] := by rw [hx]; simp [rd_T30, List.getD_eq_getElem?_getD, List.getElem?_eq_getElem hlt]
      have HXM := Aside0.mk hxm
      have HXK := Aside0.mk hxk
      clear hx g5 g6 l5 l6 hcx hxm hxk
      go_wp2_with fail
      refine (owned_calls x.f0 x.f1.f0 x.f1.f1 x.f1.f2 x.f1.f3 A5 c5 x.f2 A6 c6 x.f3 x.f4 _ (Kd.C_below HG5.out (below_alloc (Below.refl _ _) _)) (Kd.C_below HG6.out (below_alloc (Below.refl _ _) _)) HXM.out.1 HXM.out.2).mono ?_
      obtain ⟨Wb, hWb⟩ : ∃ Wb, Wb = wr.alloc (.cells #[.int .i64 x.f0, .int .i64 x.f1.f0, .int .i64 x.f1.f1, .int .i64 x.f1.f2, .int .i64 x.f1.f3, .slice A5 x.f2.length c5, .slice A6 x.f3.length c6, .int .i64 x.f4] 30) := ⟨_, rfl⟩
      have hBb : Below wr.heap.size wr Wb := by rw [hWb]; exact below_alloc (Below.refl _ _) _
      have hWbs : Wb.heap.size = wr.heap.size + 1 := by rw [hWb]; simp
      rw [← hWb]
      rintro e w2 ⟨n5, n6, hne, hn5, hn6, rfl, hR5, hR6, hb⟩
      obtain ⟨f, cur, hcur, hsz, hel⟩ := HCOP.out
      have hG2 : w2.heap[w.heap.size]? = some (.cells cur 30 (0, 0)) := (hb.block _ (by omega)).trans ((hBb.block _ hlt0).trans hcur)
      have hcl : ∀ t, t < 8 → ∃ u, w2.cell? ⟨w.heap.size, k * 8 + t, none⟩ = some u := fun t ht => ⟨_, (cell_blk hG2 _).trans (Array.getElem?_eq_getElem (by omega))⟩
      obtain ⟨u0, z0⟩ := hcl 0 (by omega)
      obtain ⟨u1, z1⟩ := hcl 1 (by omega)
      obtain ⟨u2, z2⟩ := hcl 2 (by omega)
      obtain ⟨u3, z3⟩ := hcl 3 (by omega)
      obtain ⟨u4, z4⟩ := hcl 4 (by omega)
      obtain ⟨u5, z5⟩ := hcl 5 (by omega)
      obtain ⟨u6, z6⟩ := hcl 6 (by omega)
      obtain ⟨u7, z7⟩ := hcl 7 (by omega)
      rw [Nat.add_zero] at z0
      have q0 : w2.frozen? ⟨w.heap.size, k * 8, none⟩ = false := frozen_blk hG2 _
      have q1 : w2.frozen? ⟨w.heap.size, k * 8 + 1, none⟩ = false := frozen_blk hG2 _
      have q2 : w2.frozen? ⟨w.heap.size, k * 8 + 2, none⟩ = false := frozen_blk hG2 _
      have q3 : w2.frozen? ⟨w.heap.size, k * 8 + 3, none⟩ = false := frozen_blk hG2 _
      have q4 : w2.frozen? ⟨w.heap.size, k * 8 + 4, none⟩ = false := frozen_blk hG2 _
      have q5 : w2.frozen? ⟨w.heap.size, k * 8 + 5, none⟩ = false := frozen_blk hG2 _
      have q6 : w2.frozen? ⟨w.heap.size, k * 8 + 6, none⟩ = false := frozen_blk hG2 _
      have q7 : w2.frozen? ⟨w.heap.size, k * 8 + 7, none⟩ = false := frozen_blk hG2 _
      have HA := Aside0.mk (And.intro hR5 (And.intro hR6 (And.intro hb (And.intro hn5 (And.intro hn6 (And.intro hBb hWbs))))))
      have HE := Aside0.mk hel
      have HG2 := Aside0.mk hG2
      have HSZ := Aside0.mk hsz
      have HCUR := Aside0.mk hcur
      clear hR5 hR6 hb hn5 hn6 hBb hWbs hel hG2 hsz hcur hcl hWb hne
      go_wp2
      obtain ⟨hR5, hR6, hb, hn5, hn6, hBb, hWbs⟩ := HA.out
      obtain ⟨W, hW⟩ : ∃ W, W = w2.setCells w.heap.size (k * 8) [.int .i64 x.f0, .int .i64 x.f1.f0, .int .i64 x.f1.f1, .int .i64 x.f1.f2, .int .i64 x.f1.f3, .slice (some ⟨n5, 0, none⟩) x.f2.length x.f2.length, .slice (some ⟨n6, 0, none⟩) x.f3.length x.f3.length, .int .i64 x.f4] := ⟨_, rfl⟩
      have hstep := cop_step (Nat.le_refl w.heap.size) hlt0 hBb hWbs hb HG2.out HSZ.out hlt HXK.out HE.out hn5 hn6 hR5 hR6
      have hbW : Below w.heap.size w w2 := HB.out.trans ((hBb.mono (by omega)).trans (hb.mono (by omega)))
      have hbW2 : Below w.heap.size w W := by rw [hW]; exact sl_below _ _ hbW (Nat.le_refl _)
      have hWs : w.heap.size < W.heap.size := by rw [hW, setCells_size]; have := hb.size; omega
      rw [← hW] at hstep
      have hWe : w2.setCells w.heap.size (k * 8) [.int .i64 x.f0, .int .i64 x.f1.f0, .int .i64 x.f1.f1, .int .i64 x.f1.f2, .int .i64 x.f1.f3, .slice (some ⟨n5, 0, none⟩) x.f2.length x.f2.length, .slice (some ⟨n6, 0, none⟩) x.f3.length x.f3.length, .int .i64 x.f4] = W := hW.symm
      simp only [World.setCells, Nat.add_assoc, Nat.reduceAdd] at hWe
      rw [hWe]
      refine ⟨⟨k + 1, by omega, by congr 1, hstep, hbW2, hWs⟩, by simp only [intOf]; omega⟩
    · have hkl : k = l0.length := by omega
      subst hkl
      have HC := Aside0.mk (cop_end (Nat.le_refl w.heap.size) hlim hcop)
      have HB := Aside0.mk hB
      clear hcop hB
      go_wp2
      go_ret
      exact ⟨_, rfl, HC.out, HB.out⟩
def itab_copied.f (l0 : List S30) : Option (List S30) := if l0.length ≤ 1000000000000 ∧ (l0.all fun x => decide (x.f2.length ≤ 5900000000000) && decide (x.f3.length ≤ 5900000000000)) = true then some l0 else none
theorem itab_copied.calls (A0 : Option Addr) (c0 : Nat) (l0 : List S30) (r : List S30) (w : World) (hr0 : Kd.C k30 w A0 l0.length l0) (hc0 : l0.length ≤ c0) (h : itab_copied.f l0 = some r) :
    Calls Try.prog 32 #[.slice A0 l0.length c0] w fun e w' => ∃ v0_ : Value, e = .returned v0_ ∧ Kd.S k30 30 w' w.heap.size (fun _ => True) v0_ r ∧ Below w.heap.size w w' := by
  unfold itab_copied.f at h
  split at h
  · rename_i hl
    obtain rfl := Option.some.inj h
    exact copied_calls A0 c0 l0 w hr0 hc0 hl.1 (fun x hx => by have := List.all_eq_true.1 hl.2 x hx; simpa using this)
  · cases h
end Go.Proofs.Ytgepphlkibnhdaa.PItab
