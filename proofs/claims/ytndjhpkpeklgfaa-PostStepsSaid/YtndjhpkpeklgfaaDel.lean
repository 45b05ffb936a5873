/- slices.Delete at letters: what is returned, and that nothing elder turns. -/
import Derived.Test.YtndjhpkpeklgfaaKinds
import Derived.Lib.LazyBuf
import Derived.Lib.Overlaps
import Derived.Laws.Externs
import Derived.Laws.NewBlocks
import Derived.Shelf.RegionOpenPlain
import Derived.Shelf.Spec.SlicesInsert
import Derived.WalkKit
import Derived.Lib.Hide
import Derived.Deep.RegionLaw
import Derived.Lib.Walk
namespace Go.Proofs.Ytndjhpkpeklgfaa.PPost
open Go Go.RowKit Go.Shelf Go.Proofs.YtndjhpkpeklgfaaW.PrintWords Go.Proofs.YtndjhpkpeklgfaaW.PrintLast Go.Proofs.YtndjhpkpeklgfaaW.PrintMore Go.Proofs.Ytndjhpkpeklgfaa.Sl
set_option linter.unusedVariables false
set_option linter.unusedSimpArgs false

def enc35 (x : S35) : List Value := [.int .i64 x.f0, .int .i64 x.f1, .int .i64 x.f2, .string x.f3]
theorem enc35_len (x : S35) : (enc35 x).length = 4 := rfl
theorem enc35_one (x : S35) : ∀ v ∈ enc35 x, v.oneCell' = true := by
  intro v hv
  simp only [enc35, List.mem_cons, List.not_mem_nil, or_false] at hv
  rcases hv with rfl | rfl | rfl | rfl <;> rfl
theorem k35_enc {w : World} {x : S35} {c : List Value} (h : k35.K w x c) : c = enc35 x := k35_open h
theorem k35_encM {w : World} {base : Nat} {ok : Nat → Prop} {x : S35} {c : List Value} (h : k35.M w base ok x c) : c = enc35 x := k35_openM h
/-- What a row of one's own holds, flat. -/
theorem own_flat {w : World} {base : Nat} {ok : Nat → Prop} {v : Value} {l : List S35} (h : Kd.R k35 35 w base ok v l) : w.ownsRow base 35 4 v l.length (l.flatMap enc35) := by
  obtain ⟨_, inner, ho, hr⟩ := h
  have := reps_flat (fun x c hx => k35_encM hx) enc35_len l inner hr
  rw [← this]; exact ho
theorem own_R {w : World} {base : Nat} {v : Value} {l : List S35} (h : w.ownsRow base 35 4 v l.length (l.flatMap enc35)) : Kd.R k35 35 w base (fun _ => True) v l :=
  ⟨fun _ _ => trivial, l.flatMap enc35, h, flat_reps (fun x => k35_mkM w base _ x) enc35_len l⟩

/-! ### Delete -/
set_option maxHeartbeats 8000000 in
set_option maxRecDepth 100000 in
theorem delete_calls (base : Nat) (v : Value) (l : List S35) (i j : Nat) (w : World) (hR : Kd.R k35 35 w base (fun _ => True) v l) (hij : i < j) (hi : j ≤ l.length) :
    Calls Try.prog 22 #[v, .int .i64 i, .int .i64 j] w fun e w' => ∃ v0_ : Value, e = .returned (v0_) ∧ Kd.R k35 35 w' base (fun _ => True) v0_ (l.take i ++ l.drop j) ∧ w.grownBy w' v.ownBlock ∧ (v0_.ownBlock = v.ownBlock ∨ ∃ b, v0_.ownBlock = some b ∧ w.heap.size ≤ b) := by
  obtain ⟨hlen, hown⟩ := own_flat hR
  rcases hown with ⟨_, h0⟩ | ⟨g, cap, cur, rfl, hg, hh, hn, hm, hs, ht⟩
  · omega
  have hm : cap ≤ 9223372036854775807 := hm
  have hcell : ∀ j u, (l.flatMap enc35)[j]? = some u → w.cell? ⟨g, j, none⟩ = some u := fun q u hj => by
    rw [cell_blk hh, ← Array.getElem?_toList]
    rw [← ht, List.getElem?_take] at hj
    split at hj
    · exact hj
    · cases hj
  have hone : ∀ u ∈ l.flatMap enc35, u.oneCell' = true := fun u hu => by obtain ⟨x, _, hx⟩ := List.mem_flatMap.1 hu; exact enc35_one x u hx
  obtain ⟨cs, hcs⟩ : ∃ cs, cs = l.flatMap enc35 := ⟨_, rfl⟩
  rw [← hcs] at hlen hcell hone ht
  obtain ⟨n, hnn⟩ : ∃ n, n = l.length := ⟨_, rfl⟩
  obtain ⟨i0, hi0, hz00⟩ := Option.map_eq_some_iff.1 info35
  simp only [Prod.mk.injEq] at hz00
  obtain ⟨hz0, hz1, hz2⟩ := hz00
  -- the cells that are moved to the left
  obtain ⟨news, hnews⟩ : ∃ news, news = cs.drop (j * 4) := ⟨_, rfl⟩
  have hnl : news.length = (n - j) * 4 := by rw [hnews, List.length_drop, hlen, ← hnn]; omega
  have hall : ∀ j, j < cap * 4 → (w.cell? ⟨g, j, none⟩).isSome = true := fun j hj => by rw [cell_blk hh, Array.getElem?_eq_getElem (by omega)]; rfl
  have hfz : ∀ j, w.frozen? ⟨g, j, none⟩ = false := fun j => frozen_blk hh j
  obtain ⟨A, hA, hsrc⟩ : ∃ A : Addr, (if cap = j then some (⟨g, 0, none⟩ : Addr) else some ⟨g, j * 4, none⟩) = some A ∧ Hid (∀ t u, news[t]? = some u → w.drew.cell? (A.add t) = some u) := by
    by_cases h : cap = j
    · refine ⟨⟨g, 0, none⟩, by simp [h], fun t u hu => ?_⟩
      have h0 : news.length = 0 := by rw [hnl]; omega
      rw [List.length_eq_zero_iff.1 h0] at hu
      simp at hu
    · refine ⟨⟨g, j * 4, none⟩, by simp [h], fun t u hu => ?_⟩
      rw [Addr.add_lit]
      rw [hnews, List.getElem?_drop] at hu
      exact hcell _ u hu
  have s1 : Hid (news.length = (n - j) * 4) := hnl
  have s2 : Hid (∀ u ∈ news, u.oneCell' = true) := fun u hu => hone u (by rw [hnews] at hu; exact List.mem_of_mem_drop hu)
  have s3 : Hid (∀ t, t < news.length → (w.drew.cell? ⟨g, 0 + i * 4 + t, none⟩).isSome = true ∧ w.drew.frozen? ⟨g, 0 + i * 4 + t, none⟩ = false) := fun t ht => by
    rw [hnl] at ht
    exact ⟨hall _ (by omega), hfz _⟩
  obtain ⟨W1, hW1⟩ : ∃ W1, W1 = w.drew.setCells g (0 + i * 4) news := ⟨_, rfl⟩
  have hh' : w.drew.heap[g]? = some (.cells cur 35 (0, 0)) := hh
  obtain ⟨cur1, hb1, hsz1⟩ : ∃ cur1, W1.heap[g]? = some (.cells cur1 35 (0, 0)) ∧ cur1.size = cur.size := by rw [hW1]; exact setCells_blk g news _ _ cur _ hh'
  have hcl0 : ∀ ty : TypeId, ∃ nz : List Value, nz.length = (n - (i + (n - j))) * 4 ∧ (Builtin.clear_ #[43] ty #[.slice (some ⟨g, (i + (n - j)) * 4, none⟩) (n - (i + (n - j))) (cap - (i + (n - j)))]).run Try.prog W1 = .ok (.tuple #[]) (W1.setCells g ((i + (n - j)) * 4) nz) := fun ty =>
    run_clear_sliceK W1 43 35 ty (.agg #[(.int .i64 0), (.int .i64 0), (.int .i64 0), (.string ⟨#[]⟩)]) 4 Try.underlying43 Try.zeroValue35 rfl (by decide) (by intro v hv; simp [Value.cells] at hv; rcases hv with rfl | rfl | rfl | rfl <;> rfl) g _ _ _ (by omega) (fun j hj => by rw [cell_blk hb1, Array.getElem?_eq_getElem (by rw [hsz1, hs]; omega)]; rfl) (fun j hj => frozen_blk hb1 _)
  obtain ⟨nz, hnz, hcl1⟩ : ∃ nz : List Value, nz.length = (n - (i + (n - j))) * 4 ∧ ∀ ty : TypeId, (Builtin.clear_ #[43] ty #[.slice (some ⟨g, (i + (n - j)) * 4, none⟩) (n - (i + (n - j))) (cap - (i + (n - j)))]).run Try.prog W1 = .ok (.tuple #[]) (W1.setCells g ((i + (n - j)) * 4) nz) := by
    obtain ⟨nz, h1, h2⟩ := hcl0 0
    exact ⟨nz, h1, fun ty => h2⟩
  have hfinal : Kd.R k35 35 (W1.setCells g ((i + (n - j)) * 4) nz) base (fun _ => True) (.slice (some ⟨g, 0, none⟩) (i + (n - j)) cap) (l.take i ++ l.drop j) ∧ w.grownBy (W1.setCells g ((i + (n - j)) * 4) nz) (some g) := by
    have hb2 := setCells_blk g nz ((i + (n - j)) * 4) W1 cur1 35 hb1
    obtain ⟨cur2, hb2, hsz2⟩ := hb2
    have hlr : (l.take i ++ l.drop j).length = i + (n - j) := by rw [List.length_append, List.length_take, List.length_drop]; omega
    refine ⟨own_R ?_, sl_grown _ _ (by rw [hW1]; exact sl_grown _ _ ⟨rfl, rfl, rfl, Nat.le_refl _, fun _ _ _ => rfl⟩ (.inl rfl)) (.inl rfl)⟩
    rw [hlr]
    refine own_cells hg hb2 (by omega) (by unfold maxLen; omega) (by rw [hsz2, hsz1, hs]) (by rw [flat_len enc35_len, hlr]) fun q u hj => ?_
    have hjl : q < (i + (n - j)) * 4 := by
      have := (List.getElem?_eq_some_iff.1 hj).1
      rwa [flat_len enc35_len, hlr] at this
    rw [World.cell?_setCells_out _ _ _ _ _ (fun _ _ => .inl hjl)]
    rw [List.flatMap_append, ← flat_take enc35_len, ← flat_drop enc35_len, ← hcs, ← hnews] at hj
    have htl : (cs.take (i * 4)).length = i * 4 := by rw [List.length_take]; omega
    rcases Nat.lt_or_ge q (i * 4) with hlt | hge
    · rw [List.getElem?_append_left (by omega), List.getElem?_take, if_pos hlt] at hj
      rw [hW1, World.cell?_setCells_out _ _ _ _ _ (fun _ _ => .inl (by show q < 0 + i * 4; omega))]
      exact hcell _ u hj
    · rw [List.getElem?_append_right (by omega), htl] at hj
      have hjn := (List.getElem?_eq_some_iff.1 hj).1
      have := World.cell?_setCells_in g news (0 + i * 4) w.drew (fun t ht => (s3.out t ht).1) (q - i * 4) hjn
      rw [hW1, show (⟨g, q, none⟩ : Addr) = ⟨g, 0 + i * 4 + (q - i * 4), none⟩ by congr 1; omega, this]
      exact (List.getElem?_eq_some_iff.1 hj).2 ▸ rfl
  have HF := Aside0.mk hfinal
  have hW : Hid (W1 = w.drew.setCells g (0 + i * 4) news) := hW1
  have hic : i ≤ cap := by omega
  have hjc : j ≤ cap := by omega
  have hjn : j ≤ n := by omega
  have mixed : Try.prog.follows .mixedOrders = true := by kernel_rfl
  have hnc : n ≤ cap := by omega

  rw [← hnn]
  clear hfinal hcl0 hW1 hb1 hsz1 hnews hnl hall hfz hcell hone ht hs hh hh' hcs hlen hn hR hi hnn hnz
  go_enter Try.func22, Try.ntmps22
  go_wp2_with fail
  go_region_law_o (refine step_append_room rfl (.tmp 22) (.tmp 25) 43 rfl 35 i0 4 Try.underlying43 hi0 hz1 g 0 i cap (by simp [Act.eval, Act.put]) A (n - j) (cap - j) news (by simp [Act.eval, Act.put, ← hA]) s1.out hsrc.out s2.out (by omega) s3.out ?_; rw [← hW.out])
  go_wp2
  go_ret
  exact ⟨_, rfl, HF.out.1, HF.out.2, .inl rfl⟩

end Go.Proofs.Ytndjhpkpeklgfaa.PPost
