/- slices.Clone, slices.Delete (one element) and slices.Insert (one element) at a struct of several flat cells, as this session proved them: what is returned, and that nothing elder turns. -/
import Derived.Lib.LazyBuf
import Derived.Lib.Overlaps
import Derived.Laws.Externs
import Derived.Laws.NewBlocks
import Derived.Shelf.RegionOpenPlain
import Derived.Shelf.Spec.SlicesInsert
import Derived.WalkKit
import Derived.Lib.Hide
import Derived.Deep.RegionLaw
import Derived.Lib.Walk
import Derived.Test.YtcclannanigecaaSl
import Derived.Test.YtcclannanigecaaPSeatx0
namespace Go.Proofs.Ytcclannanigecaa.PSeat
open Go Go.RowKit Go.Shelf Go.Proofs.YtcclannanigecaaW.PrintWords Go.Proofs.YtcclannanigecaaW.PrintLast Go.Proofs.YtcclannanigecaaW.PrintMore Go.Proofs.Ytcclannanigecaa.Sl
set_option linter.unusedVariables false
set_option linter.unusedSimpArgs false

def enc46 (x : S46) : List Value := [.int .i64 x.f0, .int .i64 x.f1, .string x.f2]
theorem enc46_len (x : S46) : (enc46 x).length = 3 := rfl
theorem enc46_one (x : S46) : ∀ v ∈ enc46 x, v.oneCell' = true := by
  intro v hv
  simp only [enc46, List.mem_cons, List.not_mem_nil, or_false] at hv
  rcases hv with rfl | rfl | rfl <;> rfl
theorem k46_enc {w : World} {x : S46} {c : List Value} (h : k46.K w x c) : c = enc46 x := k46_open h
theorem k46_encM {w : World} {base : Nat} {ok : Nat → Prop} {x : S46} {c : List Value} (h : k46.M w base ok x c) : c = enc46 x := k46_openM h
/-- What a row of one's own holds, flat. -/
theorem own_flat {w : World} {base : Nat} {ok : Nat → Prop} {v : Value} {l : List S46} (h : Kd.R k46 46 w base ok v l) : w.ownsRow base 46 3 v l.length (l.flatMap enc46) := by
  obtain ⟨_, inner, ho, hr⟩ := h
  have := reps_flat (fun x c hx => k46_encM hx) enc46_len l inner hr
  rw [← this]; exact ho
theorem own_R {w : World} {base : Nat} {v : Value} {l : List S46} (h : w.ownsRow base 46 3 v l.length (l.flatMap enc46)) : Kd.R k46 46 w base (fun _ => True) v l :=
  ⟨fun _ _ => trivial, l.flatMap enc46, h, flat_reps (fun x => k46_mkM w base _ x) enc46_len l⟩

/-! ### Clone -/
set_option maxHeartbeats 8000000 in
set_option maxRecDepth 100000 in
theorem clone_calls (A0 : Option Addr) (c0 : Nat) (l0 : List S46) (w : World) (hr0 : Kd.C k46 w A0 l0.length l0) (hc0 : l0.length ≤ c0) (hlim : l0.length ≤ 1000000000000) :
    Calls Try.prog 17 #[.slice A0 l0.length c0] w fun e w' => ∃ v0_ : Value, e = .returned (v0_) ∧ Kd.R k46 46 w' w.heap.size (fun _ => True) v0_ l0 ∧ Below w.heap.size w w' := by
  have hu46 := Try.underlying46
  have HR0 := Aside0.mk hr0
  have HC0 := Aside0.mk hc0
  have HL := Aside0.mk hlim
  clear hr0 hc0 hlim
  have HB := Aside0.mk (Below.refl w.heap.size w)
  cases A0 with
  | none =>
    have hq : ∀ W : World, (binOp .eql 22 (.slice none l0.length c0) (.slice none 0 0)).run Try.prog W = .ok (.bool true) W := fun W => Go.run_eql_slice_nil W 22 46 none l0.length c0 Try.underlying22
    go_enter Try.func17, Try.ntmps17
    go_wp2_with fail
    go_ret
    have hl : l0 = [] := by
      have := HR0.out.2.2
      cases l0 with
      | nil => rfl
      | cons a l => obtain ⟨ad, h, _⟩ := this (by simp); cases h
    subst hl
    exact ⟨_, rfl, Kd.R_nil _ _ _ _ _, HB.out⟩
  | some a0 =>
    have hq : ∀ W : World, (binOp .eql 22 (.slice (some a0) l0.length c0) (.slice none 0 0)).run Try.prog W = .ok (.bool false) W := fun W => Go.run_eql_slice_nil W 22 46 (some a0) l0.length c0 Try.underlying22
    have hE : Kd.R k46 46 (w.alloc (.cells #[] 46)) w.heap.size (fun _ => True) (.slice (some ⟨w.heap.size, 0, none⟩) 0 0) [] := ⟨fun _ _ => trivial, OwnRow.lit w w.heap.size (Reps.none _ _) (Nat.le_refl _) (by simp)⟩
    have hE' := Aside0.mk hE
    clear hE
    go_enter Try.func17, Try.ntmps17
    go_wp2_with (at_builtin; refine Kd.R_append_rows k46 (Rr := k46.K w) (w0 := w) w.heap.size rfl (.tmp 5) (.tmp 6) 22 46 (.agg #[(.int .i64 0), (.int .i64 0), (.string ⟨#[]⟩)]) 32 rfl Try.underlying22 info46 rfl (by decide) (by decide) _ [] l0 (some a0) l0.length c0 (fun _ => True) (fun _ => False) rfl rfl hE'.out (HR0.out.imp_ (below_alloc HB.out _) (fun _ _ h => h)) (fun x cs h => by obtain rfl := k46_open h; exact k46_mkM _ _ _ _) (fun _ h => h.elim) (fun _ _ => trivial) (below_alloc HB.out _) (by simp) (by have := HL.out; simp; omega) ?_; intro v1 w1 hR1 hB1 _ _; rw [List.nil_append] at hR1; have HR1 := Aside0.mk hR1; have HB1 := Aside0.mk hB1; clear hR1 hB1; obtain ⟨A1, c1, rfl⟩ := Kd.R_slice HR1.out)
    go_ret
    exact ⟨_, rfl, HR1.out, HB1.out⟩

/-! ### Delete -/
set_option maxHeartbeats 8000000 in
set_option maxRecDepth 100000 in
theorem delete_calls (base : Nat) (v : Value) (l : List S46) (i j : Nat) (w : World) (hR : Kd.R k46 46 w base (fun _ => True) v l) (hij : i < j) (hi : j ≤ l.length) :
    Calls Try.prog 22 #[v, .int .i64 i, .int .i64 j] w fun e w' => ∃ v0_ : Value, e = .returned (v0_) ∧ Kd.R k46 46 w' base (fun _ => True) v0_ (l.take i ++ l.drop j) ∧ w.grownBy w' v.ownBlock ∧ (v0_.ownBlock = v.ownBlock ∨ ∃ b, v0_.ownBlock = some b ∧ w.heap.size ≤ b) := by
  obtain ⟨hlen, hown⟩ := own_flat hR
  rcases hown with ⟨_, h0⟩ | ⟨g, cap, cur, rfl, hg, hh, hn, hm, hs, ht⟩
  · omega
  have hm : cap ≤ 9223372036854775807 := hm
  have hcell : ∀ j u, (l.flatMap enc46)[j]? = some u → w.cell? ⟨g, j, none⟩ = some u := fun q u hj => by
    rw [cell_blk hh, ← Array.getElem?_toList]
    rw [← ht, List.getElem?_take] at hj
    split at hj
    · exact hj
    · cases hj
  have hone : ∀ u ∈ l.flatMap enc46, u.oneCell' = true := fun u hu => by obtain ⟨x, _, hx⟩ := List.mem_flatMap.1 hu; exact enc46_one x u hx
  obtain ⟨cs, hcs⟩ : ∃ cs, cs = l.flatMap enc46 := ⟨_, rfl⟩
  rw [← hcs] at hlen hcell hone ht
  obtain ⟨n, hnn⟩ : ∃ n, n = l.length := ⟨_, rfl⟩
  obtain ⟨i0, hi0, hz00⟩ := Option.map_eq_some_iff.1 info46
  simp only [Prod.mk.injEq] at hz00
  obtain ⟨hz0, hz1, hz2⟩ := hz00
  -- the cells that are moved to the left
  obtain ⟨news, hnews⟩ : ∃ news, news = cs.drop (j * 3) := ⟨_, rfl⟩
  have hnl : news.length = (n - j) * 3 := by rw [hnews, List.length_drop, hlen, ← hnn]; omega
  have hall : ∀ j, j < cap * 3 → (w.cell? ⟨g, j, none⟩).isSome = true := fun j hj => by rw [cell_blk hh, Array.getElem?_eq_getElem (by omega)]; rfl
  have hfz : ∀ j, w.frozen? ⟨g, j, none⟩ = false := fun j => frozen_blk hh j
  obtain ⟨A, hA, hsrc⟩ : ∃ A : Addr, (if cap = j then some (⟨g, 0, none⟩ : Addr) else some ⟨g, j * 3, none⟩) = some A ∧ Hid (∀ t u, news[t]? = some u → w.drew.cell? (A.add t) = some u) := by
    by_cases h : cap = j
    · refine ⟨⟨g, 0, none⟩, by simp [h], fun t u hu => ?_⟩
      have h0 : news.length = 0 := by rw [hnl]; omega
      rw [List.length_eq_zero_iff.1 h0] at hu
      simp at hu
    · refine ⟨⟨g, j * 3, none⟩, by simp [h], fun t u hu => ?_⟩
      rw [Addr.add_lit]
      rw [hnews, List.getElem?_drop] at hu
      exact hcell _ u hu
  have s1 : Hid (news.length = (n - j) * 3) := hnl
  have s2 : Hid (∀ u ∈ news, u.oneCell' = true) := fun u hu => hone u (by rw [hnews] at hu; exact List.mem_of_mem_drop hu)
  have s3 : Hid (∀ t, t < news.length → (w.drew.cell? ⟨g, 0 + i * 3 + t, none⟩).isSome = true ∧ w.drew.frozen? ⟨g, 0 + i * 3 + t, none⟩ = false) := fun t ht => by
    rw [hnl] at ht
    exact ⟨hall _ (by omega), hfz _⟩
  obtain ⟨W1, hW1⟩ : ∃ W1, W1 = w.drew.setCells g (0 + i * 3) news := ⟨_, rfl⟩
  have hh' : w.drew.heap[g]? = some (.cells cur 46 (0, 0)) := hh
  obtain ⟨cur1, hb1, hsz1⟩ : ∃ cur1, W1.heap[g]? = some (.cells cur1 46 (0, 0)) ∧ cur1.size = cur.size := by rw [hW1]; exact setCells_blk g news _ _ cur _ hh'
  have hcl0 : ∀ ty : TypeId, ∃ nz : List Value, nz.length = (n - (i + (n - j))) * 3 ∧ (Builtin.clear_ #[22] ty #[.slice (some ⟨g, (i + (n - j)) * 3, none⟩) (n - (i + (n - j))) (cap - (i + (n - j)))]).run Try.prog W1 = .ok (.tuple #[]) (W1.setCells g ((i + (n - j)) * 3) nz) := fun ty =>
    run_clear_sliceK W1 22 46 ty (.agg #[(.int .i64 0), (.int .i64 0), (.string ⟨#[]⟩)]) 3 Try.underlying22 Try.zeroValue46 rfl (by decide) (by intro v hv; simp [Value.cells] at hv; rcases hv with rfl | rfl | rfl <;> rfl) g _ _ _ (by omega) (fun j hj => by rw [cell_blk hb1, Array.getElem?_eq_getElem (by rw [hsz1, hs]; omega)]; rfl) (fun j hj => frozen_blk hb1 _)
  obtain ⟨nz, hnz, hcl1⟩ : ∃ nz : List Value, nz.length = (n - (i + (n - j))) * 3 ∧ ∀ ty : TypeId, (Builtin.clear_ #[22] ty #[.slice (some ⟨g, (i + (n - j)) * 3, none⟩) (n - (i + (n - j))) (cap - (i + (n - j)))]).run Try.prog W1 = .ok (.tuple #[]) (W1.setCells g ((i + (n - j)) * 3) nz) := by
    obtain ⟨nz, h1, h2⟩ := hcl0 0
    exact ⟨nz, h1, fun ty => h2⟩
  have hfinal : Kd.R k46 46 (W1.setCells g ((i + (n - j)) * 3) nz) base (fun _ => True) (.slice (some ⟨g, 0, none⟩) (i + (n - j)) cap) (l.take i ++ l.drop j) ∧ w.grownBy (W1.setCells g ((i + (n - j)) * 3) nz) (some g) := by
    have hb2 := setCells_blk g nz ((i + (n - j)) * 3) W1 cur1 46 hb1
    obtain ⟨cur2, hb2, hsz2⟩ := hb2
    have hlr : (l.take i ++ l.drop j).length = i + (n - j) := by rw [List.length_append, List.length_take, List.length_drop]; omega
    refine ⟨own_R ?_, sl_grown _ _ (by rw [hW1]; exact sl_grown _ _ ⟨rfl, rfl, rfl, Nat.le_refl _, fun _ _ _ => rfl⟩ (.inl rfl)) (.inl rfl)⟩
    rw [hlr]
    refine own_cells hg hb2 (by omega) (by unfold maxLen; omega) (by rw [hsz2, hsz1, hs]) (by rw [flat_len enc46_len, hlr]) fun q u hj => ?_
    have hjl : q < (i + (n - j)) * 3 := by
      have := (List.getElem?_eq_some_iff.1 hj).1
      rwa [flat_len enc46_len, hlr] at this
    rw [World.cell?_setCells_out _ _ _ _ _ (fun _ _ => .inl hjl)]
    rw [List.flatMap_append, ← flat_take enc46_len, ← flat_drop enc46_len, ← hcs, ← hnews] at hj
    have htl : (cs.take (i * 3)).length = i * 3 := by rw [List.length_take]; omega
    rcases Nat.lt_or_ge q (i * 3) with hlt | hge
    · rw [List.getElem?_append_left (by omega), List.getElem?_take, if_pos hlt] at hj
      rw [hW1, World.cell?_setCells_out _ _ _ _ _ (fun _ _ => .inl (by show q < 0 + i * 3; omega))]
      exact hcell _ u hj
    · rw [List.getElem?_append_right (by omega), htl] at hj
      have hjn := (List.getElem?_eq_some_iff.1 hj).1
      have := World.cell?_setCells_in g news (0 + i * 3) w.drew (fun t ht => (s3.out t ht).1) (q - i * 3) hjn
      rw [hW1, show (⟨g, q, none⟩ : Addr) = ⟨g, 0 + i * 3 + (q - i * 3), none⟩ by congr 1; omega, this]
      exact (List.getElem?_eq_some_iff.1 hj).2 ▸ rfl
  have HF := Aside0.mk hfinal
  have hW : Hid (W1 = w.drew.setCells g (0 + i * 3) news) := hW1
  have hic : i ≤ cap := by omega
  have hjc : j ≤ cap := by omega
  have hjn : j ≤ n := by omega
  have mixed : Try.prog.follows .mixedOrders = true := by kernel_rfl
  have hnc : n ≤ cap := by omega

  rw [← hnn]
  clear hfinal hcl0 hW1 hb1 hsz1 hnews hnl hall hfz hcell hone ht hs hh hh' hcs hlen hn hR hi hnn hnz
  go_enter Try.func22, Try.ntmps22
  go_wp2_with fail
  go_region_law_o (refine step_append_room rfl (.tmp 22) (.tmp 25) 22 rfl 46 i0 3 Try.underlying22 hi0 hz1 g 0 i cap (by simp [Act.eval, Act.put]) A (n - j) (cap - j) news (by simp [Act.eval, Act.put, ← hA]) s1.out hsrc.out s2.out (by omega) s3.out ?_; rw [← hW.out])
  go_wp2
  go_ret
  exact ⟨_, rfl, HF.out.1, HF.out.2, .inl rfl⟩

/-! ### Insert -/
set_option maxHeartbeats 8000000 in
set_option maxRecDepth 100000 in
theorem insert_end (base : Nat) (v : Value) (l : List S46) (x : S46) (vb vc : Nat) (xc : Array Value) (w : World) (hR : Kd.R k46 46 w base (fun _ => True) v l) (hbase : base ≤ w.heap.size) (hx : w.heap[vb]? = some (.cells xc 46 (0, 0))) (hxs : xc.size = vc * 3) (hvc : 1 ≤ vc) (hxc : ∀ (j : Nat) (u : Value), (enc46 x)[j]? = some u → xc[j]? = some u) (hlim : l.length ≤ 1000000000000) :
    Calls Try.prog 19 #[v, .int .i64 l.length, .slice (some ⟨vb, 0, none⟩) 1 vc] w fun e w' => ∃ v0_ : Value, e = .returned (v0_) ∧ Kd.R k46 46 w' base (fun _ => True) v0_ (l ++ [x]) ∧ w.grownBy w' v.ownBlock ∧ (v0_.ownBlock = v.ownBlock ∨ ∃ b, v0_.ownBlock = some b ∧ w.heap.size ≤ b) := by
  obtain ⟨A, c, rfl⟩ := Kd.R_slice hR
  obtain ⟨_, hnc, _⟩ := Kd.R_reads' hR
  have HC : Hid (Kd.C k46 w (some ⟨vb, 0, none⟩) 1 [x]) := by
    refine ⟨rfl, by decide, fun _ => ⟨⟨vb, 0, none⟩, rfl, fun j p hp => ?_⟩⟩
    cases j with
    | zero =>
      obtain rfl : x = p := by simpa using hp
      refine ⟨enc46 x, rfl, k46_mk w x, fun q u hu => ?_⟩
      rw [Addr.add_lit, cell_blk hx]
      exact hxc _ _ (by simpa using hu)
    | succ j => simp at hp
  have HR := Aside0.mk hR
  have HL := Aside0.mk hlim
  have HBs := Aside0.mk hbase
  have hr1 : (0 : Int) ≤ (l.length : Int) := by omega
  clear hR hlim hbase hx hxs hxc
  have HB := Aside0.mk (Below.refl base w)
  cases A with
  | none =>
    obtain rfl : l = [] := by
      have := (Kd.R_reads' HR.out).2.2.2.2
      cases l with
      | nil => rfl
      | cons a l => obtain ⟨ad, h, _⟩ := this (by simp); cases h
    go_enter Try.func19, Try.ntmps19
    go_wp2_with (at_builtin; refine Kd.R_append_rows k46 (Rr := k46.K w) (w0 := w) base rfl (.tmp 23) (.tmp 24) 22 46 (.agg #[(.int .i64 0), (.int .i64 0), (.string ⟨#[]⟩)]) 32 rfl Try.underlying22 info46 rfl (by decide) (by decide) _ _ [x] (some ⟨vb, 0, none⟩) 1 vc (fun _ => True) (fun _ => False) rfl rfl HR.out HC.out (fun x cs h => by obtain rfl := k46_open h; exact k46_mkM _ _ _ _) (fun _ h => h.elim) (fun _ _ => trivial) HB.out HBs.out (by have := HL.out; omega) ?_; intro v1 w1 hR1 hB1 hg1 ho1; have HR1 := Aside0.mk hR1; have HG1 := Aside0.mk hg1; have HO1 := Aside0.mk ho1; clear hR1 hB1 hg1 ho1; obtain ⟨A1, c1, rfl⟩ := Kd.R_slice HR1.out)
    go_ret
    exact ⟨_, rfl, HR1.out, HG1.out, HO1.out⟩
  | some ad =>
    obtain ⟨g, rfl⟩ := Kd.R_head HR.out
    go_enter Try.func19, Try.ntmps19
    go_wp2_with (at_builtin; refine Kd.R_append_rows k46 (Rr := k46.K w) (w0 := w) base rfl (.tmp 23) (.tmp 24) 22 46 (.agg #[(.int .i64 0), (.int .i64 0), (.string ⟨#[]⟩)]) 32 rfl Try.underlying22 info46 rfl (by decide) (by decide) _ _ [x] (some ⟨vb, 0, none⟩) 1 vc (fun _ => True) (fun _ => False) rfl rfl HR.out HC.out (fun x cs h => by obtain rfl := k46_open h; exact k46_mkM _ _ _ _) (fun _ h => h.elim) (fun _ _ => trivial) HB.out HBs.out (by have := HL.out; omega) ?_; intro v1 w1 hR1 hB1 hg1 ho1; have HR1 := Aside0.mk hR1; have HG1 := Aside0.mk hg1; have HO1 := Aside0.mk ho1; clear hR1 hB1 hg1 ho1; obtain ⟨A1, c1, rfl⟩ := Kd.R_slice HR1.out)
    all_goals (go_ret; exact ⟨_, rfl, by have hq := HR1.out; rw [List.length_append] at hq; exact hq, HG1.out, by have hq := HO1.out; rw [List.length_append] at hq; exact hq⟩)

theorem lt_of_blk {w : World} {g : Nat} {o : Obj} (h : w.heap[g]? = some o) : g < w.heap.size := (Array.getElem?_eq_some_iff.1 h).1
set_option maxHeartbeats 8000000 in
set_option maxRecDepth 100000 in
/-- There is room, and the place lies ahead of the end: in place. -/
theorem insert_room (base : Nat) (g cap : Nat) (l : List S46) (x : S46) (i vb vc : Nat) (xc : Array Value) (w : World) (hR : Kd.R k46 46 w base (fun _ => True) (.slice (some ⟨g, 0, none⟩) l.length cap) l) (hi : i < l.length) (hroom : l.length + 1 ≤ cap)
    (hx : w.heap[vb]? = some (.cells xc 46 (0, 0))) (hxs : xc.size = vc * 3) (hvc : 1 ≤ vc) (hxc : ∀ (j : Nat) (u : Value), (enc46 x)[j]? = some u → xc[j]? = some u) (hne : vb ≠ g) :
    Calls Try.prog 19 #[.slice (some ⟨g, 0, none⟩) l.length cap, .int .i64 i, .slice (some ⟨vb, 0, none⟩) 1 vc] w fun e w' => ∃ v0_ : Value, e = .returned (v0_) ∧ Kd.R k46 46 w' base (fun _ => True) v0_ (l.take i ++ x :: l.drop i) ∧ w.grownBy w' (some g) ∧ (v0_.ownBlock = some g ∨ ∃ b, v0_.ownBlock = some b ∧ w.heap.size ≤ b) := by
  obtain ⟨hlen, hown⟩ := own_flat hR
  rcases hown with ⟨h0, _⟩ | ⟨g', cap', cur, hv, hg, hh, hn, hm, hs, ht⟩
  · cases h0
  obtain ⟨rfl, rfl⟩ : g = g' ∧ cap = cap' := by injection hv with h1 _ h2; injection h1 with h1; injection h1 with h1; exact ⟨h1, h2⟩
  clear hv
  have hm : cap ≤ 9223372036854775807 := hm
  have hcell : ∀ j u, (l.flatMap enc46)[j]? = some u → w.cell? ⟨g, j, none⟩ = some u := fun q u hj => by
    rw [cell_blk hh, ← Array.getElem?_toList]
    rw [← ht, List.getElem?_take] at hj
    split at hj
    · exact hj
    · cases hj
  have hone : ∀ u ∈ l.flatMap enc46, u.oneCell' = true := fun u hu => by obtain ⟨x, _, hx⟩ := List.mem_flatMap.1 hu; exact enc46_one x u hx
  obtain ⟨cs, hcs⟩ : ∃ cs, cs = l.flatMap enc46 := ⟨_, rfl⟩
  rw [← hcs] at hlen hcell hone ht
  obtain ⟨n, hnn⟩ : ∃ n, n = l.length := ⟨_, rfl⟩
  have hsz : (Try.prog.info? 46).map (·.size) = some 3 := by
    obtain ⟨i0, hi0, hz00⟩ := Option.map_eq_some_iff.1 info46
    simp only [Prod.mk.injEq] at hz00
    rw [hi0]; simp [hz00.2.1]
  have hall : ∀ j, j < cap * 3 → (w.cell? ⟨g, j, none⟩).isSome = true := fun j hj => by rw [cell_blk hh, Array.getElem?_eq_getElem (by omega)]; rfl
  have hfz : ∀ j, w.frozen? ⟨g, j, none⟩ = false := fun j => frozen_blk hh j
  rw [← hnn] at hlen hn hroom hi ht ⊢
  have hdl : (cs.drop (i * 3)).length = (n - i) * 3 := by rw [List.length_drop, hlen]; omega
  have hsA : w.shape? vb = some (46, vc * 3) := by simp [World.shape?, hx, hxs]
  have hsB : w.shape? g = some (46, cap * 3) := by simp [World.shape?, hh, hs]
  have hov : ∀ lb cb, (callFunc 26 #[.slice (some ⟨vb, 0, none⟩) 1 vc, .slice (some ⟨g, (i + 1) * 3, none⟩) lb cb]).run Try.prog w = .ok (.value (.bool false)) w := fun lb cb => by
    rw [run_callFunc_extern Try.func26 (by kernel_rfl) (by kernel_rfl) (by kernel_rfl) (e := Extern.SlicesOverlaps.overlaps #[22, 22] #[4]) (by kernel_rfl),
      Lib.run_overlaps_apart w 22 4 46 Try.underlying22 3 Try.sizeOf46 ⟨vb, 0, none⟩ ⟨g, (i + 1) * 3, none⟩ 1 vc lb cb hne 46 46 (vc * 3) (cap * 3) hsA hsB (by omega) (frozen_blk hx _) (frozen_blk hx _)]
    rfl
  have hcp1 : ∀ ty dc sc, (Builtin.copy_ #[22, 22] ty #[.slice (some ⟨g, (i + 1) * 3, none⟩) (n - i) dc, .slice (some ⟨g, i * 3, none⟩) (n + 1 - i) sc]).run Try.prog w.drew = .ok (goInt (Nat.min (n + 1 - i) (n - i) : Nat)) (w.drew.setCells g ((i + 1) * 3) (cs.drop (i * 3))) := fun ty dc sc =>
    run_copy_cellsK w.drew _ _ ty 46 3 g ((i + 1) * 3) (n - i) dc ⟨g, i * 3, none⟩ (n + 1 - i) sc (cs.drop (i * 3)) Try.underlying22 hsz (by rw [hdl]; congr 1; simp only [Nat.min_def]; split <;> omega)
      (fun j v hj => by rw [Addr.add_lit]; exact hcell (i * 3 + j) v (by rwa [List.getElem?_drop] at hj))
      (fun j hj => by rw [hdl] at hj; exact hall _ (by omega)) (fun j hj => hfz _) (fun v hv => hone v (List.mem_of_mem_drop hv))
  obtain ⟨W1, hW1⟩ : ∃ W1, W1 = w.drew.setCells g ((i + 1) * 3) (cs.drop (i * 3)) := ⟨_, rfl⟩
  rw [← hW1] at hcp1
  have hh' : w.drew.heap[g]? = some (.cells cur 46 (0, 0)) := hh
  obtain ⟨cur1, hb1, hsz1⟩ : ∃ cur1, W1.heap[g]? = some (.cells cur1 46 (0, 0)) ∧ cur1.size = cur.size := by rw [hW1]; exact setCells_blk g _ _ _ cur _ hh'
  have hcp2 : ∀ (W : World), (∀ x, W.cell? x = W1.cell? x) → (∀ x, W.frozen? x = W1.frozen? x) → ∀ ty dc, (Builtin.copy_ #[22, 22] ty #[.slice (some ⟨g, i * 3, none⟩) (n + 1 - i) dc, .slice (some ⟨vb, 0, none⟩) 1 vc]).run Try.prog W = .ok (goInt (Nat.min 1 (n + 1 - i) : Nat)) (W.setCells g (i * 3) (enc46 x)) := fun W hWc hWf ty dc =>
    run_copy_cellsK W _ _ ty 46 3 g (i * 3) (n + 1 - i) dc ⟨vb, 0, none⟩ 1 vc (enc46 x) Try.underlying22 hsz (by rw [enc46_len, show Nat.min 1 (n + 1 - i) = 1 by simp only [Nat.min_def]; split <;> omega])
      (fun j v hj => by
        rw [Addr.add_lit, hWc, hW1, World.cell?_setCells_out g _ _ _ _ (fun h _ => absurd h hne)]
        show w.cell? _ = _
        rw [cell_blk hx, Nat.zero_add]; exact hxc j v hj)
      (fun j hj => by rw [enc46_len] at hj; rw [hWc, cell_blk hb1, Array.getElem?_eq_getElem (by rw [hsz1, hs]; omega)]; rfl) (fun j hj => by rw [hWf]; exact frozen_blk hb1 _) (enc46_one x)
  have hfinal : ∀ W2 : World, W2.heap = W1.heap → W2.os = W1.os → W2.tape = W1.tape → W2.output = W1.output → Kd.R k46 46 (W2.setCells g (i * 3) (enc46 x)) base (fun _ => True) (.slice (some ⟨g, 0, none⟩) (n + 1) cap) (l.take i ++ x :: l.drop i) ∧ w.grownBy (W2.setCells g (i * 3) (enc46 x)) (some g) := fun W2 e1 e2 e3 e4 => by
    have hBW1 : w.grownBy W1 (some g) := by rw [hW1]; exact sl_grown _ _ ⟨rfl, rfl, rfl, Nat.le_refl _, fun _ _ _ => rfl⟩ (.inl rfl)
    have hBW : w.grownBy W2 (some g) := ⟨e2.trans hBW1.os, e3.trans hBW1.tape, e4.trans hBW1.output, by rw [e1]; exact hBW1.size, fun k hk hn => by rw [e1]; exact hBW1.block k hk hn⟩
    have hbW : W2.heap[g]? = some (.cells cur1 46 (0, 0)) := by rw [e1]; exact hb1
    have hcW : ∀ a, W2.cell? a = W1.cell? a := fun a => by simp [World.cell?, e1]
    obtain ⟨cur2, hb2, hsz2⟩ := setCells_blk g (enc46 x) (i * 3) W2 cur1 46 hbW
    have hlr : (l.take i ++ x :: l.drop i).length = n + 1 := by rw [List.length_append, List.length_take, List.length_cons, List.length_drop]; omega
    refine ⟨own_R ?_, sl_grown _ _ hBW (.inl rfl)⟩
    rw [hlr]
    refine own_cells hg hb2 hroom (by unfold maxLen; omega) (by rw [hsz2, hsz1, hs]) (by rw [flat_len enc46_len, hlr]) fun q u hj => ?_
    have hjl : q < (n + 1) * 3 := by
      have := (List.getElem?_eq_some_iff.1 hj).1
      rwa [flat_len enc46_len, hlr] at this
    rw [List.flatMap_append, List.flatMap_cons, ← flat_take enc46_len, ← flat_drop enc46_len, ← hcs] at hj
    have htl : (cs.take (i * 3)).length = i * 3 := by rw [List.length_take]; omega
    rcases Nat.lt_or_ge q (i * 3) with hlt | hge
    · rw [List.getElem?_append_left (by omega), List.getElem?_take, if_pos hlt] at hj
      rw [World.cell?_setCells_out _ _ _ _ _ (fun _ _ => .inl hlt), hcW, hW1, World.cell?_setCells_out _ _ _ _ _ (fun _ _ => .inl (by show q < (i + 1) * 3; omega))]
      exact hcell _ u hj
    · rw [List.getElem?_append_right (by omega), htl] at hj
      rcases Nat.lt_or_ge (q - i * 3) 3 with hlt2 | hge2
      · rw [List.getElem?_append_left (by rw [enc46_len]; exact hlt2)] at hj
        have hjn := (List.getElem?_eq_some_iff.1 hj).1
        have := World.cell?_setCells_in g (enc46 x) (i * 3) W2 (fun t ht => by rw [enc46_len] at ht; rw [cell_blk hbW, Array.getElem?_eq_getElem (by rw [hsz1, hs]; omega)]; rfl) (q - i * 3) hjn
        rw [show (⟨g, q, none⟩ : Addr) = ⟨g, i * 3 + (q - i * 3), none⟩ by congr 1; omega, this]
        exact (List.getElem?_eq_some_iff.1 hj).2 ▸ rfl
      · rw [List.getElem?_append_right (by rw [enc46_len]; exact hge2), enc46_len] at hj
        have hjn := (List.getElem?_eq_some_iff.1 hj).1
        rw [World.cell?_setCells_out _ _ _ _ _ (fun _ _ => .inr (by show i * 3 + 3 ≤ q; omega)), hcW]
        have := World.cell?_setCells_in g (cs.drop (i * 3)) ((i + 1) * 3) w.drew (fun t ht => by rw [hdl] at ht; exact hall _ (by omega)) (q - i * 3 - 3) hjn
        rw [hW1, show (⟨g, q, none⟩ : Addr) = ⟨g, (i + 1) * 3 + (q - i * 3 - 3), none⟩ by congr 1; omega, this]
        exact (List.getElem?_eq_some_iff.1 hj).2 ▸ rfl
  have HF := Aside0.mk hfinal
  have HCP2 := Aside0.mk hcp2
  have hz2 : ¬ ((i : Int) = (n : Int)) := by omega
  have hz3 : ¬ ((cap : Int) < (n : Int) + 1) := by omega
  have hw1 : IntKind.i64.wrap ((i : Int) + 1) = (i : Int) + 1 := by rw [IntKind.wrap_i64]; omega
  have hw2 : IntKind.i64.wrap ((n : Int) + 1) = (n : Int) + 1 := by rw [IntKind.wrap_i64]; omega
  have hb1 : (0 : Int) ≤ (i : Int) + 1 := by omega
  have hin : i ≤ n := by omega
  have htn : ((i : Int) + 1).toNat = i + 1 := by omega
  have hb2 : ¬ (cap = i + 1) := by omega
  have hb3 : (i : Int) ≤ (n : Int) + 1 := by omega
  have hb4 : ¬ (cap = i) := by omega
  have mixed : Try.prog.follows .mixedOrders = true := by kernel_rfl
  have HW1 : Hid (W1 = w.drew.setCells g ((i + 1) * 3) (cs.drop (i * 3))) := hW1
  clear hfinal hcp2 hsz1 hall hfz hcell hone ht hs hh hh' hlen hR hnn hdl hW1 hcs hsA hsB hx hxs hxc
  go_enter Try.func19, Try.ntmps19
  go_wp2_with (simp only [hov])
  go_region_law_o (refine step_copy_runI rfl _ _ 22 22 rfl _ _ (by simp [Act.eval, Act.put]) (by simp [Act.eval, Act.put]) (hcp1 _ _ _) ?_)
  have hcp3 := HCP2.out W1 (fun _ => rfl) (fun _ => rfl)
  go_wp2
  go_ret
  have hf := HF.out W1 rfl rfl rfl rfl
  exact ⟨_, rfl, hf.1, hf.2, .inl rfl⟩

set_option maxHeartbeats 8000000 in
set_option maxRecDepth 100000 in
/-- There is no room, and the place lies ahead of the end: a new row. -/
theorem insert_grow (base : Nat) (g cap : Nat) (l : List S46) (x : S46) (i vb vc : Nat) (xc : Array Value) (w : World) (hR : Kd.R k46 46 w base (fun _ => True) (.slice (some ⟨g, 0, none⟩) l.length cap) l) (hbase : base ≤ w.heap.size) (hi : i < l.length) (hroom : cap < l.length + 1) (hlim : l.length ≤ 1000000000000)
    (hx : w.heap[vb]? = some (.cells xc 46 (0, 0))) (hxs : xc.size = vc * 3) (hvc : 1 ≤ vc) (hxc : ∀ (j : Nat) (u : Value), (enc46 x)[j]? = some u → xc[j]? = some u) :
    Calls Try.prog 19 #[.slice (some ⟨g, 0, none⟩) l.length cap, .int .i64 i, .slice (some ⟨vb, 0, none⟩) 1 vc] w fun e w' => ∃ v0_ : Value, e = .returned (v0_) ∧ Kd.R k46 46 w' base (fun _ => True) v0_ (l.take i ++ x :: l.drop i) ∧ w.grownBy w' (some g) ∧ (v0_.ownBlock = some g ∨ ∃ b, v0_.ownBlock = some b ∧ w.heap.size ≤ b) := by
  obtain ⟨hlen, hown⟩ := own_flat hR
  rcases hown with ⟨h0, _⟩ | ⟨g', cap', cur, hv, hg, hh, hn, hm, hs, ht⟩
  · cases h0
  obtain ⟨rfl, rfl⟩ : g = g' ∧ cap = cap' := by injection hv with h1 _ h2; injection h1 with h1; injection h1 with h1; exact ⟨h1, h2⟩
  clear hv
  have hm : cap ≤ 9223372036854775807 := hm
  have hcell : ∀ j u, (l.flatMap enc46)[j]? = some u → w.cell? ⟨g, j, none⟩ = some u := fun q u hj => by
    rw [cell_blk hh, ← Array.getElem?_toList]
    rw [← ht, List.getElem?_take] at hj
    split at hj
    · exact hj
    · cases hj
  have hone : ∀ u ∈ l.flatMap enc46, u.oneCell' = true := fun u hu => by obtain ⟨x, _, hx⟩ := List.mem_flatMap.1 hu; exact enc46_one x u hx
  obtain ⟨cs, hcs⟩ : ∃ cs, cs = l.flatMap enc46 := ⟨_, rfl⟩
  rw [← hcs] at hlen hcell hone ht
  obtain ⟨n, hnn⟩ : ∃ n, n = l.length := ⟨_, rfl⟩
  obtain ⟨i0, hi0, hz00⟩ := Option.map_eq_some_iff.1 info46
  simp only [Prod.mk.injEq] at hz00
  obtain ⟨hz0, hzs, hzb⟩ := hz00
  have hsz : (Try.prog.info? 46).map (·.size) = some 3 := by rw [hi0]; simp [hzs]
  rw [← hnn] at hlen hn hroom hi ht hlim ⊢
  have hdl : (cs.drop (i * 3)).length = (n - i) * 3 := by rw [List.length_drop, hlen]; omega
  have htl : (cs.take (i * 3)).length = i * 3 := by rw [List.length_take]; omega
  have hgw : g < w.heap.size := lt_of_blk hh
  have hvw : vb < w.heap.size := lt_of_blk hx
  have hkk : (n : Int) + 1 - (i : Int) = ((n + 1 - i : Nat) : Int) := by omega
  have hik : i + (n + 1 - i) = n + 1 := by omega
  have hold : (Builtin.firstCells i0.size i (.slice (some ⟨g, 0, none⟩) i cap)).run Try.prog w.drew = .ok (cs.take (i * 3)).toArray w.drew := by
    rw [hzs]
    exact run_firstCells_some w.drew 3 i ⟨g, 0, none⟩ i cap (cs.take (i * 3)) htl (fun j v hj => by
      rw [Addr.add_lit, Nat.zero_add]
      rw [List.getElem?_take] at hj
      split at hj
      · exact hcell j v hj
      · cases hj)
  have hrz : ∀ ty, (Builtin.append_ #[22, 3] ty #[.slice (some ⟨g, 0, none⟩) i cap, .int .i64 ((n : Int) + 1 - (i : Int))]).run Try.prog w =
      .ok (.slice (some ⟨w.heap.size, 0, none⟩) (n + 1) (grownCap w (n + 1) cap 46)) (w.drew.alloc (.cells ((cs.take (i * 3)).toArray ++ Builtin.zeroCells (Value.cells (.agg #[(.int .i64 0), (.int .i64 0), (.string ⟨#[]⟩)])) (n + 1 - i) ++ Builtin.zeroCells (Value.cells (.agg #[(.int .i64 0), (.int .i64 0), (.string ⟨#[]⟩)])) (grownCap w (n + 1) cap 46 - (n + 1))) 46)) := fun ty => by
    have h := Lib.run_append_grow_zeros w 22 3 ty 46 i0 _ .i64 .i64 Try.underlying22 Try.underlying3 hi0 hz0 (some ⟨g, 0, none⟩) i cap (cs.take (i * 3)) hold (n + 1 - i) (by omega) (by omega) (by omega) (by omega) (by rw [hzb]; omega) (by rw [hzb, hik]; exact growslice_fits hroom (by omega))
    rw [hik] at h
    rw [hkk]
    exact h
  obtain ⟨G, hG⟩ : ∃ G, G = grownCap w (n + 1) cap 46 := ⟨_, rfl⟩
  have hGn : n + 1 ≤ G := by rw [hG]; exact grownCap_ge w _ _ _
  have hG63 : G ≤ 9223372036854775807 := by
    have := grownCap_le_maxLen w (n + 1) cap 46 (by unfold maxLen; omega)
    rw [← hG] at this
    unfold maxLen at this
    omega
  obtain ⟨ROW, hROW⟩ : ∃ ROW : Array Value, ROW = (cs.take (i * 3)).toArray ++ Builtin.zeroCells (Value.cells (.agg #[(.int .i64 0), (.int .i64 0), (.string ⟨#[]⟩)])) (n + 1 - i) ++ Builtin.zeroCells (Value.cells (.agg #[(.int .i64 0), (.int .i64 0), (.string ⟨#[]⟩)])) (G - (n + 1)) := ⟨_, rfl⟩
  rw [← hG] at hrz
  rw [← hROW] at hrz
  have hzl : ∀ q, (Builtin.zeroCells (Value.cells (.agg #[(.int .i64 0), (.int .i64 0), (.string ⟨#[]⟩)])) q).size = q * 3 := fun q => by simp [Builtin.zeroCells, Value.cells]
  have hRs : ROW.size = G * 3 := by
    rw [hROW, Array.size_append, Array.size_append, hzl, hzl, List.size_toArray, htl]
    omega
  have hRhead : ∀ j u, (cs.take (i * 3))[j]? = some u → ROW[j]? = some u := fun j u hj => by
    have hjl := (List.getElem?_eq_some_iff.1 hj).1
    rw [hROW, Array.append_assoc, Array.getElem?_append_left (by simpa using hjl)]
    simpa using hj
  have hNcell : ∀ W : World, W.heap[w.heap.size]? = some (.cells ROW 46 (0, 0)) → ∀ j, W.cell? ⟨w.heap.size, j, none⟩ = ROW[j]? := fun W h j => cell_blk h j
  obtain ⟨W1, hW1⟩ : ∃ W1, W1 = w.drew.alloc (.cells ROW 46) := ⟨_, rfl⟩
  rw [← hW1] at hrz
  have hb1 : W1.heap[w.heap.size]? = some (.cells ROW 46 (0, 0)) := by rw [hW1]; exact Array.getElem?_push_size
  have hold1 : ∀ b, b < w.heap.size → W1.heap[b]? = w.heap[b]? := fun b hb => by rw [hW1]; exact Below.heap_alloc w.drew _ b hb
  have hBW1 : w.grownBy W1 (some g) := by rw [hW1]; have H := World.grownBy_alloc w.drew (.cells ROW 46) (some g); exact ⟨H.os, H.tape, H.output, H.size, H.block⟩
  have hcpA : ∀ ty dc, (Builtin.copy_ #[22, 22] ty #[.slice (some ⟨w.heap.size, i * 3, none⟩) (n + 1 - i) dc, .slice (some ⟨vb, 0, none⟩) 1 vc]).run Try.prog W1 = .ok (goInt (Nat.min 1 (n + 1 - i) : Nat)) (W1.setCells w.heap.size (i * 3) (enc46 x)) := fun ty dc =>
    run_copy_cellsK W1 _ _ ty 46 3 w.heap.size (i * 3) (n + 1 - i) dc ⟨vb, 0, none⟩ 1 vc (enc46 x) Try.underlying22 hsz (by rw [enc46_len, show Nat.min 1 (n + 1 - i) = 1 by simp only [Nat.min_def]; split <;> omega])
      (fun j v hj => by
        rw [Addr.add_lit, cell_blk ((hold1 vb hvw).trans hx), Nat.zero_add]; exact hxc j v hj)
      (fun j hj => by rw [enc46_len] at hj; rw [cell_blk hb1, Array.getElem?_eq_getElem (by rw [hRs]; omega)]; rfl) (fun j hj => frozen_blk hb1 _) (enc46_one x)
  obtain ⟨W2, hW2⟩ : ∃ W2, W2 = W1.setCells w.heap.size (i * 3) (enc46 x) := ⟨_, rfl⟩
  rw [← hW2] at hcpA
  obtain ⟨cur2, hb2, hsz2⟩ : ∃ cur2, W2.heap[w.heap.size]? = some (.cells cur2 46 (0, 0)) ∧ cur2.size = ROW.size := by rw [hW2]; exact setCells_blk _ _ _ _ _ _ hb1
  have hgN : g ≠ w.heap.size := by omega
  have hcpB : ∀ (W : World), (∀ x, W.cell? x = W2.cell? x) → (∀ x, W.frozen? x = W2.frozen? x) → ∀ ty dc sc, (Builtin.copy_ #[22, 22] ty #[.slice (some ⟨w.heap.size, (i + 1) * 3, none⟩) (n - i) dc, .slice (some ⟨g, i * 3, none⟩) (n - i) sc]).run Try.prog W = .ok (goInt (Nat.min (n - i) (n - i) : Nat)) (W.setCells w.heap.size ((i + 1) * 3) (cs.drop (i * 3))) := fun W hWc hWf ty dc sc =>
    run_copy_cellsK W _ _ ty 46 3 w.heap.size ((i + 1) * 3) (n - i) dc ⟨g, i * 3, none⟩ (n - i) sc (cs.drop (i * 3)) Try.underlying22 hsz (by rw [hdl]; congr 1; simp only [Nat.min_def]; split <;> omega)
      (fun j v hj => by
        rw [Addr.add_lit, hWc, hW2, World.cell?_setCells_out _ _ _ _ _ (fun h _ => absurd h hgN), World.cell?_of_block (w := w) (hold1 g hgw)]
        exact hcell (i * 3 + j) v (by rwa [List.getElem?_drop] at hj))
      (fun j hj => by rw [hdl] at hj; rw [hWc, cell_blk hb2, Array.getElem?_eq_getElem (by rw [hsz2, hRs]; omega)]; rfl)
      (fun j hj => by rw [hWf]; exact frozen_blk hb2 _) (fun v hv => hone v (List.mem_of_mem_drop hv))
  have hfinal : ∀ W3 : World, W3.heap = W2.heap → W3.os = W2.os → W3.tape = W2.tape → W3.output = W2.output → Kd.R k46 46 (W3.setCells w.heap.size ((i + 1) * 3) (cs.drop (i * 3))) base (fun _ => True) (.slice (some ⟨w.heap.size, 0, none⟩) (n + 1) G) (l.take i ++ x :: l.drop i) ∧ w.grownBy (W3.setCells w.heap.size ((i + 1) * 3) (cs.drop (i * 3))) (some g) := fun W3 e1 e2 e3 e4 => by
    have hBW2 : w.grownBy W2 (some g) := by rw [hW2]; exact sl_grown _ _ hBW1 (.inr (Nat.le_refl _))
    have hBW : w.grownBy W3 (some g) := ⟨e2.trans hBW2.os, e3.trans hBW2.tape, e4.trans hBW2.output, by rw [e1]; exact hBW2.size, fun k hk hn => by rw [e1]; exact hBW2.block k hk hn⟩
    have hbW : W3.heap[w.heap.size]? = some (.cells cur2 46 (0, 0)) := by rw [e1]; exact hb2
    have hcW : ∀ a, W3.cell? a = W2.cell? a := fun a => by simp [World.cell?, e1]
    obtain ⟨cur3, hb3, hsz3⟩ := setCells_blk w.heap.size (cs.drop (i * 3)) ((i + 1) * 3) W3 cur2 46 hbW
    have hlr : (l.take i ++ x :: l.drop i).length = n + 1 := by rw [List.length_append, List.length_take, List.length_cons, List.length_drop]; omega
    refine ⟨own_R ?_, sl_grown _ _ hBW (.inr (Nat.le_refl _))⟩
    rw [hlr]
    refine own_cells hbase hb3 hGn (by unfold maxLen; omega) (by rw [hsz3, hsz2, hRs]) (by rw [flat_len enc46_len, hlr]) fun q u hj => ?_
    have hjl : q < (n + 1) * 3 := by
      have := (List.getElem?_eq_some_iff.1 hj).1
      rwa [flat_len enc46_len, hlr] at this
    rw [List.flatMap_append, List.flatMap_cons, ← flat_take enc46_len, ← flat_drop enc46_len, ← hcs] at hj
    rcases Nat.lt_or_ge q (i * 3) with hlt | hge
    · rw [List.getElem?_append_left (by omega)] at hj
      rw [World.cell?_setCells_out _ _ _ _ _ (fun _ _ => .inl (by show q < (i + 1) * 3; omega)), hcW, hW2, World.cell?_setCells_out _ _ _ _ _ (fun _ _ => .inl hlt), cell_blk hb1]
      exact hRhead q u hj
    · rw [List.getElem?_append_right (by omega), htl] at hj
      rcases Nat.lt_or_ge (q - i * 3) 3 with hlt2 | hge2
      · rw [List.getElem?_append_left (by rw [enc46_len]; exact hlt2)] at hj
        have hjn := (List.getElem?_eq_some_iff.1 hj).1
        rw [World.cell?_setCells_out _ _ _ _ _ (fun _ _ => .inl (by show q < (i + 1) * 3; omega)), hcW, hW2]
        have := World.cell?_setCells_in w.heap.size (enc46 x) (i * 3) W1 (fun t ht => by rw [enc46_len] at ht; rw [cell_blk hb1, Array.getElem?_eq_getElem (by rw [hRs]; omega)]; rfl) (q - i * 3) hjn
        rw [show (⟨w.heap.size, q, none⟩ : Addr) = ⟨w.heap.size, i * 3 + (q - i * 3), none⟩ by congr 1; omega, this]
        exact (List.getElem?_eq_some_iff.1 hj).2 ▸ rfl
      · rw [List.getElem?_append_right (by rw [enc46_len]; exact hge2), enc46_len] at hj
        have hjn := (List.getElem?_eq_some_iff.1 hj).1
        have := World.cell?_setCells_in w.heap.size (cs.drop (i * 3)) ((i + 1) * 3) W3 (fun t ht => by rw [hdl] at ht; rw [cell_blk hbW, Array.getElem?_eq_getElem (by rw [hsz2, hRs]; omega)]; rfl) (q - i * 3 - 3) hjn
        rw [show (⟨w.heap.size, q, none⟩ : Addr) = ⟨w.heap.size, (i + 1) * 3 + (q - i * 3 - 3), none⟩ by congr 1; omega, this]
        exact (List.getElem?_eq_some_iff.1 hj).2 ▸ rfl
  have HF := Aside0.mk hfinal
  have HCPB := Aside0.mk hcpB
  have hz2 : ¬ ((i : Int) = (n : Int)) := by omega
  have hz3 : ((cap : Int) < (n : Int) + 1) := by omega
  have hw1 : IntKind.i64.wrap ((i : Int) + 1) = (i : Int) + 1 := by rw [IntKind.wrap_i64]; omega
  have hw2 : IntKind.i64.wrap ((n : Int) + 1) = (n : Int) + 1 := by rw [IntKind.wrap_i64]; omega
  have hw3 : IntKind.i64.wrap ((n : Int) + 1 - (i : Int)) = (n : Int) + 1 - (i : Int) := by rw [IntKind.wrap_i64]; omega
  have hb1' : (0 : Int) ≤ (i : Int) + 1 := by omega
  have hin : i ≤ n := by omega
  have htn : ((i : Int) + 1).toNat = i + 1 := by omega
  have hb3' : (i : Int) ≤ (n : Int) := by omega
  have hci : ¬ (cap = i) := by omega
  have hGi : ¬ (G = i) := by omega
  have hGim : ¬ (G = i + 1) := by omega
  have hic : i ≤ cap := by omega
  have hiG : i ≤ G := by omega
  have hiG1 : i + 1 ≤ G := by omega
  have mixed : Try.prog.follows .mixedOrders = true := by kernel_rfl
  clear hfinal hcpB hsz2 hb2 hcell hone ht hs hh hlen hR hnn hdl htl hcs hx hxs hxc hold hROW hG hRs hRhead hNcell hkk hik hb1 hold1 hBW1 hzl hW1 hW2 hi0 hz0 hzs hzb hsz
  go_enter Try.func19, Try.ntmps19
  go_wp2_with (first | (at_builtin; refine Lib.wpList_append_run _ rfl _ _ _ _ rfl _ _ rfl rfl _ _ (hrz _) ?_))
  go_region_law_o (refine step_copy_runI rfl _ _ 22 22 rfl (.slice (some ⟨w.heap.size, (i + 1) * 3, none⟩) (n - i) (G - (i + 1))) (.slice (some ⟨g, i * 3, none⟩) (n - i) (cap - i)) (by simp [Act.eval, Act.put]) (by simp [Act.eval, Act.put]) (HCPB.out W2.drew (fun _ => rfl) (fun _ => rfl) 3 (G - (i + 1)) (cap - i)) ?_)
  go_wp2
  go_ret
  have hf := HF.out W2.drew rfl rfl rfl rfl
  exact ⟨_, rfl, hf.1, hf.2, .inr ⟨_, rfl, Nat.le_refl _⟩⟩

/-- slices.Insert of one element. -/
theorem insert_calls (base : Nat) (v : Value) (l : List S46) (x : S46) (i vb vc : Nat) (xc : Array Value) (w : World) (hR : Kd.R k46 46 w base (fun _ => True) v l) (hbase : base ≤ w.heap.size) (hi : i ≤ l.length) (hlim : l.length ≤ 1000000000000)
    (hx : w.heap[vb]? = some (.cells xc 46 (0, 0))) (hxs : xc.size = vc * 3) (hvc : 1 ≤ vc) (hxc : ∀ (j : Nat) (u : Value), (enc46 x)[j]? = some u → xc[j]? = some u) (hne : some vb ≠ v.ownBlock) :
    Calls Try.prog 19 #[v, .int .i64 i, .slice (some ⟨vb, 0, none⟩) 1 vc] w fun e w' => ∃ v0_ : Value, e = .returned (v0_) ∧ Kd.R k46 46 w' base (fun _ => True) v0_ (l.take i ++ x :: l.drop i) ∧ w.grownBy w' v.ownBlock ∧ (v0_.ownBlock = v.ownBlock ∨ ∃ b, v0_.ownBlock = some b ∧ w.heap.size ≤ b) := by
  obtain ⟨A, cap, rfl⟩ := Kd.R_slice hR
  rcases Nat.lt_or_ge i l.length with hlt | hge
  · cases A with
    | none =>
      obtain rfl : l = [] := by
        have := (Kd.R_reads' hR).2.2.2.2
        cases l with
        | nil => rfl
        | cons a l => obtain ⟨ad, h, _⟩ := this (by simp); cases h
      simp at hlt
    | some ad =>
      obtain ⟨g, rfl⟩ := Kd.R_head hR
      rcases Nat.lt_or_ge cap (l.length + 1) with hroom | hroom
      · exact insert_grow base g cap l x i vb vc xc w hR hbase hlt hroom hlim hx hxs hvc hxc
      · exact insert_room base g cap l x i vb vc xc w hR hlt hroom hx hxs hvc hxc (fun h => hne (by rw [h]; rfl))
  · obtain rfl : i = l.length := by omega
    have := insert_end base _ l x vb vc xc w hR hbase hx hxs hvc hxc hlim
    rw [List.take_length, List.drop_length]
    exact this

/-! ### in the print's form -/
def api_Seat_17.f (l0 : List S46) : Option (List S46) := if l0.length ≤ 1000000000000 then some l0 else none
theorem api_Seat_17.calls (A0 : Option Addr) (c0 : Nat) (l0 : List S46) (r : List S46) (w : World) (hr0 : Kd.C k46 w A0 l0.length l0) (hc0 : l0.length ≤ c0) (h : api_Seat_17.f l0 = some r) :
    Calls Try.prog 17 #[.slice A0 l0.length c0] w fun e w' => ∃ v0_ : Value, e = .returned (v0_) ∧ Kd.R k46 46 w' w.heap.size (fun _ => True) v0_ r ∧ Below w.heap.size w w' := by
  unfold api_Seat_17.f at h
  split at h
  · rename_i hl
    obtain rfl := Option.some.inj h
    exact clone_calls A0 c0 l0 w hr0 hc0 hl
  · cases h
theorem back_R {S : Nat → Prop} {w w' : World} {base : Nat} {v v0 : Value} {r : List S46} (hS : ∀ k, v.ownBlock = some k → S k) (h : Kd.R k46 46 w' base (fun _ => True) v0 r) (ho : v0.ownBlock = v.ownBlock ∨ ∃ b, v0.ownBlock = some b ∧ w.heap.size ≤ b) :
    Kd.R k46 46 w' base (fun k => S k ∨ w.heap.size ≤ k) v0 r :=
  Kd.R_mono (Kd.R_tight rfl h) (fun k hk => by
    have hk : some k = v0.ownBlock := hk
    rcases ho with ho | ⟨b, hb, hle⟩
    · exact .inl (hS k (by rw [hk, ho]))
    · rw [hb] at hk
      injection hk with hk
      exact .inr (by omega))
def api_Seat_22.f (l0 : List S46) (a1 a2 : Int) : Option (List S46) := if 0 ≤ a1 ∧ a1 < a2 ∧ a2 ≤ l0.length then some (l0.take a1.toNat ++ l0.drop a2.toNat) else none
theorem api_Seat_22.calls (S : Nat → Prop) (v : Value) (l0 : List S46) (a1 a2 : Int) (r : List S46) (w0 w : World) (hB : Below w0.heap.size w0 w) (hO : Kd.R k46 46 w w0.heap.size S v l0) (h : api_Seat_22.f l0 a1 a2 = some r) :
    Calls Try.prog 22 #[v, .int .i64 a1, .int .i64 a2] w fun e w' => ∃ v0_ : Value, e = .returned (v0_) ∧ Kd.R k46 46 w' w0.heap.size (fun k => S k ∨ w.heap.size ≤ k) v0_ r ∧ Below w0.heap.size w0 w' ∧ Kept w w' S := by
  unfold api_Seat_22.f at h
  split at h
  · rename_i hl
    obtain rfl := Option.some.inj h
    obtain ⟨i, rfl⟩ : ∃ i : Nat, a1 = i := ⟨a1.toNat, by omega⟩
    obtain ⟨j, rfl⟩ : ∃ j : Nat, a2 = j := ⟨a2.toNat, by omega⟩
    have hb := hO.1
    have ho := own_base hO.2.choose_spec.1
    refine (delete_calls w0.heap.size v l0 i j w (Kd.R_mono hO (fun _ _ => trivial)) (by omega) (by omega)).mono ?_
    rintro e w' ⟨v0, rfl, hR, hG, hown⟩
    exact ⟨v0, rfl, back_R hb hR hown, hB.grown hG hB.size (fun k hk => ho k hk.symm.symm), Kept.of_grown hG (Kept.refl _ _) (fun k hk => .inl (hb k hk))⟩
  · cases h
def api_Seat_19.f (l0 : List S46) (a1 : Int) (l2 : List S46) : Option (List S46) := match l2 with | [x] => (if 0 ≤ a1 ∧ a1 ≤ l0.length ∧ l0.length ≤ 1000000000000 then some (l0.take a1.toNat ++ x :: l0.drop a1.toNat) else none) | _ => none
theorem api_Seat_19.calls (S : Nat → Prop) (v : Value) (l0 : List S46) (a1 : Int) (S2 : Nat → Prop) (v2 : Value) (l2 : List S46) (r : List S46) (w0 w : World) (hB : Below w0.heap.size w0 w) (hO : Kd.R k46 46 w w0.heap.size S v l0) (hp : ∀ k, S k → ¬ S2 k) (hO2 : Kd.R k46 46 w w0.heap.size S2 v2 l2) (hp2 : ∀ k, S2 k → ¬ S k) (h : api_Seat_19.f l0 a1 l2 = some r) :
    Calls Try.prog 19 #[v, .int .i64 a1, v2] w fun e w' => ∃ v0_ : Value, e = .returned (v0_) ∧ Kd.R k46 46 w' w0.heap.size (fun k => (S k ∨ S2 k) ∨ w.heap.size ≤ k) v0_ r ∧ Below w0.heap.size w0 w' ∧ Kept w w' (fun k => S k ∨ S2 k) := by
  unfold api_Seat_19.f at h
  split at h
  · rename_i x
    split at h
    · rename_i hl
      obtain rfl := Option.some.inj h
      obtain ⟨i, rfl⟩ : ∃ i : Nat, a1 = i := ⟨a1.toNat, by omega⟩
      have hb := hO.1
      have ho := own_base hO.2.choose_spec.1
      have hb2 := hO2.1
      obtain ⟨hx0, hx1⟩ := own_flat hO2
      rcases hx1 with ⟨_, h0⟩ | ⟨vb, vc, xc, rfl, _, hx, hn, _, hxs, hxt⟩
      · cases h0
      have hne : some vb ≠ v.ownBlock := fun he => hp vb (hb vb he.symm) (hb2 vb rfl)
      have hxc : ∀ (j : Nat) (u : Value), (enc46 x)[j]? = some u → xc[j]? = some u := fun j u hj => by
        have e0 : ([x] : List S46).flatMap enc46 = enc46 x := by simp
        rw [e0] at hxt
        rw [← hxt, List.getElem?_take] at hj
        split at hj
        · rw [← Array.getElem?_toList]; exact hj
        · cases hj
      refine (insert_calls w0.heap.size v l0 x i vb vc xc w (Kd.R_mono hO (fun _ _ => trivial)) hB.size (by omega) hl.2.2 hx hxs hn hxc hne).mono ?_
      rintro e w' ⟨v0, rfl, hR, hG, hown⟩
      exact ⟨v0, rfl, Kd.R_mono (back_R hb hR hown) (fun k hk => hk.imp .inl id), hB.grown hG hB.size (fun k hk => ho k hk), Kept.of_grown hG (Kept.refl _ _) (fun k hk => .inl (.inl (hb k hk)))⟩
    · cases h
  · cases h
end Go.Proofs.Ytcclannanigecaa.PSeat
