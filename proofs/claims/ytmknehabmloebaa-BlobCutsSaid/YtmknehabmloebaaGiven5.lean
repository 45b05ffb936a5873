import Derived.Deep.OwnRows
import Derived.Test.YtmknehabmloebaaGiven4
import Derived.Test.YtmknehabmloebaaFence
namespace Go.Proofs.Ytmknehabmloebaa.PBlob
open Go.RowKit Go.Shelf Go.Proofs.YtmknehabmloebaaW.PrintWords Go.Proofs.YtmknehabmloebaaW.PrintLast Go.Proofs.YtmknehabmloebaaW.PrintMore
set_option linter.unusedVariables false
set_option linter.unusedSimpArgs false
attribute [local go_sem] Oper.semAt_some
attribute [local go_sem] max2_mx min2_mn max_two min_two

abbrev Part (fr tt : Int) := { x : S41 // fr ≤ x.f0 ∧ x.f0 + x.f1.size ≤ tt ∧ 0 < x.f1.size }

theorem clip_stopsS (n : Nat) (hn : 1 ≤ n) (B n₀ : Nat) (A0 : Option Addr) (c0 : Nat) (l0 : List S41) (fr tt : Int) (hg : Good l0) (hfr : 0 ≤ fr) (hfr2 : fr ≤ 2097152) (hto : 0 ≤ tt) (w : World) (hB : B + 2 < w.heap.size) (hn₀ : n₀ ≤ w.heap.size)
    (h1 : w.cell? ⟨B, 0, none⟩ = some (.slice A0 l0.length c0)) (h2 : w.cell? ⟨B + 1, 0, none⟩ = some (.int .i64 fr)) (h3 : w.cell? ⟨B + 2, 0, none⟩ = some (.int .i64 tt))
    (hC : ∀ W', Below n₀ w W' → Kd.C k41 W' A0 l0.length l0) :
    SeqStopsK Fence.wide n Try.prog 32 #[.pointer (some ⟨B, 0, none⟩), .pointer (some ⟨B + 1, 0, none⟩), .pointer (some ⟨B + 2, 0, none⟩)] (fun x : Part fr tt => #[Value.agg #[.int .i64 x.1.f0, .string x.1.f1]]) (KpB n₀ fun k => B ≤ k ∧ k ≤ B + 2)
      (fun ys => ys.map (·.1) = clip l0 fr tt) (fun pre => pre.map (·.1) <+: clip l0 fr tt) l0.length w := fun l J Jx W hW hJ hJx hY h0 => by
  refine (clipped1_in n hn l B (B + 1) (B + 2) n₀ (fun k => B ≤ k ∧ k ≤ B + 2) A0 c0 l0 fr tt hg hfr hfr2 hto (fun pre W => ∃ p : List (Part fr tt), p.map (·.1) = pre ∧ J p W) (fun pre W => ∃ p : List (Part fr tt), p.map (·.1) = pre ∧ Jx p W) W
    (fun s A B row ⟨p, hp, hj⟩ hg hr => ⟨p, hp, hJ p A B row hj hg hr⟩) (fun s A B row ⟨p, hp, hj⟩ hg hr => ⟨p, hp, hJx p A B row hj hg hr⟩) (Nat.le_trans hn₀ hW.size) ?_
    ((hW.cell (p := ⟨B, 0, none⟩) (by show B < _; omega)).trans h1) ((hW.cell (p := ⟨B + 1, 0, none⟩) (by show B + 1 < _; omega)).trans h2) ((hW.cell (p := ⟨B + 2, 0, none⟩) (by show B + 2 < _; omega)).trans h3)
    ⟨Nat.le_refl _, by omega⟩ ⟨by omega, by omega⟩ ⟨by omega, by omega⟩ (fun k hk => by have := hW.size; omega) (fun W' h => hC W' ((hW.mono hn₀).trans h)) ⟨[], rfl, h0⟩).mono ?_
  · rintro pre x W1 e1 e2 e3 ⟨p, hp, hj⟩ hlt
    obtain ⟨fn, tmps, assign, body, hy, hR⟩ := hY p ⟨x, e1, e2, e3⟩ W1 hj (by rw [← hp] at hlt; simpa using hlt)
    refine ⟨fn, tmps, assign, body, hy, hR.mono ?_⟩
    rintro e W' (⟨rfl, hj', hk⟩ | ⟨rfl, hj'⟩)
    · exact .inl ⟨rfl, ⟨_, by simp [hp], hj'⟩, hk⟩
    · exact .inr ⟨rfl, _, by simp [hp], hj'⟩
  · rintro e W' ⟨he, ⟨ys, rfl, p, hp, hj⟩ | ⟨pre, hpre, p, hp, hj⟩⟩
    · exact ⟨he, .inl ⟨p, hp, hj⟩⟩
    · exact ⟨he, .inr ⟨p, by show p.map (·.1) <+: _; rw [hp]; exact hpre, hj⟩⟩

/-- The bytes from 'b' on, a run laid over them. -/
def ov (b : Int) (f : Nat → Int) (r : S41) : Nat → Int := fun j => if (r.f0 - b).toNat ≤ j ∧ j < (r.f0 - b).toNat + r.f1.size then bt r.f1 ((j - (r.f0 - b).toNat : Nat) : Int) else f j
def seen (b : Int) (l : List S41) : Nat → Int := l.foldl (ov b) (fun _ => 0)
theorem seen_snoc (b : Int) (l : List S41) (x : S41) : seen b (l ++ [x]) = ov b (seen b l) x := by simp [seen]

theorem heap_setCells (b : Nat) : ∀ (vs : List Value) (o : Nat) (w : World) (k : Nat), k ≠ b → (w.setCells b o vs).heap[k]? = w.heap[k]?
  | [], _, _, _, _ => rfl
  | v :: r, o, w, k, h => (heap_setCells b r (o + 1) _ k h).trans (Below.heap_setCell _ _ _ k h)
theorem keepsOthers_setCells (b : Nat) : ∀ (vs : List Value) (o : Nat) (w : World), KeepsOthers w (w.setCells b o vs)
  | [], _, w => KeepsOthers.refl w
  | v :: r, o, w => (KeepsOthers.setCell w _ v).trans (keepsOthers_setCells b r (o + 1) _)
theorem rowIs_own {β : Type} (B t n : Nat) (f : β → Nat → Value) : Own (fun (s : β) W => W.rowIs B t n (f s)) := by
  rintro s X Y row ⟨c, hc, hn, hf⟩ hg hrow
  refine ⟨c, (hg.block B (Array.getElem?_eq_some_iff.1 hc).1 (fun e' => ?_)).trans hc, hn, hf⟩
  obtain ⟨o, ho, hc'⟩ := hrow B e'.symm
  rw [hc] at ho; cases ho; cases hc'
theorem run_low {P : Program} {t e : TypeId} (ht : P.underlying t = some (.slice e)) (hs : ∀ W, (sizeOf e).run P W = .ok 1 W) (g m : Nat) (i : Int) (h0 : 0 ≤ i) (h1 : i < m) (W : World) :
    (Instr.slice t (.slice (some ⟨g, 0, none⟩) m m) (some (.int .i64 i)) none none).run P W = .ok (.slice (some ⟨g, i.toNat, none⟩) (m - i.toNat) (m - i.toNat)) W := by
  have h2 : 0 ≤ i ∧ i ≤ (m : Int) := ⟨h0, by omega⟩
  have h3 : ¬ m = i.toNat := by omega
  simp [Instr.slice, run_underlying ht, Instr.sliceBounds, Instr.sliceBound, asIntOf, h2, hs, h3, add_plain]
set_option maxRecDepth 100000 in
set_option maxHeartbeats 800000 in
theorem read_main (A0 : Option Addr) (c0 : Nat) (l0 : List S41) (a1 a2 a3 : Int) (m : Nat) (w : World) (hr0 : Kd.C k41 w A0 l0.length l0) (hc0 : l0.length ≤ c0)
    (hch : chk 0 l0 = true) (h1 : 0 ≤ a2) (h2 : a2 < a1) (h3 : a1 ≤ 1048576) (h4 : 0 ≤ a3) (h5 : a3 ≤ 512) (hm : mn a3 (a1 - a2) = m) :
    Calls Try.prog 16 #[.slice A0 l0.length c0, .int .i64 a1, .int .i64 a2, .int .i64 a3] w fun e w' => e = .returned (.tuple #[.string (strOfNums ((List.range m).map (seen a2 (clip l0 a2 (a2 + m))))), .int .i64 0]) ∧ Below w.heap.size w w' := by
  have hck := blob_Check.calls (l0.length + 1) A0 c0 l0 _ w hr0 hc0 (check_f l0 hr0.2.1)
  rw [if_pos hch] at hck
  have hm5 : m ≤ 512 := by unfold mn at hm; split at hm <;> omega
  have HR0 := Aside0.mk hr0
  have HCH := Aside0.mk hch
  have hck' := fun (W : World) (hb : Below w.heap.size w W) => blob_Check.calls (l0.length + 1) A0 c0 l0 _ W (hr0.imp_ hb (fun _ _ h => h)) hc0 (check_f l0 hr0.2.1)
  have HCK := Aside0.mk hck'
  have hgd := Aside0.mk (chk_good (by omega) hch)
  have hfew := Aside0.mk (chk_few (by omega) hch).1
  have t1 : decide (a1 < 0) = false := decide_eq_false (by omega)
  have t2 : decide (1048576 < a1) = false := decide_eq_false (by omega)
  have t3 : decide (a2 < 0) = false := decide_eq_false (by omega)
  have t4 : decide (a3 < 0) = false := decide_eq_false (by omega)
  have t5 : decide (512 < a3) = false := decide_eq_false (by omega)
  have t6 : decide (a1 ≤ a2) = false := decide_eq_false (by omega)
  have hmk := print_make (P := Try.prog) 51 5 .u8 1 Try.underlying51 info5 (by decide) m (by omega)
  clear hr0 hc0 hck hck' hch
  refine callsIn_wide (n := 6) |>.1 ?_
  refine callsIn_of_wp_marks Try.func16 rfl trivial ?_ rfl
  simp only [Try.ntmps16, List.size_toArray, List.length_cons, List.length_nil, Nat.reduceAdd, Nat.reduceSub, Array.replicate_succ, Array.replicate_zero, List.push_toArray, List.append_toArray, List.nil_append, List.cons_append]
  have h18 : Fence.wide.fn 18 := trivial
  have h28 : Fence.wide.fn 28 := trivial
  have hz26 : 1 ≤ 6 := by omega
  have HB0 := Aside0.mk (below_alloc (Below.refl w.heap.size w) (.cells #[.int .i64 a2] 3))
  have hbx := Boxed.new w 3 (.int .i64 a2)
  have hbl := hbx.lt
  have HX := Aside0.mk hbx
  have hxc := hbx.cell
  clear hbx
  gi_wp2_with (first
        | (gi_at_call 18; refine (callsIn_wide.2 (HCK.out _ HB0.out)).mono ?_; rw [if_pos HCH.out]; rintro e w1 ⟨rfl, hb⟩; have HB := Aside0.mk (below_step HB0.out hb); have hxc1 := pw_cell_below hb hxc; have HX1 := Aside0.mk (HX.out.kept (grown_of_below hb none) (by simp)); have hl1 := Boxed.lt HX1.out; have hl2 := Nat.lt_succ_of_lt hl1; clear hb)
        | (gi_at_call 28; refine (callsIn_wide.2 (clipped_calls _ _ _ _ _ _)).mono ?_; rintro e w2 ⟨rfl, rfl⟩))
  have o1 := Go.World.rowIs_made w1 (.int .u8 0) m 5
  have x0 := Boxed.new (w1.alloc (.cells (madeCells #[.int .u8 0] m) 5)) 51 (.slice (some ⟨w1.heap.size, 0, none⟩) m m)
  have x1 := Boxed.new ((w1.alloc (.cells (madeCells #[.int .u8 0] m) 5)).alloc (.cells #[.slice (some ⟨w1.heap.size, 0, none⟩) m m] 51)) 22 (.slice A0 l0.length c0)
  have x2 := Boxed.new (((w1.alloc (.cells (madeCells #[.int .u8 0] m) 5)).alloc (.cells #[.slice (some ⟨w1.heap.size, 0, none⟩) m m] 51)).alloc (.cells #[.slice A0 l0.length c0] 22)) 3 (.int .i64 a2)
  have x3 := Boxed.new ((((w1.alloc (.cells (madeCells #[.int .u8 0] m) 5)).alloc (.cells #[.slice (some ⟨w1.heap.size, 0, none⟩) m m] 51)).alloc (.cells #[.slice A0 l0.length c0] 22)).alloc (.cells #[.int .i64 a2] 3)) 3 (.int .i64 (a2 + m))
  simp only [World.size_alloc] at x0 x1 x2 x3
  have o1' := (((o1.alloc (.cells #[.slice (some ⟨w1.heap.size, 0, none⟩) m m] 51)).alloc (.cells #[.slice A0 l0.length c0] 22)).alloc (.cells #[.int .i64 a2] 3)).alloc (.cells #[.int .i64 (a2 + m)] 3)
  have x0' := ((x0.alloc (.cells #[.slice A0 l0.length c0] 22)).alloc (.cells #[.int .i64 a2] 3)).alloc (.cells #[.int .i64 (a2 + m)] 3)
  have x1' := (x1.alloc (.cells #[.int .i64 a2] 3)).alloc (.cells #[.int .i64 (a2 + m)] 3)
  have x2' := x2.alloc (.cells #[.int .i64 (a2 + m)] 3)
  have x6' := ((((HX1.out.alloc (.cells (madeCells #[.int .u8 0] m) 5)).alloc (.cells #[.slice (some ⟨w1.heap.size, 0, none⟩) m m] 51)).alloc (.cells #[.slice A0 l0.length c0] 22)).alloc (.cells #[.int .i64 a2] 3)).alloc (.cells #[.int .i64 (a2 + m)] 3)
  have hBW := below_alloc (below_alloc (below_alloc (below_alloc (below_alloc HB.out (.cells (madeCells #[.int .u8 0] m) 5)) (.cells #[.slice (some ⟨w1.heap.size, 0, none⟩) m m] 51)) (.cells #[.slice A0 l0.length c0] 22)) (.cells #[.int .i64 a2] 3)) (.cells #[.int .i64 (a2 + m)] 3)
  have hsW : (((((w1.alloc (.cells (madeCells #[.int .u8 0] m) 5)).alloc (.cells #[.slice (some ⟨w1.heap.size, 0, none⟩) m m] 51)).alloc (.cells #[.slice A0 l0.length c0] 22)).alloc (.cells #[.int .i64 a2] 3)).alloc (.cells #[.int .i64 (a2 + m)] 3)).heap.size = w1.heap.size + 5 := by simp
  have hsB := HB.out.size
  clear o1 x0 x1 x2 HX1 hxc1
  generalize hW0 : ((((w1.alloc (.cells (madeCells #[.int .u8 0] m) 5)).alloc (.cells #[.slice (some ⟨w1.heap.size, 0, none⟩) m m] 51)).alloc (.cells #[.slice A0 l0.length c0] 22)).alloc (.cells #[.int .i64 a2] 3)).alloc (.cells #[.int .i64 (a2 + m)] 3) = W0 at *
  clear hW0
  refine wpIn_rangeFunc_ownH rfl (by omega) (gf := 32) (lb := #[.pointer (some ⟨w1.heap.size + 1 + 1, 0, none⟩), .pointer (some ⟨w1.heap.size + 1 + 1 + 1, 0, none⟩), .pointer (some ⟨w1.heap.size + 1 + 1 + 2, 0, none⟩)]) rfl trivial (enters_of Try.func32 (by kernel_rfl) rfl)
    (clip_stopsS 5 (by omega) (w1.heap.size + 1 + 1) w.heap.size A0 c0 l0 a2 (a2 + m) hgd.out (by omega) (by omega) (by omega) W0 (by omega) (by omega) x1'.cell x2'.cell x3.cell (fun W' h => HR0.out.imp_ (hBW.trans h) (fun _ _ h => h)))
    KpB.trans (fun W l o o' hl ho hc _ => KpB.putObj (B := W0.heap.size) (by omega) (fun k hk => by omega) W l o o' hl ho hc) (Below.refl _ _) (fun _ => rfl)
    (fun pre W => (Boxed W (w1.heap.size + 1) 51 (.slice (some ⟨w1.heap.size, 0, none⟩) m m) ∧ W.rowIs w1.heap.size 5 m (fun j => .int .u8 (seen a2 (pre.map (·.1)) j)) ∧ Boxed W w.heap.size 3 (.int .i64 a2) ∧ Boxed W (w1.heap.size + 1 + 1) 22 (.slice A0 l0.length c0) ∧ Boxed W (w1.heap.size + 1 + 1 + 1) 3 (.int .i64 a2) ∧ Boxed W (w1.heap.size + 1 + 1 + 2) 3 (.int .i64 (a2 + m))) ∧ Below w.heap.size w W)
    (fun _ _ _ => False)
    (OwnFrom.and (OwnFrom.and (Own.from (boxed_own' _ _ _) _) (OwnFrom.and (Own.from (rowIs_own w1.heap.size 5 m fun pre : List (Part a2 (a2 + m)) => fun j => .int .u8 (seen a2 (pre.map (·.1)) j)) _) (OwnFrom.and (Own.from (boxed_own' _ _ _) _) (OwnFrom.and (Own.from (boxed_own' _ _ _) _) (OwnFrom.and (Own.from (boxed_own' _ _ _) _) (Own.from (boxed_own' _ _ _) _)))))) (ownFrom_below (Nat.le_refl _) (by omega)))
    (fun _ _ _ _ _ hs _ _ => hs)
    ⟨⟨x0', o1'.congr (fun j _ => by rfl), x6', x1', x2', x3⟩, hBW⟩
    (fun x a' W => ∃ Bx, w1.heap.size + 1 < Bx ∧ Boxed2 W Bx x.1 ∧ a' = { tmps := #[Value.slice A0 l0.length c0, Value.int .i64 a1, Value.int .i64 a2, Value.int .i64 a3, undef, undef, Value.pointer (some ⟨w.heap.size, 0, none⟩), undef, Value.string ⟨#[]⟩, Value.int .i64 0, Value.pointer (some ⟨w1.heap.size + 1, 0, none⟩), Value.pointer (some ⟨Bx, 0, none⟩), Value.bool false, Value.slice A0 l0.length c0, Value.int .i64 0, Value.bool false, Value.bool false, Value.int .i64 a1, Value.bool false, Value.bool false, Value.int .i64 a1, Value.bool false, Value.bool false, Value.bool false, Value.int .i64 a2, Value.bool false, Value.bool false, Value.bool false, Value.int .i64 a3, Value.bool false, Value.bool false, Value.bool false, Value.int .i64 a3, Value.bool false, Value.bool false, Value.bool false, Value.int .i64 a2, Value.int .i64 a1, Value.bool false, Value.int .i64 a3, Value.int .i64 a1, Value.int .i64 a2, Value.int .i64 (a1 - a2), Value.int .i64 (m : Int), Value.slice (some ⟨w1.heap.size, 0, none⟩) m m, Value.slice A0 l0.length c0, Value.int .i64 a2, Value.int .i64 a2, Value.slice (some ⟨w1.heap.size, 0, none⟩) m m, Value.int .i64 (m : Int), Value.int .i64 (a2 + m), Value.func (.func 32) #[] #[.pointer (some ⟨w1.heap.size + 1 + 1, 0, none⟩), .pointer (some ⟨w1.heap.size + 1 + 1 + 1, 0, none⟩), .pointer (some ⟨w1.heap.size + 1 + 1 + 2, 0, none⟩)], Value.agg #[.int .i64 x.1.f0, .string x.1.f1], undef, undef, undef, undef, undef, undef, undef, undef, undef, undef, undef], defers := [] })
    ?hAx ?assign ?body ?done ?stop
  case hAx =>
    rintro x a' s A B' row ⟨Bx, hBx, bX, rfl⟩ hg hr
    exact ⟨Bx, hBx, Boxed2.own Bx x.1 () A B' row bX hg (fun r e => (hr r e).2), rfl⟩
  case assign =>
    rintro l pre x W K ⟨⟨y0, yr, y6, y1, y2, y3⟩, hB⟩ hK
    gi_wp2
    exact hK _ _ ((KeepsOthers.alloc _ _).from _) (KpB.of_below ((Below.refl _ W).alloc (Nat.le_refl _) _) hB.size (fun k hk => by have := y3.lt; omega)) ⟨⟨y0.alloc _, yr.alloc _, y6.alloc _, y1.alloc _, y2.alloc _, y3.alloc _⟩, hB.alloc hB.size _⟩ ⟨W.heap.size, y0.lt, World.alloc_heap_new W _, rfl⟩
  case body =>
    rintro l pre ⟨x, e1, e2, e3⟩ a' W hl ⟨r, hr⟩ ⟨⟨y0, yr, y6, y1, y2, y3⟩, hB⟩ ⟨Bx, hBx, bX, rfl⟩ hlt
    have hc := y0.cell
    have h6 := y6.cell
    have hx0 := bX.cell0
    have hx1 := bX.cell1
    dsimp only at hx0 hx1 bX
    have hsl := fun W => run_low (P := Try.prog) Try.underlying51 (fun W => rfl) w1.heap.size m (x.f0 - a2) (by omega) (by omega) W
    have hwr : IntKind.i64.wrap (x.f0 - a2) = x.f0 - a2 := IntWalk.i64_in _ ⟨by omega, by omega⟩
    have ho : (x.f0 - a2).toNat + x.f1.size ≤ m := by omega
    have hcp : (Builtin.copy_ #[51, 9] 3 #[.slice (some ⟨w1.heap.size, (x.f0 - a2).toNat, none⟩) (m - (x.f0 - a2).toNat) (m - (x.f0 - a2).toNat), .string x.f1]).run Try.prog W.drew = .ok (goInt x.f1.size) (W.drew.setCells w1.heap.size (x.f0 - a2).toNat (x.f1.data.toList.map fun b => Value.int .u8 (b.toNat : Int))) :=
      run_copy_string W.drew 51 9 3 5 w1.heap.size (x.f0 - a2).toNat (m - (x.f0 - a2).toNat) (m - (x.f0 - a2).toNat) x.f1 Try.underlying51 (fun W => rfl) (by omega) (fun j hj => by rw [show W.drew.cell? _ = W.cell? _ from rfl, yr.cell (i := (x.f0 - a2).toNat + j) (by omega)]; rfl) (fun j hj => yr.frozen _)
    clear ho
    have YR := Aside0.mk yr
    have YS := Aside0.mk (And.intro y0 (And.intro y6 (And.intro y1 (And.intro y2 (And.intro y3 hB)))))
    have bB := Boxed2.lt bX
    clear yr hr y0 y6 y1 y2 y3 hB hlt bX
    gi_wp2_with fail
    refine Go.Proofs.YtmknehabmloebaaW.Fence.wpIn_region_held (S := fun W' => W'.cell? ⟨w1.heap.size + 1, 0, none⟩ = some (.slice (some ⟨w1.heap.size, 0, none⟩) m m) ∧ W'.cell? ⟨w.heap.size, 0, none⟩ = some (.int .i64 a2) ∧ W'.cell? ⟨Bx, 0, none⟩ = some (.int .i64 x.f0) ∧ W'.cell? ⟨Bx, 1, none⟩ = some (.string x.f1)) (by kernel_rfl) (by rintro ⟨_, _, h⟩; exact h) (Go.Proofs.YtmknehabmloebaaW.Fence.no_defer (by kernel_rfl)) ?_
    refine wpAnyH_take (i := 0) (v := .slice (some ⟨w1.heap.size, 0, none⟩) m m) rfl (by kernel_rfl) (by kernel_rfl) (by kernel_rfl) (fun _ _ _ h => h) (Or.inl ⟨by rfl, fun W' hW' => ?_⟩) ⟨hc, h6, hx0, hx1⟩ ?_
    · obtain ⟨s1, s2, s3, s4⟩ := hW'
      go_simp
    refine wpAnyH_take (i := 1) (v := .pointer (some ⟨Bx, 0, none⟩)) rfl (by kernel_rfl) (by kernel_rfl) (by kernel_rfl) (fun _ _ _ h => h) (Or.inl ⟨by rfl, fun W' hW' => ?_⟩) ⟨hc, h6, hx0, hx1⟩ ?_
    · obtain ⟨s1, s2, s3, s4⟩ := hW'
      go_simp
    refine wpAnyH_take (i := 2) (v := .int .i64 x.f0) rfl (by kernel_rfl) (by kernel_rfl) (by kernel_rfl) (fun _ _ _ h => h) (Or.inl ⟨by rfl, fun W' hW' => ?_⟩) ⟨hc, h6, hx0, hx1⟩ ?_
    · obtain ⟨s1, s2, s3, s4⟩ := hW'
      go_simp
    refine wpAnyH_take (i := 3) (v := .int .i64 a2) rfl (by kernel_rfl) (by kernel_rfl) (by kernel_rfl) (fun _ _ _ h => h) (Or.inl ⟨by rfl, fun W' hW' => ?_⟩) ⟨hc, h6, hx0, hx1⟩ ?_
    · obtain ⟨s1, s2, s3, s4⟩ := hW'
      go_simp
    refine wpAnyH_take (i := 4) (v := .int .i64 (x.f0 - a2)) rfl (by kernel_rfl) (by kernel_rfl) (by kernel_rfl) (fun _ _ _ h => h) (Or.inl ⟨by rfl, fun W' hW' => ?_⟩) ⟨hc, h6, hx0, hx1⟩ ?_
    · obtain ⟨s1, s2, s3, s4⟩ := hW'
      go_simp
    refine wpAnyH_take (i := 5) (v := .slice (some ⟨w1.heap.size, (x.f0 - a2).toNat, none⟩) (m - (x.f0 - a2).toNat) (m - (x.f0 - a2).toNat)) rfl (by kernel_rfl) (by kernel_rfl) (by kernel_rfl) (fun _ _ _ h => h) (Or.inl ⟨by rfl, fun W' hW' => ?_⟩) ⟨hc, h6, hx0, hx1⟩ ?_
    · obtain ⟨s1, s2, s3, s4⟩ := hW'
      go_simp
    refine wpAnyH_take (i := 6) (v := .pointer (some ⟨Bx, 1, none⟩)) rfl (by kernel_rfl) (by kernel_rfl) (by kernel_rfl) (fun _ _ _ h => h) (Or.inl ⟨by rfl, fun W' hW' => ?_⟩) ⟨hc, h6, hx0, hx1⟩ ?_
    · obtain ⟨s1, s2, s3, s4⟩ := hW'
      go_simp
    refine wpAnyH_take (i := 7) (v := .string x.f1) rfl (by kernel_rfl) (by kernel_rfl) (by kernel_rfl) (fun _ _ _ h => h) (Or.inl ⟨by rfl, fun W' hW' => ?_⟩) ⟨hc, h6, hx0, hx1⟩ ?_
    · obtain ⟨s1, s2, s3, s4⟩ := hW'
      go_simp
    refine wpAnyH_all (rs := [8]) (by kernel_rfl) (by simp) ?_
    intro i hi8
    obtain rfl : i = 8 := by simpa using hi8
    unfold wpOp
    simp only []
    refine .inl ?_
    go_simp
    obtain ⟨y0, y6, y1, y2, y3, hB⟩ := YS.out
    have hz := fun k (hk : k ≠ w1.heap.size) => heap_setCells w1.heap.size (x.f1.data.toList.map fun b => Value.int .u8 (b.toNat : Int)) (x.f0 - a2).toNat W.drew k hk
    have hcells := fun (B o : Nat) (hk : B ≠ w1.heap.size) => show (W.drew.setCells w1.heap.size (x.f0 - a2).toNat (x.f1.data.toList.map fun b => Value.int .u8 (b.toNat : Int))).cell? ⟨B, o, none⟩ = W.cell? ⟨B, o, none⟩ by simp only [World.cell?, hz B hk]; rfl
    refine ⟨⟨(hcells _ _ (by omega)).trans hc, (hcells _ _ (by omega)).trans h6, (hcells _ _ (by omega)).trans hx0, (hcells _ _ (by omega)).trans hx1⟩, wpAnyH_done (by kernel_rfl) ?_ _⟩
    have hsl2 : W.heap.size ≤ (W.drew.setCells w1.heap.size (x.f0 - a2).toNat (x.f1.data.toList.map fun b => Value.int .u8 (b.toNat : Int))).heap.size := (keepsOthers_setCells _ _ _ W.drew).size
    refine ⟨⟨((keepsOthers_setCells _ _ _ W.drew).from W0.heap.size).size, ((keepsOthers_setCells _ _ _ W.drew).from W0.heap.size).same⟩, ⟨below_setCells (by omega) _ _ _ (Below.refl w.heap.size W).drew, fun k hk => hz k (by omega)⟩, ⟨(hz _ (by omega)).trans y0, ?_, (hz _ (by omega)).trans y6, (hz _ (by omega)).trans y1, (hz _ (by omega)).trans y2, (hz _ (by omega)).trans y3⟩, below_setCells (by omega) _ _ _ hB.drew⟩
    rw [List.map_append, List.map_cons, List.map_nil, seen_snoc]
    refine (rowIs_setCells (x.f1.data.toList.map fun b => Value.int .u8 (b.toNat : Int)) (x.f0 - a2).toNat W.drew _ YR.out.drew).congr (fun j hj => ?_)
    simp only [List.length_map]
    rw [← Lib.size_eq]
    unfold ov
    by_cases hjj : (x.f0 - a2).toNat ≤ j ∧ j < (x.f0 - a2).toNat + x.f1.size
    · rw [if_pos hjj, if_pos hjj]
      have hjs : j - (x.f0 - a2).toNat < x.f1.size := by omega
      have hjl : j - (x.f0 - a2).toNat < x.f1.data.toList.length := by rw [← Lib.size_eq]; exact hjs
      rw [List.getElem?_map, List.getElem?_eq_getElem hjl]
      simp only [Option.map_some, Option.getD_some, bt, Int.toNat_natCast, hjs, dite_true]
      rfl
    · rw [if_neg hjj, if_neg hjj]
  case done =>
    rintro D ys W hD hS ⟨⟨y0, yr, y6, y1, y2, y3⟩, hB⟩ hK
    have hc := y0.cell
    have hcv := run_convert_bytes_arg W 51 5 Try.underlying51 Try.underlying5 w1.heap.size 0 m m ((List.range m).map (seen a2 (ys.map (·.1)))) (by simp) (fun i hi => by rw [Nat.zero_add, yr.cell hi]; simp [List.getD_eq_getElem?_getD, hi]) 9 Try.underlying9
    have HS := Aside0.mk hS
    have HBW := Aside0.mk hB
    have HK := Aside0.mk hK
    clear hS hB hK
    gi_wp2_with fail
    refine ⟨by simp, .inl ⟨_, _, rfl, run_takeDeferred HK.out, ?_⟩⟩
    refine ⟨.tuple #[.string (strOfNums ((List.range m).map (seen a2 (ys.map (·.1))))), .int .i64 0], by simp [results, Try.f16, go_sem], ?_, HBW.out.trans (belowK_b (w := w) (Nat.le_refl _) _ D _ _ (by omega) HK.out rfl rfl)⟩
    rw [HS.out]
  case stop =>
    rintro D c pre W _ _ h _
    exact h.elim
end Go.Proofs.Ytmknehabmloebaa.PBlob
