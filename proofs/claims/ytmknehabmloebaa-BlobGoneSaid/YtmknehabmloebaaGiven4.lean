import Derived.Test.YtmknehabmloebaaGiven3
namespace Go.Proofs.Ytmknehabmloebaa.PBlob
open Go.RowKit Go.Shelf Go.Proofs.YtmknehabmloebaaW.PrintWords Go.Proofs.YtmknehabmloebaaW.PrintLast Go.Proofs.YtmknehabmloebaaW.PrintMore
set_option linter.unusedVariables false
set_option linter.unusedSimpArgs false
attribute [local go_sem] Oper.semAt_some

/-- The runs behind a write, ahead of joining. -/
def laid (l : List S41) (at_ : Int) (data : ByteArray) : List S41 := clip l 0 at_ ++ [⟨at_, data⟩] ++ clip l (at_ + data.size) 1048576

theorem clip_len (l : List S41) (a b : Int) : (clip l a b).length ≤ l.length := List.length_filterMap_le _ _
theorem cell_two_new' (w : World) {B : Nat} (hB : w.heap.size = B) (a b : Value) (t : TypeId) : ∀ j u, [a, b][j]? = some u → (w.alloc (.cells #[a, b] t)).cell? ((⟨B, 0, none⟩ : Addr).add j) = some u := by subst hB; exact cell_two_new w a b t
theorem R_putObj {α : Type} {d : Kd α} {e base : Nat} {ok : Nat → Prop} {W : World} {v : Value} {xs : List α} (h : Kd.R d e W base ok v xs) {l : Nat} {o : Obj} (hl : W.heap[l]? = some o) (ho : o.isCells = false) (o' : Obj) : Kd.R d e (W.putObj l o') base ok v xs :=
  Kd.R_mono (Kd.R_move (Kd.R_bound h) (fun k hk => World.putObj_heap_other (fun e => by
    obtain ⟨_, _, _, q, _, cells, hc⟩ := hk
    rw [e, hl] at hc
    cases hc; cases ho))) (fun _ hk => hk.1)
theorem boxed_own' (B : Nat) (t : TypeId) (v : Value) {β : Type} : Own (fun (_ : β) W => Boxed W B t v) := by
  rintro s X Y row hv hg hrow
  refine hv.kept hg (fun e' => ?_)
  obtain ⟨o, ho, hc⟩ := hrow B e'.symm
  rw [show X.heap[B]? = _ from hv] at ho; cases ho; cases hc
theorem boxed_over {W w1 : World} {n₀ k B : Nat} {t e : TypeId} {size n : Nat} {u v : Value} {xs : List Value} {tmp : Obj} (h : Boxed W k t u) (hte : t ≠ e) (hrow : W.ownsRow n₀ e size v n xs) (hg : (W.alloc tmp).grownBy w1 v.ownBlock) (hk : B ≠ k) (v' : Value) : Boxed (w1.setCell ⟨B, 0, none⟩ v') k t u :=
  ((h.alloc tmp).kept hg (h.not_row hte hrow)).kept (grownBy_setCell' w1 B v') (fun e => hk (by cases e; rfl))
def acc (l : List S41) (a1 : Int) (a2 : ByteArray) (pre : List S41) : List S41 := clip l 0 a1 ++ [⟨a1, a2⟩] ++ pre
theorem acc_nil (l : List S41) (a1 : Int) (a2 : ByteArray) : acc l a1 a2 [] = clip l 0 a1 ++ [⟨a1, a2⟩] := by simp [acc]
theorem acc_len (l : List S41) (a1 : Int) (a2 : ByteArray) (pre : List S41) : (acc l a1 a2 pre).length = (clip l 0 a1).length + 1 + pre.length := by simp [acc]; omega
theorem acc_snoc (l : List S41) (a1 : Int) (a2 : ByteArray) (pre : List S41) (x : S41) : acc l a1 a2 (pre ++ [x]) = acc l a1 a2 pre ++ [x] := by simp [acc]
theorem laid_acc (l : List S41) (a1 : Int) (a2 : ByteArray) : laid l a1 a2 = acc l a1 a2 (clip l (a1 + a2.size) 1048576) := rfl
set_option maxRecDepth 100000 in
set_option maxHeartbeats 800000 in
theorem write_main (k : Nat) (A0 : Option Addr) (c0 : Nat) (l0 : List S41) (a1 : Int) (a2 : ByteArray) (r : List S41) (w : World) (hr0 : Kd.C k41 w A0 l0.length l0) (hc0 : l0.length ≤ c0)
    (hch : chk 0 l0 = true) (h1 : 0 ≤ a1) (h2 : (a2.size : Int) ≤ 1048576) (h3 : a1 ≤ 1048576 - a2.size) (h4 : ¬ a2.toList = ([] : List UInt8)) (hj : blob_joined.f k (laid l0 a1 a2) = some r) :
    Calls Try.prog 13 #[.slice A0 l0.length c0, .int .i64 a1, .string a2] w fun e w' => ∃ v0_ : Value, e = .returned (.tuple #[v0_, .int .i64 0]) ∧ Kd.R k41 41 w' w.heap.size (fun _ => True) v0_ r ∧ Below w.heap.size w w' := by
  have hck := blob_Check.calls (l0.length + 1) A0 c0 l0 _ w hr0 hc0 (check_f l0 hr0.2.1)
  rw [if_pos hch] at hck
  obtain ⟨i0, hi, hz0, hz1, hz2⟩ := info_parts info41
  have HR0 := Aside0.mk hr0
  have HCK := Aside0.mk hck
  have HCH := Aside0.mk hch
  have HJ := Aside0.mk hj
  have hgd := Aside0.mk (chk_good (by omega) hch)
  have hfew := Aside0.mk (chk_few (by omega) hch).1
  have t1 : decide (a1 < 0) = false := decide_eq_false (by omega)
  have t2 : decide (1048576 < (a2.size : Int)) = false := decide_eq_false (by omega)
  have t2' : decide (1048576 < a2.size) = false := decide_eq_false (by omega)
  have t3 : decide (1048576 - (a2.size : Int) < a1) = false := decide_eq_false (by omega)
  have t4 : (a2.toList == ([] : List UInt8)) = false := beq_eq_false_iff_ne.mpr h4
  clear hr0 hc0 hck hch hj h4
  refine callsIn_wide (n := 6) |>.1 ?_
  refine callsIn_of_wp_marks Try.func13 rfl trivial ?_ rfl
  simp only [Try.ntmps13, List.size_toArray, List.length_cons, List.length_nil, Nat.reduceAdd, Nat.reduceSub, Array.replicate_succ, Array.replicate_zero, List.push_toArray, List.append_toArray, List.nil_append, List.cons_append]
  have h18 : Fence.wide.fn 18 := trivial
  have h28 : Fence.wide.fn 28 := trivial
  have h27 : Fence.wide.fn 27 := trivial
  have hz26 : 1 ≤ 6 := by omega
  gi_wp2_with (first
        | (gi_at_call 18; refine (callsIn_wide.2 HCK.out).mono ?_; rintro e w1 ⟨rfl, hb⟩; have HB := Aside0.mk hb; clear hb)
        | (gi_at_call 28; refine (callsIn_wide.2 (clipped_calls _ _ _ _ _ _)).mono ?_; rintro e w2 ⟨rfl, rfl⟩)
        | (gi_at_call 27; refine (callsIn_wide.2 (collected A0 c0 l0 0 a1 hgd.out (by omega) (by omega) h1 (by have := hfew.out; omega) _ (HR0.out.imp_ HB.out (fun _ _ h => h)))).mono ?_; rintro e w2 ⟨v, rfl, hR, hb⟩; have HR := Aside0.mk hR; have HB2 := Aside0.mk (below_step HB.out hb); have hss := HB2.out.size; clear hR hb; obtain ⟨A1, c1, rfl⟩ := own_slice HR.out)
        | (gi_at_builtin; refine wpListIn_append_own _ rfl _ _ 22 rfl w.heap.size 41 i0 (.agg #[(.int .i64 0), (.string ⟨#[]⟩)]) 2 24 Try.underlying22 hi hz0 hz1 hz2 rfl (by decide) _ _ _ rfl (own_weaken ((HR.out.alloc _).alloc _) HB.out.size) ⟨w2.heap.size + 1, 0, none⟩ 1 1 [.int .i64 a1, .string a2] rfl rfl (cell_two_new' _ (by simp) _ _ _) (by simp [Value.oneCell']) (by have := hfew.out; simp only [maxLen]; have := clip_len l0 0 a1; omega) (by have := hfew.out; have := clip_len l0 0 a1; omega) (by simp; omega) ?_; intro v' w3 hown' hgrow _; obtain ⟨g', cap', rfl⟩ := ownsRow_succ hown'; obtain ⟨hv1, hv2, hr2, hk2, hb2⟩ := (Boxed.new w2 22 (Value.slice A1 (clip l0 0 a1).length c1)).appended (n₀ := w.heap.size) (by decide) (own_weaken (HR.out.alloc _) HB.out.size) (by simp; omega) (by omega) hown' hgrow; have hc1 := hv1.cell; have hf1 := hv1.frozen; have HOWN := Aside0.mk hr2; have HV2 := Aside0.mk hv2; have HB3 := Aside0.mk ((HB2.out.alloc (by omega) _).trans hb2); clear hv1 hv2 hr2 hk2 hb2 hown' hgrow))
  have HOWN' : Aside0 ((w3.setCell ⟨w2.heap.size, 0, none⟩ (.slice (some ⟨g', 0, none⟩) ((clip l0 0 a1).length + 1) cap')).ownsRow w.heap.size 41 2 (.slice (some ⟨g', 0, none⟩) ((clip l0 0 a1).length + 1) cap') (clip l0 0 a1 ++ [(⟨a1, a2⟩ : S41)]).length (flat41 (clip l0 0 a1 ++ [(⟨a1, a2⟩ : S41)]))) := ⟨by rw [flat41_snoc, List.length_append]; exact HOWN.out⟩
  have hw24 : w2.heap.size < (w3.setCell ⟨w2.heap.size, 0, none⟩ (.slice (some ⟨g', 0, none⟩) ((clip l0 0 a1).length + 1) cap')).heap.size := HV2.out.lt
  have hs34 : w3.heap.size = (w3.setCell ⟨w2.heap.size, 0, none⟩ (.slice (some ⟨g', 0, none⟩) ((clip l0 0 a1).length + 1) cap')).heap.size := by simp
  clear HOWN hc1 hf1
  generalize w3.setCell ⟨w2.heap.size, 0, none⟩ (.slice (some ⟨g', 0, none⟩) ((clip l0 0 a1).length + 1) cap') = w4 at *
  rw [hs34]
  clear hs34
  have hs4 : w.heap.size ≤ w4.heap.size := HB3.out.size
  have x1 := Boxed.new w4 22 (.slice A0 l0.length c0)
  have x2 := Boxed.new (w4.alloc (.cells #[.slice A0 l0.length c0] 22)) 3 (.int .i64 (a1 + a2.size))
  have x3 := Boxed.new ((w4.alloc (.cells #[.slice A0 l0.length c0] 22)).alloc (.cells #[.int .i64 (a1 + a2.size)] 3)) 3 (.int .i64 1048576)
  simp only [World.size_alloc] at x2 x3
  have hBW : Below w.heap.size w (((w4.alloc (.cells #[.slice A0 l0.length c0] 22)).alloc (.cells #[.int .i64 (a1 + a2.size)] 3)).alloc (.cells #[.int .i64 1048576] 3)) := ((HB3.out.alloc hs4 _).alloc (by simp; omega) _).alloc (by simp; omega) _
  have x1' := (x1.alloc (.cells #[.int .i64 (a1 + a2.size)] 3)).alloc (.cells #[.int .i64 1048576] 3)
  have x2' := x2.alloc (.cells #[.int .i64 1048576] 3)
  have HV4 := ((HV2.out.alloc (.cells #[.slice A0 l0.length c0] 22)).alloc (.cells #[.int .i64 (a1 + a2.size)] 3)).alloc (.cells #[.int .i64 1048576] 3)
  have HO4 := ((HOWN'.out.alloc (.cells #[.slice A0 l0.length c0] 22)).alloc (.cells #[.int .i64 (a1 + a2.size)] 3)).alloc (.cells #[.int .i64 1048576] 3)
  have hsW : (((w4.alloc (.cells #[.slice A0 l0.length c0] 22)).alloc (.cells #[.int .i64 (a1 + a2.size)] 3)).alloc (.cells #[.int .i64 1048576] 3)).heap.size = w4.heap.size + 3 := by simp
  clear x1 x2 HV2 HOWN' 
  generalize hW0 : ((w4.alloc (.cells #[.slice A0 l0.length c0] 22)).alloc (.cells #[.int .i64 (a1 + a2.size)] 3)).alloc (.cells #[.int .i64 1048576] 3) = W0 at *
  clear hW0
  refine wpIn_rangeFunc_ownH rfl (by omega) (gf := 32) (lb := #[.pointer (some ⟨w4.heap.size, 0, none⟩), .pointer (some ⟨w4.heap.size + 1, 0, none⟩), .pointer (some ⟨w4.heap.size + 2, 0, none⟩)]) rfl trivial (enters_of Try.func32 (by kernel_rfl) rfl)
    (clip_stops 5 (by omega) w4.heap.size w.heap.size A0 c0 l0 (a1 + a2.size) 1048576 hgd.out (by omega) (by omega) (by omega) W0 (by omega) (by omega) x1'.cell x2'.cell x3.cell (fun W' h => HR0.out.imp_ (hBW.trans h) (fun _ _ h => h)))
    KpB.trans (fun W l o o' hl ho hc _ => KpB.putObj (B := W0.heap.size) (by omega) (fun k hk => by omega) W l o o' hl ho hc) (Below.refl _ _) (fun _ => rfl)
    (fun pre W => ((∃ v, Boxed W w2.heap.size 22 v ∧ W.ownsRow w.heap.size 41 2 v (acc l0 a1 a2 pre).length (flat41 (acc l0 a1 a2 pre)) ∧ True) ∧ Boxed W w4.heap.size 22 (.slice A0 l0.length c0) ∧ Boxed W (w4.heap.size + 1) 3 (.int .i64 (a1 + a2.size)) ∧ Boxed W (w4.heap.size + 2) 3 (.int .i64 1048576)) ∧ Below w.heap.size w W)
    (fun _ _ _ => False)
    (OwnFrom.and (OwnFrom.and (Own.from (holdsRow_own w.heap.size w2.heap.size 22 41 2 (fun pre : List S41 => (acc l0 a1 a2 pre).length) (fun pre => flat41 (acc l0 a1 a2 pre)) (fun pre v => True)) _) (OwnFrom.and (Own.from (boxed_own' _ _ _) _) (OwnFrom.and (Own.from (boxed_own' _ _ _) _) (Own.from (boxed_own' _ _ _) _)))) (ownFrom_below (Nat.le_refl _) (by omega)))
    (fun _ _ _ _ _ hs _ _ => hs)
    ⟨⟨⟨_, HV4, by rw [acc_nil]; exact HO4, trivial⟩, x1', x2', x3⟩, hBW⟩
    (fun x a' W => ∃ Bx, w2.heap.size < Bx ∧ Boxed2 W Bx x ∧ a' = { tmps := #[Value.slice A0 l0.length c0, Value.int .i64 a1, Value.string a2, undef, undef, undef, Value.slice none 0 0, Value.int .i64 0, Value.pointer (some ⟨w2.heap.size, 0, none⟩), Value.pointer (some ⟨Bx, 0, none⟩), Value.bool false, Value.slice A0 l0.length c0, Value.int .i64 0, Value.bool false, Value.bool false, Value.int .i64 a1, Value.bool false, Value.bool false, Value.string a2, Value.int .i64 a2.size, Value.bool false, Value.bool false, Value.int .i64 a1, Value.string a2, Value.int .i64 a2.size, Value.int .i64 (1048576 - a2.size), Value.bool false, Value.bool false, Value.bool false, Value.string a2, Value.bool false, undef, undef, Value.slice A0 l0.length c0, Value.int .i64 a1, Value.func (.func 32) #[] #[.pointer (some ⟨w1.heap.size, 0, none⟩), .pointer (some ⟨w1.heap.size + 1, 0, none⟩), .pointer (some ⟨w1.heap.size + 2, 0, none⟩)], Value.slice A1 (clip l0 0 a1).length c1, Value.slice A1 (clip l0 0 a1).length c1, Value.int .i64 a1, Value.string a2, Value.agg #[.int .i64 a1, .string a2], Value.slice (some ⟨w2.heap.size + 1, 0, none⟩) 1 1, Value.slice (some ⟨g', 0, none⟩) ((clip l0 0 a1).length + 1) cap', Value.slice A0 l0.length c0, Value.int .i64 a1, Value.string a2, Value.int .i64 a2.size, Value.int .i64 (a1 + a2.size), Value.func (.func 32) #[] #[.pointer (some ⟨w4.heap.size, 0, none⟩), .pointer (some ⟨w4.heap.size + 1, 0, none⟩), .pointer (some ⟨w4.heap.size + 2, 0, none⟩)], Value.agg #[.int .i64 x.f0, .string x.f1], undef, undef, undef, undef, undef, undef], defers := [] })
    ?hAx ?assign ?body ?done ?stop
  case hAx =>
    rintro x a' s A B' row ⟨Bx, hBx, bX, rfl⟩ hg hr
    exact ⟨Bx, hBx, Boxed2.own Bx x () A B' row bX hg (fun r e => (hr r e).2), rfl⟩
  case assign =>
    rintro l pre x W K ⟨⟨⟨v, hv, hrow, _⟩, y1, y2, y3⟩, hB⟩ hK
    gi_wp2
    exact hK _ _ ((KeepsOthers.alloc _ _).from _) (KpB.of_below ((Below.refl _ W).alloc (Nat.le_refl _) _) hB.size (fun k hk => by have := y3.lt; omega)) ⟨⟨⟨v, hv.alloc _, hrow.alloc _, trivial⟩, y1.alloc _, y2.alloc _, y3.alloc _⟩, hB.alloc hB.size _⟩ ⟨W.heap.size, hv.lt, World.alloc_heap_new W _, rfl⟩
  case body =>
    rintro l pre x a' W hl ⟨r, hr⟩ ⟨⟨⟨v, hv, hrow, _⟩, y1, y2, y3⟩, hB⟩ ⟨Bx, hBx, bX, rfl⟩ hlt
    have hc := hv.cell
    have hx0 := bX.cell0
    have hx1 := bX.cell1
    have hNl : (acc l0 a1 a2 pre).length ≤ 5000000 := by rw [acc_len]; have := hfew.out; have := clip_len l0 0 a1; omega
    gi_wp2_with (gi_at_builtin; refine wpListIn_append_own _ rfl _ _ 22 rfl w.heap.size 41 i0 (.agg #[(.int .i64 0), (.string ⟨#[]⟩)]) 2 24 Try.underlying22 hi hz0 hz1 hz2 rfl (by decide) _ _ _ rfl (hrow.alloc _) ⟨W.heap.size, 0, none⟩ 1 1 [.int .i64 x.f0, .string x.f1] rfl rfl (cell_two_new _ _ _ _) (by simp [Value.oneCell']) (by simp only [maxLen]; omega) (by omega) (by have := hB.size; simp; omega) ?_; intro v' w1 hown' hgrow _; obtain ⟨g', cap', rfl⟩ := ownsRow_succ hown'; obtain ⟨hv1, hv2, hr2, hk2, hb2⟩ := hv.appended (by decide) hrow hB.size (by omega) hown' hgrow; have hc1 := hv1.cell; have hf1 := hv1.frozen)
    have z1 := fun v' => boxed_over (B := w2.heap.size) (k := w4.heap.size) y1 (by decide) hrow hgrow (by omega) v'
    have z2 := fun v' => boxed_over (B := w2.heap.size) (k := w4.heap.size + 1) y2 (by decide) hrow hgrow (by omega) v'
    have z3 := fun v' => boxed_over (B := w2.heap.size) (k := w4.heap.size + 2) y3 (by decide) hrow hgrow (by omega) v'
    refine ⟨hk2.from _, ⟨hb2, fun k hk => ?_⟩, ⟨⟨_, hv2, ?_, trivial⟩, z1 _, z2 _, z3 _⟩, hB.trans hb2⟩
    · rcases (show k = w4.heap.size ∨ k = w4.heap.size + 1 ∨ k = w4.heap.size + 2 by omega) with rfl | rfl | rfl
      · exact (z1 _).trans y1.symm
      · exact (z2 _).trans y2.symm
      · exact (z3 _).trans y3.symm
    · rw [acc_snoc, flat41_snoc, List.length_append]
      exact hr2
  case done =>
    rintro D ys W hD rfl ⟨⟨⟨v, hv, hrow, _⟩, y1, y2, y3⟩, hB⟩ hK
    rw [← laid_acc] at hrow
    have hc := hv.cell
    obtain ⟨A2, c2, rfl, hle2, hC2⟩ := Kd.R_reads (R41_of_owns hrow)
    have HC2 := Aside0.mk hC2
    have HL2 := Aside0.mk hle2
    have HBW := Aside0.mk hB
    have HK := Aside0.mk hK
    clear hC2 hle2 hB hK hrow
    have h29 : Fence.wide.fn 29 := trivial
    have hz15 : 1 ≤ 5 := by omega
    gi_wp2_with (gi_at_call 29; refine (callsIn_wide.2 (blob_joined.calls k A2 c2 (laid l0 a1 a2) r _ HC2.out HL2.out HJ.out)).mono ?_; rintro e w5 ⟨v5, rfl, hR, hb⟩; have HR5 := Aside0.mk hR; have HB5 := Aside0.mk hb; clear hR hb; obtain ⟨A5, c5, rfl⟩ := Kd.R_slice HR5.out)
    have hK5 := (HB5.out.block D (Array.getElem?_eq_some_iff.1 HK.out).1).trans HK.out
    refine ⟨by simp, .inl ⟨_, _, rfl, run_takeDeferred hK5, ?_⟩⟩
    refine ⟨.tuple #[.slice A5 r.length c5, .int .i64 0], by simp [results, Try.f13, go_sem], _, rfl, R_putObj (Kd.R_lower HR5.out HBW.out.size) hK5 rfl _, ?_⟩
    exact (below_step HBW.out HB5.out).trans (belowK_b (w := w) (Nat.le_refl _) _ D _ _ (by omega) hK5 rfl rfl)
  case stop =>
    rintro D c pre W _ _ h _
    exact h.elim
end Go.Proofs.Ytmknehabmloebaa.PBlob
