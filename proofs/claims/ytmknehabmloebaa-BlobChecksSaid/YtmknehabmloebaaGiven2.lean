import Derived.WalkSmall
import Derived.Test.YtmknehabmloebaaGiven1
namespace Go.Proofs.Ytmknehabmloebaa.PBlob
open Go.RowKit Go.Shelf Go.Proofs.YtmknehabmloebaaW.PrintWords Go.Proofs.YtmknehabmloebaaW.PrintLast Go.Proofs.YtmknehabmloebaaW.PrintMore
set_option linter.unusedVariables false
set_option linter.unusedSimpArgs false
attribute [local go_sem] Oper.semAt_some

/-- A run's cells. -/
def cells41 (x : S41) : List Value := [.int .i64 x.f0, .string x.f1]
def flat41 (l : List S41) : List Value := l.flatMap cells41
theorem flat41_snoc (l : List S41) (x : S41) : flat41 (l ++ [x]) = flat41 l ++ [.int .i64 x.f0, .string x.f1] := by simp [flat41, cells41]
theorem flat41_length (l : List S41) : (flat41 l).length = l.length * 2 := by
  induction l with
  | nil => rfl
  | cons a l ih => simp only [flat41, List.flatMap_cons, List.length_append] at ih ⊢; rw [ih]; simp [cells41]; omega
theorem reps41 (W : World) (base : Nat) (ok : Nat → Prop) : ∀ l : List S41, Reps (k41.M W base ok) 2 l (flat41 l) := by
  intro l
  have : ∀ l1 l2 : List S41, Reps (k41.M W base ok) 2 l1 (flat41 l1) → Reps (k41.M W base ok) 2 (l1 ++ l2) (flat41 (l1 ++ l2)) := by
    intro l1 l2
    induction l2 generalizing l1 with
    | nil => intro h; simpa using h
    | cons a l2 ih =>
      intro h
      have h2 := ih (l1 ++ [a]) (by rw [flat41_snoc]; exact h.snoc (k41_mkM W base ok a) rfl)
      simpa using h2
  simpa using this [] l (Reps.none _ _)
theorem R41_of_owns {w : World} {base : Nat} {v : Value} {l : List S41} (h : w.ownsRow base 41 2 v l.length (flat41 l)) : Kd.R k41 41 w base (fun _ => True) v l :=
  ⟨fun _ _ => trivial, _, h, reps41 _ _ _ _⟩

/-- clipped(l, from, to): the arguments are boxed; the function value captures the boxes. -/
theorem clipped_calls (A0 : Option Addr) (n c : Nat) (fr tt : Int) (w : World) :
    Calls Try.prog 28 #[.slice A0 n c, .int .i64 fr, .int .i64 tt] w fun e w' =>
      e = .returned (.func (.func 32) #[] #[.pointer (some ⟨w.heap.size, 0, none⟩), .pointer (some ⟨w.heap.size + 1, 0, none⟩), .pointer (some ⟨w.heap.size + 2, 0, none⟩)]) ∧
      w' = ((w.alloc (.cells #[.slice A0 n c] 22)).alloc (.cells #[.int .i64 fr] 3)).alloc (.cells #[.int .i64 tt] 3) := by
  go_enter Try.func28, Try.ntmps28
  go_wp2
  go_ret
  exact ⟨rfl, rfl⟩

/-- The function value of 'clipped' stops. -/
theorem clip_stops (n : Nat) (hn : 1 ≤ n) (B n₀ : Nat) (A0 : Option Addr) (c0 : Nat) (l0 : List S41) (fr tt : Int) (hg : Good l0) (hfr : 0 ≤ fr) (hfr2 : fr ≤ 2097152) (hto : 0 ≤ tt) (w : World) (hB : B + 2 < w.heap.size) (hn₀ : n₀ ≤ w.heap.size)
    (h1 : w.cell? ⟨B, 0, none⟩ = some (.slice A0 l0.length c0)) (h2 : w.cell? ⟨B + 1, 0, none⟩ = some (.int .i64 fr)) (h3 : w.cell? ⟨B + 2, 0, none⟩ = some (.int .i64 tt))
    (hC : ∀ W', Below n₀ w W' → Kd.C k41 W' A0 l0.length l0) :
    SeqStopsK Fence.wide n Try.prog 32 #[.pointer (some ⟨B, 0, none⟩), .pointer (some ⟨B + 1, 0, none⟩), .pointer (some ⟨B + 2, 0, none⟩)] (fun x : S41 => #[Value.agg #[.int .i64 x.f0, .string x.f1]]) (KpB n₀ fun k => B ≤ k ∧ k ≤ B + 2)
      (fun ys => ys = clip l0 fr tt) (fun pre => pre <+: clip l0 fr tt) l0.length w := fun l J Jx W hW hJ hJx hY h0 =>
  clipped1_in n hn l B (B + 1) (B + 2) n₀ (fun k => B ≤ k ∧ k ≤ B + 2) A0 c0 l0 fr tt hg hfr hfr2 hto J Jx W hJ hJx (Nat.le_trans hn₀ hW.size) (fun pre x W _ _ _ => hY pre x W)
    ((hW.cell (p := ⟨B, 0, none⟩) (by show B < _; omega)).trans h1) ((hW.cell (p := ⟨B + 1, 0, none⟩) (by show B + 1 < _; omega)).trans h2) ((hW.cell (p := ⟨B + 2, 0, none⟩) (by show B + 2 < _; omega)).trans h3)
    ⟨Nat.le_refl _, by omega⟩ ⟨by omega, by omega⟩ ⟨by omega, by omega⟩ (fun k hk => by have := hW.size; omega) (fun W' h => hC W' ((hW.mono hn₀).trans h)) h0

/-- A round's variable: a block of a run's two cells. -/
def Boxed2 (W : World) (B : Nat) (x : S41) : Prop := W.heap[B]? = some (.cells #[.int .i64 x.f0, .string x.f1] 41 (0, 0))
theorem Boxed2.lt {W : World} {B : Nat} {x : S41} (h : Boxed2 W B x) : B < W.heap.size := (Array.getElem?_eq_some_iff.1 h).1
theorem Boxed2.cell0 {W : World} {B : Nat} {x : S41} (h : Boxed2 W B x) : W.cell? ⟨B, 0, none⟩ = some (.int .i64 x.f0) := by simp [World.cell?, show W.heap[B]? = _ from h]
theorem Boxed2.cell1 {W : World} {B : Nat} {x : S41} (h : Boxed2 W B x) : W.cell? ⟨B, 1, none⟩ = some (.string x.f1) := by simp [World.cell?, show W.heap[B]? = _ from h]
theorem Boxed2.own (B : Nat) (x : S41) : Own (fun (_ : Unit) W => Boxed2 W B x) := by
  rintro s X Y row hv hg hrow
  refine (hg.block B hv.lt (fun e' => ?_)).trans hv
  obtain ⟨o, ho, hc⟩ := hrow B e'.symm
  rw [show X.heap[B]? = _ from hv] at ho; cases ho; cases hc
set_option maxRecDepth 100000 in
set_option maxHeartbeats 4000000 in
/-- slices.AppendSeq(nil, seq). -/
theorem appendSeq_in (n : Nat) (hn : 3 ≤ n) (g : Nat) (lb : Array Value) (eg : ∀ args w, (callFunc g args).run Try.prog w = .ok (.enter g args) w) (Kp : World → World → Prop) (S Sp : List S41 → Prop) (N : Nat) (hN : N ≤ 5000000000000) (w : World)
    (hKt : ∀ {A B C : World}, Kp A B → Kp B C → Kp A C) (hKp : ∀ A B : World, w.heap.size ≤ A.heap.size → Below w.heap.size A B → Kp A B)
    (hseq : SeqStopsK Fence.wide (n - 1) Try.prog g lb (fun x : S41 => #[Value.agg #[.int .i64 x.f0, .string x.f1]]) Kp S Sp N w) :
    CallsIn Fence.wide n Try.prog 31 #[.slice none 0 0, .func (.func g) #[] lb] w fun e w' => ∃ v ys, e = .returned v ∧ S ys ∧ w'.ownsRow w.heap.size 41 2 v ys.length (flat41 ys) ∧ Below w.heap.size w w' := by
  have h1 : 1 ≤ n := by omega
  obtain ⟨i0, hi, hz0, hz1, hz2⟩ := info_parts info41
  refine callsIn_of_wp_marks Try.func31 rfl trivial ?_ rfl
  simp only [Try.ntmps31, List.size_toArray, List.length_cons, List.length_nil, Nat.reduceAdd, Nat.reduceSub, Array.replicate_succ, Array.replicate_zero, List.push_toArray, List.append_toArray, List.nil_append, List.cons_append]
  gi_wp2
  have bO := Boxed.new w 22 (.slice none 0 0)
  have hB0 : Below w.heap.size w (w.alloc (.cells #[.slice none 0 0] 22)) := (Below.refl _ w).alloc (Nat.le_refl _) _
  refine wpIn_rangeFunc_ownH rfl h1 (gf := g) (lb := lb) rfl trivial eg hseq hKt (fun W l o o' hl ho hc hw => hKp _ _ (by have := (Array.getElem?_eq_some_iff.1 ho).1; simp at hl; omega) (belowK_b (w := w) (Nat.le_refl _) W l _ _ (by simp at hl; omega) ho hc hw)) hB0 (fun _ => rfl)
    (fun pre W => (∃ v, Boxed W w.heap.size 22 v ∧ W.ownsRow w.heap.size 41 2 v pre.length (flat41 pre) ∧ True) ∧ Below w.heap.size w W)
    (fun _ _ _ => False)
    (OwnFrom.and (Own.from (holdsRow_own w.heap.size w.heap.size 22 41 2 (fun pre : List S41 => pre.length) (fun pre => flat41 pre) (fun pre v => True)) _) (ownFrom_below (Nat.le_refl _) (by simp)))
    (fun _ _ _ _ _ hs _ _ => hs)
    ⟨⟨_, bO, World.ownsRow_nil _ _ _ _, trivial⟩, hB0⟩
    (fun x a' W => ∃ Bx, w.heap.size < Bx ∧ Boxed2 W Bx x ∧ a' = { tmps := #[.slice none 0 0, .func (.func g) #[] lb, .pointer (some ⟨w.heap.size, 0, none⟩), undef, .slice none 0 0, .pointer (some ⟨Bx, 0, none⟩), .func (.func g) #[] lb, .agg #[.int .i64 x.f0, .string x.f1], undef, undef, undef, undef, undef], defers := [] })
    ?hAx ?assign ?body ?done ?stop
  case hAx =>
    rintro x a' s A B' row ⟨Bx, hBx, bX, rfl⟩ hg hr
    exact ⟨Bx, hBx, Boxed2.own Bx x () A B' row bX hg (fun r e => (hr r e).2), rfl⟩
  case assign =>
    rintro l pre x W K ⟨⟨v, hv, hrow, _⟩, hB⟩ hK
    gi_wp2
    exact hK _ _ ((KeepsOthers.alloc _ _).from _) (hKp _ _ hB.size ((Below.refl _ W).alloc hB.size _)) ⟨⟨v, hv.alloc _, hrow.alloc _, trivial⟩, hB.alloc hB.size _⟩ ⟨W.heap.size, hv.lt, World.alloc_heap_new W _, rfl⟩
  case body =>
    rintro l pre x a' W hl ⟨r, hr⟩ ⟨⟨v, hv, hrow, _⟩, hB⟩ ⟨Bx, hBx, bX, rfl⟩ hlt
    have hc := hv.cell
    have hx0 := bX.cell0
    have hx1 := bX.cell1
    have hNl : pre.length + 1 ≤ 5000000000000 := by omega
    gi_wp2_with (gi_at_builtin; refine wpListIn_append_own _ rfl _ _ 22 rfl w.heap.size 41 i0 (.agg #[(.int .i64 0), (.string ⟨#[]⟩)]) 2 24 Try.underlying22 hi hz0 hz1 hz2 rfl (by decide) _ _ _ rfl (hrow.alloc _) ⟨W.heap.size, 0, none⟩ 1 1 [.int .i64 x.f0, .string x.f1] rfl rfl (cell_two_new _ _ _ _) (by simp [Value.oneCell']) (by simp only [maxLen]; omega) (by omega) (by have := hB.size; simp; omega) ?_; intro v' w1 hown' hgrow _; obtain ⟨g', cap', rfl⟩ := ownsRow_succ hown'; obtain ⟨hv1, hv2, hr2, hk2, hb2⟩ := hv.appended (by decide) hrow hB.size (Nat.le_refl _) hown' hgrow; have hc1 := hv1.cell; have hf1 := hv1.frozen)
    exact ⟨hk2.from _, hKp _ _ hB.size hb2, ⟨_, hv2, by rw [flat41_snoc]; simpa using hr2, trivial⟩, hB.trans hb2⟩
  case done =>
    rintro D ys W hD hS ⟨⟨v, hv, hrow, _⟩, hB⟩ hK
    have hc := hv.cell
    gi_wp2
    refine ⟨by simp, .inl ⟨_, _, rfl, run_takeDeferred hK, ?_⟩⟩
    exact ⟨_, results_tmp rfl _ _ _, v, ys, rfl, hS, ownsRow_putObj hrow _ hK rfl, hB.trans (belowK_b (w := w) (Nat.le_refl _) W D _ _ (by simp at hD; omega) hK rfl rfl)⟩
  case stop =>
    rintro D c pre W _ _ h _
    exact h.elim

set_option maxRecDepth 100000 in
set_option maxHeartbeats 4000000 in
/-- slices.Collect(seq). -/
theorem collect_calls (g : Nat) (lb : Array Value) (eg : ∀ args w, (callFunc g args).run Try.prog w = .ok (.enter g args) w) (Kp : World → World → Prop) (S Sp : List S41 → Prop) (N : Nat) (hN : N ≤ 5000000000000) (w : World)
    (hKt : ∀ {A B C : World}, Kp A B → Kp B C → Kp A C) (hKp : ∀ A B : World, w.heap.size ≤ A.heap.size → Below w.heap.size A B → Kp A B)
    (hseq : SeqStopsK Fence.wide 2 Try.prog g lb (fun x : S41 => #[Value.agg #[.int .i64 x.f0, .string x.f1]]) Kp S Sp N w) :
    Calls Try.prog 27 #[.func (.func g) #[] lb] w fun e w' => ∃ v ys, e = .returned v ∧ S ys ∧ w'.ownsRow w.heap.size 41 2 v ys.length (flat41 ys) ∧ Below w.heap.size w w' := by
  go_enter Try.func27, Try.ntmps27
  go_wp2_with (go_at_call 31; refine (callsIn_wide.1 (appendSeq_in 3 (by omega) g lb eg Kp S Sp N hN _ hKt hKp hseq)).mono ?_; rintro e w' ⟨v, ys, rfl, hS, hR, hb⟩; have HS := Lib.hid hS; have HR := Lib.hid hR; have HB := Lib.hid hb; clear hS hR hb; obtain ⟨A1, c1, rfl⟩ := own_slice HR.out)
  go_ret
  exact ⟨_, ys, rfl, HS.out, HR.out, HB.out⟩

/-- The parts of runs, collected. -/
theorem collected (A0 : Option Addr) (c0 : Nat) (l0 : List S41) (fr tt : Int) (hg : Good l0) (hfr : 0 ≤ fr) (hfr2 : fr ≤ 2097152) (hto : 0 ≤ tt) (hlen : l0.length ≤ 5000000000000) (w : World) (hC : Kd.C k41 w A0 l0.length l0) :
    Calls Try.prog 27 #[.func (.func 32) #[] #[.pointer (some ⟨w.heap.size, 0, none⟩), .pointer (some ⟨w.heap.size + 1, 0, none⟩), .pointer (some ⟨w.heap.size + 2, 0, none⟩)]] (((w.alloc (.cells #[.slice A0 l0.length c0] 22)).alloc (.cells #[.int .i64 fr] 3)).alloc (.cells #[.int .i64 tt] 3)) fun e w' =>
      ∃ v, e = .returned v ∧ w'.ownsRow w.heap.size 41 2 v (clip l0 fr tt).length (flat41 (clip l0 fr tt)) ∧ Below w.heap.size w w' := by
  have b1 := Boxed.new w 22 (.slice A0 l0.length c0)
  have b2 := Boxed.new (w.alloc (.cells #[.slice A0 l0.length c0] 22)) 3 (.int .i64 fr)
  have b3 := Boxed.new ((w.alloc (.cells #[.slice A0 l0.length c0] 22)).alloc (.cells #[.int .i64 fr] 3)) 3 (.int .i64 tt)
  simp only [World.size_alloc] at b2 b3
  have hB : Below w.heap.size w (((w.alloc (.cells #[.slice A0 l0.length c0] 22)).alloc (.cells #[.int .i64 fr] 3)).alloc (.cells #[.int .i64 tt] 3)) := (((Below.refl _ w).alloc (Nat.le_refl _) _).alloc (by simp) _).alloc (by simp; omega) _
  have c1 := ((b1.alloc (.cells #[.int .i64 fr] 3)).alloc (.cells #[.int .i64 tt] 3)).cell
  have c2 := (b2.alloc (.cells #[.int .i64 tt] 3)).cell
  have c3 := b3.cell
  have hs : (((w.alloc (.cells #[.slice A0 l0.length c0] 22)).alloc (.cells #[.int .i64 fr] 3)).alloc (.cells #[.int .i64 tt] 3)).heap.size = w.heap.size + 3 := by simp
  generalize (((w.alloc (.cells #[.slice A0 l0.length c0] 22)).alloc (.cells #[.int .i64 fr] 3)).alloc (.cells #[.int .i64 tt] 3)) = W at *
  refine (collect_calls 32 _ (enters_of Try.func32 (by kernel_rfl) rfl) (KpB w.heap.size fun k => w.heap.size ≤ k ∧ k ≤ w.heap.size + 2) (fun ys => ys = clip l0 fr tt) (fun pre => pre <+: clip l0 fr tt) l0.length hlen W KpB.trans
    (fun A B hA h => ⟨h.mono (by omega), fun k hk => h.block k (by omega)⟩)
    (clip_stops 2 (by omega) w.heap.size w.heap.size A0 c0 l0 fr tt hg hfr hfr2 hto W (by omega) (by omega) c1 c2 c3 (fun W' h => hC.imp_ (hB.trans h) (fun _ _ h => h)))).mono ?_
  rintro e w' ⟨v, ys, rfl, rfl, hR, hb⟩
  exact ⟨v, rfl, own_weaken hR (by omega), hB.trans (hb.mono (by omega))⟩
end Go.Proofs.Ytmknehabmloebaa.PBlob
