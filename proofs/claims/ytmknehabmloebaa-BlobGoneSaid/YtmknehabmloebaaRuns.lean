/- Plain facts about runs and bytes: what stands at a place; right runs are one way of having bytes. No program stands here. -/
import Derived.Test.YtmknehabmloebaaGiven
namespace Go.Proofs.Ytmknehabmloebaa.PBlob
open Go Go.RowKit Go.Proofs.YtmknehabmloebaaW.PrintWords Go.Proofs.YtmknehabmloebaaW.PrintLast Go.Proofs.YtmknehabmloebaaW.PrintMore
set_option linter.unusedVariables false

/-! ### bytes -/
theorem bt_get (s : ByteArray) (i : Nat) (h : i < s.size) : bt s (i : Int) = ((s[i]'h).toNat : Int) := by
  unfold bt
  rw [dif_pos (by simpa using h)]
  rfl
theorem u8_ext {a b : UInt8} (h : (a.toNat : Int) = b.toNat) : a = b := UInt8.toNat_inj.1 (by omega)
theorem bytes_ext {a b : ByteArray} (hs : a.size = b.size) (h : ∀ i : Nat, i < a.size → bt a i = bt b i) : a = b :=
  ByteArray.ext_getElem hs fun i hi hi' => u8_ext (by have := h i hi; rwa [bt_get a i hi, bt_get b i hi'] at this)
theorem bt_extract (s : ByteArray) (p q j : Nat) (hq : q ≤ s.size) (hj : p + j < q) : bt (s.extract p q) (j : Int) = bt s ((p + j : Nat) : Int) := by
  rw [bt_get _ _ (by rw [ByteArray.size_extract]; omega), bt_get _ _ (by omega), ByteArray.getElem_extract]
theorem bt_append_left (a b : ByteArray) (j : Nat) (hj : j < a.size) : bt (a ++ b) (j : Int) = bt a j := by
  rw [bt_get _ _ (by rw [ByteArray.size_append]; omega), bt_get _ _ hj, ByteArray.getElem_append_left hj]
theorem bt_append_right (a b : ByteArray) (j : Nat) (hj : a.size ≤ j) (hb : j < a.size + b.size) : bt (a ++ b) (j : Int) = bt b ((j - a.size : Nat) : Int) := by
  rw [bt_get _ _ (by rw [ByteArray.size_append]; omega), bt_get _ _ (by omega), ByteArray.getElem_append_right hj]
theorem bt_nums (xs : List Int) (j : Nat) (hj : j < xs.length) (hr : ∀ x ∈ xs, 0 ≤ x ∧ x ≤ 255) : bt (strOfNums xs) (j : Int) = xs[j] := by
  have hs : (strOfNums xs).size = xs.length := strOfNums_size xs
  rw [bt_get _ _ (by rw [hs]; exact hj)]
  have h2 : (strOfNums xs)[j]'(by rw [hs]; exact hj) = (xs.map fun n => UInt8.ofNat n.toNat)[j]'(by simpa using hj) := rfl
  rw [h2, List.getElem_map]
  have := hr xs[j] (List.getElem_mem hj)
  simp only [UInt8.toNat_ofNat']
  omega
theorem toList_inj {a b : ByteArray} : a.toList = b.toList ↔ a = b := by
  constructor
  · intro h
    rw [ByteArray.toList_eq, ByteArray.toList_eq] at h
    exact Go.WideShapes.bytes_inj h
  · rintro rfl; rfl

/-! ### what stands at a place -/
def inRun (r : S41) (i : Int) : Prop := r.f0 ≤ i ∧ i < r.f0 + r.f1.size
instance (r : S41) (i : Int) : Decidable (inRun r i) := by unfold inRun; infer_instance
def val : List S41 → Int → Option Int
  | [], _ => none
  | r :: l, i => if inRun r i then some (bt r.f1 (i - r.f0)) else val l i
theorem val_in {r : S41} {l : List S41} {i : Int} (h : inRun r i) : val (r :: l) i = some (bt r.f1 (i - r.f0)) := by rw [val, if_pos h]
theorem val_out {r : S41} {l : List S41} {i : Int} (h : ¬ inRun r i) : val (r :: l) i = val l i := by rw [val, if_neg h]
theorem val_append (a b : List S41) (i : Int) : val (a ++ b) i = (val a i).or (val b i) := by
  induction a with
  | nil => rfl
  | cons r a ih =>
    rw [List.cons_append]
    by_cases h : inRun r i
    · rw [val_in h, val_in h]; rfl
    · rw [val_out h, val_out h, ih]

theorem chk_mono {fr fr' : Int} {l : List S41} (h : chk fr l = true) (hf : fr' ≤ fr) : chk fr' l = true := by
  cases l with
  | nil => rfl
  | cons x l =>
    obtain ⟨h1, h2, h3, h4, h5⟩ := chk_spec h
    rw [chk_ok h1 (by omega) (by omega) (by omega)]
    exact h5
theorem chk_mk {fr : Int} {x : S41} {l : List S41} (h1 : 0 < x.f1.size) (h2 : fr ≤ x.f0) (h0 : 0 ≤ x.f0) (h4 : x.f0 + x.f1.size ≤ 1048576) (h : chk (x.f0 + x.f1.size + 1) l = true) : chk fr (x :: l) = true := by
  rw [chk_ok ?_ (by omega) (by omega) (by omega)]
  · exact h
  · intro he
    have : x.f1.data.toList = [] := by rw [← ByteArray.toList_eq]; exact he
    have : x.f1.size = 0 := by rw [Go.Lib.size_eq, this]; rfl
    omega
theorem val_range : ∀ {l : List S41} {fr i v : Int}, chk fr l = true → val l i = some v → fr ≤ i ∧ i < 1048576
  | [], _, _, _, _, h => by cases h
  | r :: l, fr, i, v, hc, h => by
    obtain ⟨h1, h2, h3, h4, h5⟩ := chk_spec hc
    by_cases hi : inRun r i
    · unfold inRun at hi; omega
    · rw [val_out hi] at h
      have := val_range h5 h
      omega
theorem val_none {l : List S41} {fr i : Int} (hc : chk fr l = true) (hi : i < fr) : val l i = none := by
  cases h : val l i with
  | none => rfl
  | some v => have := val_range hc h; omega
theorem val_high {l : List S41} {fr i : Int} (hc : chk fr l = true) (hi : 1048576 ≤ i) : val l i = none := by
  cases h : val l i with
  | none => rfl
  | some v => have := val_range hc h; omega

/-- RIGHT RUNS ARE ONE WAY OF HAVING BYTES. -/
theorem runs_unique : ∀ {l l' : List S41} {fr fr' : Int}, chk fr l = true → chk fr' l' = true → (∀ i, val l i = val l' i) → l = l'
  | [], [], _, _, _, _, _ => rfl
  | [], r :: l, fr, fr', _, hc, h => by
    obtain ⟨h1, _⟩ := chk_spec hc
    have hp := size_pos h1
    have := h r.f0
    rw [val_in (by unfold inRun; omega)] at this
    cases this
  | r :: l, [], fr, fr', hc, _, h => by
    obtain ⟨h1, _⟩ := chk_spec hc
    have hp := size_pos h1
    have := h r.f0
    rw [val_in (by unfold inRun; omega)] at this
    cases this
  | r :: l, r' :: l', fr, fr', hc, hc', h => by
    obtain ⟨h1, h2, h3, h4, h5⟩ := chk_spec hc
    obtain ⟨g1, g2, g3, g4, g5⟩ := chk_spec hc'
    have hp := size_pos h1
    have gp := size_pos g1
    have a0 : chk r.f0 (r :: l) = true := by rw [chk_ok h1 (by omega) (by omega) (by omega)]; exact h5
    have b0 : chk r'.f0 (r' :: l') = true := by rw [chk_ok g1 (by omega) (by omega) (by omega)]; exact g5
    have e1 : r.f0 = r'.f0 := by
      have x1 := h r.f0
      rw [val_in (by unfold inRun; omega)] at x1
      have y1 := val_range b0 x1.symm
      have x2 := h r'.f0
      rw [val_in (r := r') (by unfold inRun; omega)] at x2
      have y2 := val_range a0 x2
      omega
    have hnil : ∀ {q : S41} {t : List S41}, chk (q.f0 + q.f1.size + 1) t = true → val (q :: t) (q.f0 + q.f1.size) = none := by
      intro q t ht
      rw [val_out (by unfold inRun; omega)]
      exact val_none ht (by omega)
    have e2 : r.f1.size = r'.f1.size := by
      rcases Nat.lt_trichotomy r.f1.size r'.f1.size with hlt | heq | hgt
      · have x := h (r.f0 + r.f1.size)
        rw [hnil h5, val_in (by unfold inRun; omega)] at x
        cases x
      · exact heq
      · have x := h (r'.f0 + r'.f1.size)
        rw [hnil g5, val_in (r := r) (by unfold inRun; omega)] at x
        cases x
    have e3 : r.f1 = r'.f1 := bytes_ext e2 fun i hi => by
      have x := h (r.f0 + i)
      rw [val_in (by unfold inRun; omega), val_in (by unfold inRun; omega), Option.some.injEq] at x
      rw [show r.f0 + (i : Int) - r.f0 = i by omega, show r.f0 + (i : Int) - r'.f0 = i by omega] at x
      exact x
    have er : r = r' := by cases r; cases r'; simp at e1 e3 ⊢; exact ⟨e1, e3⟩
    subst er
    have et : l = l' := runs_unique h5 g5 fun i => by
      by_cases hi : inRun r i
      · rw [val_none h5 (by unfold inRun at hi; omega), val_none g5 (by unfold inRun at hi; omega)]
      · have := h i
        rwa [val_out hi, val_out hi] at this
    rw [et]

/-! ### parts -/
theorem cut1_val {r : S41} {a b : Int} (i : Int) : (match cut1 r a b with | some q => if inRun q i then some (bt q.f1 (i - q.f0)) else none | none => (none : Option Int)) = if (a ≤ i ∧ i < b) ∧ inRun r i then some (bt r.f1 (i - r.f0)) else none := by
  unfold cut1
  have hm : mx r.f0 a = max r.f0 a := by unfold mx; omega
  have hn : mn (r.f0 + r.f1.size) b = min (r.f0 + r.f1.size) b := by unfold mn; omega
  rw [hm, hn]
  by_cases hlt : max r.f0 a < min (r.f0 + r.f1.size) b
  · rw [if_pos hlt]
    have hsz : (r.f1.extract (max r.f0 a - r.f0).toNat (min (r.f0 + r.f1.size) b - r.f0).toNat).size = (min (r.f0 + r.f1.size) b - max r.f0 a).toNat := by rw [ByteArray.size_extract]; omega
    dsimp only
    by_cases hi : (a ≤ i ∧ i < b) ∧ inRun r i
    · rw [if_pos hi, if_pos (by unfold inRun at hi ⊢; dsimp only; rw [hsz]; omega)]
      unfold inRun at hi
      have e : i - max r.f0 a = ((i - max r.f0 a).toNat : Int) := by omega
      rw [e, bt_extract _ _ _ _ (by omega) (by omega)]
      congr 2
      omega
    · rw [if_neg hi, if_neg (by unfold inRun at hi ⊢; dsimp only; rw [hsz]; omega)]
  · rw [if_neg hlt]
    simp only []
    rw [if_neg (by unfold inRun; omega)]
theorem clip_cons (r : S41) (l : List S41) (a b : Int) : clip (r :: l) a b = (match cut1 r a b with | some q => q :: clip l a b | none => clip l a b) := by
  simp only [clip, List.filterMap_cons]
  cases cut1 r a b <;> rfl
theorem val_clip (l : List S41) (a b i : Int) : val (clip l a b) i = if a ≤ i ∧ i < b then val l i else none := by
  induction l with
  | nil => simp [clip, val]
  | cons r l ih =>
    rw [clip_cons]
    have h := cut1_val (r := r) (a := a) (b := b) i
    cases hc : cut1 r a b with
    | none =>
      rw [hc] at h
      simp only [] at h ⊢
      rw [ih]
      by_cases hi : a ≤ i ∧ i < b
      · rw [if_pos hi, if_pos hi]
        by_cases hr : inRun r i
        · rw [if_pos ⟨hi, hr⟩] at h; cases h
        · rw [val_out hr]
      · rw [if_neg hi, if_neg hi]
    | some q =>
      rw [hc] at h
      simp only [] at h ⊢
      by_cases hq : inRun q i
      · rw [if_pos hq] at h
        rw [val_in hq]
        by_cases hr : (a ≤ i ∧ i < b) ∧ inRun r i
        · rw [if_pos hr] at h
          rw [if_pos hr.1, val_in hr.2, h]
        · rw [if_neg hr] at h; cases h
      · rw [if_neg hq] at h
        rw [val_out hq, ih]
        by_cases hi : a ≤ i ∧ i < b
        · rw [if_pos hi, if_pos hi]
          by_cases hr : inRun r i
          · rw [if_pos ⟨hi, hr⟩] at h; cases h
          · rw [val_out hr]
        · rw [if_neg hi, if_neg hi]
theorem cut1_some {r q : S41} {a b : Int} (h : cut1 r a b = some q) : q.f0 = max r.f0 a ∧ (q.f1.size : Int) = min (r.f0 + r.f1.size) b - max r.f0 a ∧ 0 < q.f1.size := by
  unfold cut1 at h
  have hm : mx r.f0 a = max r.f0 a := by unfold mx; omega
  have hn : mn (r.f0 + r.f1.size) b = min (r.f0 + r.f1.size) b := by unfold mn; omega
  rw [hm, hn] at h
  split at h
  · rename_i hlt
    obtain rfl := Option.some.inj h
    refine ⟨rfl, ?_⟩
    dsimp only
    rw [ByteArray.size_extract]
    omega
  · cases h
theorem chk_clip : ∀ {l : List S41} {fr a b : Int}, 0 ≤ fr → chk fr l = true → chk fr (clip l a b) = true
  | [], _, _, _, _, _ => rfl
  | r :: l, fr, a, b, h0, h => by
    obtain ⟨h1, h2, h3, h4, h5⟩ := chk_spec h
    rw [clip_cons]
    have ih := chk_clip (a := a) (b := b) (by omega) h5
    cases hc : cut1 r a b with
    | none => exact chk_mono ih (by omega)
    | some q =>
      obtain ⟨e1, e2, e3⟩ := cut1_some hc
      exact chk_mk e3 (by omega) (by omega) (by omega) (chk_mono ih (by omega))

/-! ### joining -/
theorem snoc_cases (l : List S41) : l = [] ∨ ∃ a x, l = a ++ [x] := by
  rcases List.eq_nil_or_concat l with h | ⟨a, x, h⟩
  · exact .inl h
  · exact .inr ⟨a, x, by simpa using h⟩
/-- The place behind the last run, or 'e'. -/
def fin (e : Int) (l : List S41) : Int := match l.getLast? with | some y => y.f0 + y.f1.size | none => e
/-- Runs one behind the other, touching or not. -/
def wchk : Int → List S41 → Prop
  | _, [] => True
  | e, x :: l => 0 < x.f1.size ∧ e ≤ x.f0 ∧ x.f0 + x.f1.size ≤ 1048576 ∧ wchk (x.f0 + x.f1.size) l
theorem wchk_mono {e e' : Int} {l : List S41} (h : wchk e l) (he : e' ≤ e) : wchk e' l := by
  cases l with
  | nil => trivial
  | cons x l => exact ⟨h.1, by have := h.2.1; omega, h.2.2⟩
theorem wchk_of_chk : ∀ {l : List S41} {fr : Int}, chk fr l = true → wchk fr l
  | [], _, _ => trivial
  | x :: l, fr, h => by
    obtain ⟨h1, h2, h3, h4, h5⟩ := chk_spec h
    exact ⟨size_pos h1, h2, by omega, wchk_mono (wchk_of_chk h5) (by omega)⟩
theorem wchk_append : ∀ {a b : List S41} {e : Int}, wchk e a → wchk (fin e a) b → wchk e (a ++ b)
  | [], b, e, _, h => h
  | x :: a, b, e, h, hb => by
    refine ⟨h.1, h.2.1, h.2.2.1, wchk_append h.2.2.2 ?_⟩
    cases a with
    | nil => exact hb
    | cons y a => 
      have : fin e (x :: y :: a) = fin (x.f0 + x.f1.size) (y :: a) := by
        unfold fin
        rw [List.getLast?_cons_cons]
        rcases snoc_cases (y :: a) with h | ⟨o, z, h⟩
        · cases h
        · rw [h]; simp
      rw [← this]; exact hb
def jstep (out : List S41) (x : S41) : List S41 :=
  match out.getLast? with
  | some y => if y.f0 + y.f1.size = x.f0 then out.dropLast ++ [⟨y.f0, y.f1 ++ x.f1⟩] else out ++ [x]
  | none => out ++ [x]
def jn (l : List S41) : List S41 := l.foldl jstep []

/-- Right runs, and one more behind them. -/
def nx : Int → List S41 → Int
  | fr, [] => fr
  | _, x :: l => nx (x.f0 + x.f1.size + 1) l
theorem chk_append : ∀ {a b : List S41} {fr : Int}, chk fr a = true → chk (nx fr a) b = true → chk fr (a ++ b) = true
  | [], b, fr, _, h => h
  | x :: a, b, fr, h, hb => by
    obtain ⟨h1, h2, h3, h4, h5⟩ := chk_spec h
    rw [List.cons_append, chk_ok h1 (by omega) (by omega) (by omega)]
    exact chk_append h5 hb
theorem chk_left : ∀ {a b : List S41} {fr : Int}, chk fr (a ++ b) = true → chk fr a = true ∧ chk (nx fr a) b = true
  | [], b, fr, h => ⟨rfl, h⟩
  | x :: a, b, fr, h => by
    obtain ⟨h1, h2, h3, h4, h5⟩ := chk_spec h
    obtain ⟨g1, g2⟩ := chk_left h5
    exact ⟨by rw [chk_ok h1 (by omega) (by omega) (by omega)]; exact g1, g2⟩
theorem nx_snoc : ∀ (a : List S41) (x : S41) (fr : Int), nx fr (a ++ [x]) = x.f0 + x.f1.size + 1
  | [], x, fr => rfl
  | y :: a, x, fr => nx_snoc a x _

theorem jstep_ok {out : List S41} {x : S41} (hc : chk 0 out = true) (h1 : 0 < x.f1.size) (h2 : fin 0 out ≤ x.f0) (h3 : x.f0 + x.f1.size ≤ 1048576) :
    chk 0 (jstep out x) = true ∧ fin 0 (jstep out x) = x.f0 + x.f1.size ∧ ∀ i, val (jstep out x) i = (val out i).or (val [x] i) := by
  rcases snoc_cases out with rfl | ⟨o, y, rfl⟩
  · have h2 : 0 ≤ x.f0 := h2
    refine ⟨chk_mk h1 h2 h2 h3 rfl, rfl, fun i => rfl⟩
  · have hl : (o ++ [y]).getLast? = some y := by simp
    have h2 : y.f0 + y.f1.size ≤ x.f0 := by simpa [fin, hl] using h2
    obtain ⟨g1, g2⟩ := chk_left hc
    obtain ⟨k1, k2, k3, k4, _⟩ := chk_spec g2
    have kp := size_pos k1
    have k0 : 0 ≤ y.f0 := (chk_good (by omega) hc y (by simp)).1
    by_cases ht : y.f0 + y.f1.size = x.f0
    · have e : jstep (o ++ [y]) x = o ++ [⟨y.f0, y.f1 ++ x.f1⟩] := by unfold jstep; rw [hl]; simp [ht]
      have hs : ((y.f1 ++ x.f1).size : Int) = y.f1.size + x.f1.size := by rw [ByteArray.size_append]; omega
      rw [e]
      refine ⟨chk_append g1 (chk_mk (by dsimp only; omega) (by dsimp only; omega) k0 (by dsimp only; omega) rfl), by simp [fin]; omega, fun i => ?_⟩
      rw [val_append, val_append, Option.or_assoc]
      congr 1
      have hin : inRun ⟨y.f0, y.f1 ++ x.f1⟩ i ↔ (inRun y i ∨ inRun x i) := by unfold inRun; dsimp only; rw [hs]; omega
      by_cases c1 : inRun y i
      · rw [val_in (hin.2 (.inl c1)), val_in c1]
        dsimp only
        unfold inRun at c1
        have e1 : i - y.f0 = ((i - y.f0).toNat : Int) := by omega
        rw [e1, bt_append_left _ _ _ (by omega)]
        rfl
      · rw [val_out c1]
        by_cases c2 : inRun x i
        · rw [val_in (hin.2 (.inr c2)), val_in c2]
          dsimp only
          unfold inRun at c2
          have e1 : i - y.f0 = ((i - y.f0).toNat : Int) := by omega
          rw [e1, bt_append_right _ _ _ (by omega) (by omega)]
          simp only [val, Option.none_or, Option.some.injEq]
          congr 1
          omega
        · rw [val_out (fun h => (hin.1 h).elim c1 c2), val_out c2]
          rfl
    · have e : jstep (o ++ [y]) x = (o ++ [y]) ++ [x] := by unfold jstep; rw [hl]; simp [ht]
      rw [e]
      refine ⟨chk_append hc (by rw [nx_snoc]; exact chk_mk h1 (by omega) (by omega) h3 rfl), by simp [fin], fun i => val_append _ _ _⟩
theorem jn_aux : ∀ (l out : List S41), chk 0 out = true → wchk (fin 0 out) l → chk 0 (l.foldl jstep out) = true ∧ ∀ i, val (l.foldl jstep out) i = val (out ++ l) i
  | [], out, hc, _ => ⟨hc, fun i => by rw [List.append_nil]; rfl⟩
  | x :: l, out, hc, hw => by
    obtain ⟨h1, h2, h3, h4⟩ := hw
    obtain ⟨j1, j2, j3⟩ := jstep_ok hc h1 h2 h3
    obtain ⟨r1, r2⟩ := jn_aux l (jstep out x) j1 (by rw [j2]; exact h4)
    refine ⟨r1, fun i => (r2 i).trans ?_⟩
    rw [val_append, j3, val_append]
    show _ = (val out i).or (val ([x] ++ l) i)
    rw [val_append [x] l, Option.or_assoc]
theorem jn_ok {l : List S41} (hw : wchk 0 l) : chk 0 (jn l) = true ∧ ∀ i, val (jn l) i = val l i := jn_aux l [] rfl hw

/-! ### writing -/
theorem fin_clip_le : ∀ {l : List S41} {fr a b e : Int}, chk fr l = true → e ≤ b → fin e (clip l a b) ≤ b := by
  intro l fr a b e hc he
  rcases snoc_cases (clip l a b) with h | ⟨o, q, h⟩
  · rw [h]; exact he
  · have hq : q ∈ clip l a b := by rw [h]; simp
    obtain ⟨r, _, hr⟩ := List.mem_filterMap.1 hq
    obtain ⟨e1, e2, e3⟩ := cut1_some hr
    rw [h]
    simp only [fin, List.getLast?_append, List.getLast?_singleton, Option.some_or]
    omega
theorem wchk_from : ∀ {l : List S41} {e a : Int}, wchk e l → (∀ x ∈ l, a ≤ x.f0) → wchk a l
  | [], _, _, _, _ => trivial
  | x :: l, e, a, h, hx => ⟨h.1, hx x (by simp), h.2.2⟩
theorem clip_from {l : List S41} {a b : Int} {q : S41} (h : q ∈ clip l a b) : a ≤ q.f0 := by
  obtain ⟨r, _, hr⟩ := List.mem_filterMap.1 h
  obtain ⟨e1, _⟩ := cut1_some hr
  omega
theorem laid_wchk {l : List S41} {a : Int} {d : ByteArray} (hc : chk 0 l = true) (h0 : 0 ≤ a) (hd : 0 < d.size) (hs : a + d.size ≤ 1048576) : wchk 0 (laid l a d) := by
  unfold laid
  refine wchk_append (wchk_append (wchk_of_chk (chk_clip (by omega) hc)) ⟨hd, fin_clip_le hc h0, hs, trivial⟩) ?_
  have : fin 0 (clip l 0 a ++ [⟨a, d⟩]) = a + d.size := by simp [fin]
  rw [this]
  exact wchk_from (wchk_of_chk (chk_clip (by omega) hc)) (fun x hx => clip_from hx)
theorem laid_val {l : List S41} {a : Int} {d : ByteArray} (hc : chk 0 l = true) (h0 : 0 ≤ a) (i : Int) :
    val (laid l a d) i = if a ≤ i ∧ i < a + d.size then some (bt d (i - a)) else val l i := by
  unfold laid
  rw [val_append, val_append, val_clip, val_clip]
  have e : val [(⟨a, d⟩ : S41)] i = if a ≤ i ∧ i < a + d.size then some (bt d (i - a)) else none := rfl
  rw [e]
  by_cases c : a ≤ i ∧ i < a + d.size
  · rw [if_pos c, if_pos c, if_neg (by omega)]; rfl
  · rw [if_neg c, if_neg c]
    rcases (show i < a ∨ a + d.size ≤ i by omega) with h | h
    · by_cases hi : 0 ≤ i
      · rw [if_pos ⟨hi, h⟩, if_neg (by omega)]; cases val l i <;> rfl
      · rw [if_neg (by omega), if_neg (by omega), val_none hc (by omega)]; rfl
    · by_cases hi : i < 1048576
      · rw [if_neg (by omega), if_pos ⟨h, hi⟩]; cases val l i <;> rfl
      · rw [if_neg (by omega), if_neg (by omega), val_high hc (by omega)]; rfl

/-! ### reading -/
theorem seen_val : ∀ (l : List S41) (fr a : Int) (f : Nat → Int), chk fr l = true → (∀ x ∈ l, a ≤ x.f0) → ∀ j : Nat, l.foldl (ov a) f j = match val l (a + j) with | some b => b | none => f j
  | [], _, _, _, _, _, _ => rfl
  | x :: l, fr, a, f, hc, hx, j => by
    obtain ⟨h1, h2, h3, h4, h5⟩ := chk_spec hc
    have ha := hx x (by simp)
    rw [List.foldl_cons, seen_val l _ a (ov a f x) h5 (fun y hy => hx y (by simp [hy])) j]
    by_cases hi : inRun x (a + j)
    · rw [val_in hi, val_none h5 (by unfold inRun at hi; omega)]
      simp only []
      unfold ov
      unfold inRun at hi
      rw [if_pos (by omega)]
      congr 1
      omega
    · rw [val_out hi]
      cases hv : val l (a + j) with
      | some b => rfl
      | none =>
        simp only []
        unfold ov
        unfold inRun at hi
        rw [if_neg (by omega)]
/-- The byte at a place, 0 where there is none. -/
def byteAt (l : List S41) (i : Int) : Int := (val l i).getD 0
theorem seen_byte {l : List S41} {a : Int} {m : Nat} (hc : chk 0 l = true) (j : Nat) (hj : j < m) : seen a (clip l a (a + m)) j = byteAt l (a + j) := by
  unfold seen
  rw [seen_val _ 0 a _ (chk_clip (by omega) hc) (fun x hx => clip_from hx), val_clip, if_pos (by omega)]
  unfold byteAt
  cases val l (a + j) <;> rfl
theorem readOf_eq {l : List S41} {a : Int} {m : Nat} (hc : chk 0 l = true) : readOf l a m = strOfNums ((List.range m).map fun j : Nat => byteAt l (a + j)) := by
  unfold readOf
  congr 1
  exact List.map_congr_left fun j hj => seen_byte hc j (by simpa using hj)
theorem val_byte : ∀ {l : List S41} {i v : Int}, val l i = some v → 0 ≤ v ∧ v ≤ 255
  | [], _, _, h => by cases h
  | r :: l, i, v, h => by
    by_cases hi : inRun r i
    · rw [val_in hi] at h
      obtain rfl := Option.some.inj h
      exact bt_range _ _
    · rw [val_out hi] at h
      exact val_byte h
theorem byteAt_range (l : List S41) (i : Int) : 0 ≤ byteAt l i ∧ byteAt l i ≤ 255 := by
  unfold byteAt
  cases h : val l i with
  | none => simp
  | some v => exact val_byte h

end Go.Proofs.Ytmknehabmloebaa.PBlob
