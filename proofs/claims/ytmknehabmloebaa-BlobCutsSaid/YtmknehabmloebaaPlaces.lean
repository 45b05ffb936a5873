/- Plain facts about lists of single places. -/
import Derived.Test.YtmknehabmloebaaSpecs
namespace Go.Proofs.Ytmknehabmloebaa.PBlob
open Go Go.RowKit Go.Proofs.YtmknehabmloebaaW.PrintWords Go.Proofs.YtmknehabmloebaaW.PrintLast Go.Proofs.YtmknehabmloebaaW.PrintMore
set_option linter.unusedVariables false

def one (x : S58) : S41 := ⟨x.f0, strOfNums [x.f1]⟩
def SL (o : List S58) : List S41 := o.map one
def rng (o : List S58) : Prop := ∀ x ∈ o, 0 ≤ x.f1 ∧ x.f1 ≤ 255
theorem one_size (x : S58) : (one x).f1.size = 1 := strOfNums_size [x.f1]
theorem SL_append (a b : List S58) : SL (a ++ b) = SL a ++ SL b := List.map_append
theorem SL_cons (x : S58) (b : List S58) : SL (x :: b) = one x :: SL b := rfl
theorem rng_append {a b : List S58} (ha : rng a) (hb : rng b) : rng (a ++ b) := fun x hx => by
  rcases List.mem_append.1 hx with h | h
  · exact ha x h
  · exact hb x h
theorem rng_tail {x : S58} {o : List S58} (h : rng (x :: o)) : rng o := fun y hy => h y (by simp [hy])
theorem rng_left {a b : List S58} (h : rng (a ++ b)) : rng a := fun y hy => h y (by simp [hy])
theorem val_one {x : S58} (l : List S41) (i : Int) (hx : 0 ≤ x.f1 ∧ x.f1 ≤ 255) : val (one x :: l) i = if i = x.f0 then some x.f1 else val l i := by
  have hs := one_size x
  have hf : (one x).f0 = x.f0 := rfl
  by_cases h : i = x.f0
  · rw [if_pos h, val_in (by unfold inRun; rw [hs, hf]; omega)]
    have e : i - (one x).f0 = ((0 : Nat) : Int) := by rw [hf]; omega
    rw [e]
    exact congrArg some (bt_nums [x.f1] 0 (by simp) (by simpa using hx))
  · rw [if_neg h, val_out (by unfold inRun; rw [hs, hf]; omega)]
def onesFrom (a : Int) (d : ByteArray) : Nat → Nat → List S58
  | _, 0 => []
  | j, n + 1 => ⟨a + j, bt d j⟩ :: onesFrom a d (j + 1) n
def onesOf (a : Int) (d : ByteArray) : List S58 := onesFrom a d 0 d.size
def ones (l : List S41) : List S58 := l.flatMap fun r => onesOf r.f0 r.f1
theorem ones_cons (r : S41) (l : List S41) : ones (r :: l) = onesOf r.f0 r.f1 ++ ones l := rfl
theorem rng_onesFrom (a : Int) (d : ByteArray) : ∀ n j, rng (onesFrom a d j n)
  | 0, _ => fun x hx => by cases hx
  | n + 1, j => fun x hx => by
    rcases List.mem_cons.1 hx with rfl | h
    · exact bt_range _ _
    · exact rng_onesFrom a d n (j + 1) x h
theorem rng_ones : ∀ l, rng (ones l)
  | [] => fun x hx => by cases hx
  | r :: l => rng_append (rng_onesFrom _ _ _ _) (rng_ones l)
theorem len_onesFrom (a : Int) (d : ByteArray) : ∀ n j, (onesFrom a d j n).length = n
  | 0, _ => rfl
  | n + 1, j => by rw [onesFrom, List.length_cons, len_onesFrom a d n]
theorem val_onesFrom (a : Int) (d : ByteArray) (i : Int) : ∀ n j : Nat, val (SL (onesFrom a d j n)) i = if a + j ≤ i ∧ i < a + j + n then some (bt d (i - a)) else none
  | 0, j => by rw [if_neg (by omega)]; rfl
  | n + 1, j => by
    rw [onesFrom, SL_cons, val_one _ _ (bt_range _ _), val_onesFrom a d i n (j + 1)]
    by_cases h : i = a + j
    · rw [if_pos h, if_pos (by omega), show i - a = (j : Int) by omega]
    · rw [if_neg h]
      by_cases h2 : a + (j + 1 : Nat) ≤ i ∧ i < a + (j + 1 : Nat) + n
      · rw [if_pos h2, if_pos (by omega)]
      · rw [if_neg h2, if_neg (by omega)]
theorem val_ones : ∀ (l : List S41) (i : Int), val (SL (ones l)) i = val l i
  | [], i => rfl
  | r :: l, i => by
    rw [ones_cons, SL_append, val_append, val_ones l, onesOf, val_onesFrom]
    by_cases h : inRun r i
    · rw [val_in h, if_pos (by unfold inRun at h; omega)]; rfl
    · rw [val_out h, if_neg (by unfold inRun at h; omega)]; rfl
theorem wchk_onesFrom (a : Int) (d : ByteArray) (t : List S41) : ∀ (n j : Nat) (e : Int), e ≤ a + j → a + j + n ≤ 1048576 → wchk (a + j + n) t → wchk e (SL (onesFrom a d j n) ++ t)
  | 0, j, e, h1, h2, h3 => wchk_mono h3 (by omega)
  | n + 1, j, e, h1, h2, h3 => by
    rw [onesFrom, SL_cons]
    have hs := one_size ⟨a + j, bt d j⟩
    refine ⟨by omega, h1, by rw [hs]; show a + (j : Int) + ((1 : Nat) : Int) ≤ 1048576; omega, ?_⟩
    rw [hs]
    show wchk (a + (j : Int) + ((1 : Nat) : Int)) _
    exact wchk_onesFrom a d t n (j + 1) _ (by omega) (by omega) (wchk_mono h3 (by omega))
theorem wchk_ones : ∀ (l : List S41) (e : Int), chk e l = true → wchk e (SL (ones l))
  | [], _, _ => trivial
  | r :: l, e, h => by
    obtain ⟨h1, h2, h3, h4, h5⟩ := chk_spec h
    rw [ones_cons, SL_append]
    exact wchk_onesFrom _ _ _ _ _ _ (by omega) (by omega) (wchk_mono (wchk_ones l _ h5) (by omega))
theorem wchk_len : ∀ (o : List S58) (e : Int), e ≤ 1048576 → wchk e (SL o) → (o.length : Int) ≤ 1048576 - e
  | [], e, h, _ => by simp; omega
  | x :: o, e, h, hw => by
    have hs := one_size x
    obtain ⟨h1, h2, h3, h4⟩ := hw
    have := wchk_len o _ h3 h4
    rw [hs] at this h3
    rw [List.length_cons]
    omega
def Fine (o : List S58) : Prop := wchk 0 (SL o) ∧ rng o
theorem Fine.len {o : List S58} (h : Fine o) : o.length ≤ 1048576 := by have := wchk_len o 0 (by omega) h.1; omega
theorem fine_ones {l : List S41} (h : chk 0 l = true) : Fine (ones l) := ⟨wchk_ones l 0 h, rng_ones l⟩
theorem wchk_least : ∀ {l : List S41} {e : Int}, wchk e l → ∀ x ∈ l, e ≤ x.f0
  | [], _, _, x, hx => by cases hx
  | y :: l, e, h, x, hx => by
    rcases List.mem_cons.1 hx with rfl | hx
    · exact h.2.1
    · have := wchk_least h.2.2.2 x hx; have := h.2.1; omega
theorem val_filter (P : Int → Prop) [DecidablePred P] : ∀ (o : List S58) (i : Int), rng o → val (SL (o.filter fun x => decide (P x.f0))) i = if P i then val (SL o) i else none
  | [], i, _ => by simp [SL, val]
  | x :: o, i, h => by
    have ih := val_filter P o i (rng_tail h)
    have hx := h x (by simp)
    rw [List.filter_cons, SL_cons, val_one _ _ hx]
    by_cases c : P x.f0
    · rw [if_pos (by simpa using c), SL_cons, val_one _ _ hx, ih]
      by_cases e : i = x.f0
      · subst e; rw [if_pos rfl, if_pos rfl, if_pos c]
      · rw [if_neg e, if_neg e]
    · rw [if_neg (by simpa using c), ih]
      by_cases e : i = x.f0
      · subst e; rw [if_neg c, if_neg c]
      · rw [if_neg e]
theorem wchk_filter (p : S58 → Bool) : ∀ (o : List S58) (e : Int), wchk e (SL o) → wchk e (SL (o.filter p))
  | [], _, _ => trivial
  | x :: o, e, h => by
    rw [List.filter_cons]
    have ih := wchk_filter p o _ h.2.2.2
    by_cases c : p x = true
    · rw [if_pos c]; exact ⟨h.1, h.2.1, h.2.2.1, ih⟩
    · rw [if_neg c]; exact wchk_mono ih (by have := h.2.1; omega)
theorem fine_filter (p : S58 → Bool) {o : List S58} (h : Fine o) : Fine (o.filter p) := ⟨wchk_filter p o 0 h.1, fun x hx => h.2 x ((List.mem_filter.1 hx).1)⟩

/-! ### what a write leaves -/
def fl (a : Int) (d : ByteArray) (o : List S58) : List S58 := o.filter fun x => decide (x.f0 < a ∨ a + (d.size : Int) ≤ x.f0)
def wr (a : Int) (d : ByteArray) : List S58 → List S58
  | [] => onesOf a d
  | x :: t => if a ≤ x.f0 then onesOf a d ++ fl a d (x :: t) else x :: wr a d t
theorem wr_wchk (a : Int) (d : ByteArray) (hs : a + d.size ≤ 1048576) : ∀ (o : List S58) (e : Int), e ≤ a → wchk e (SL o) → wchk e (SL (wr a d o))
  | [], e, he, _ => by
    have := wchk_onesFrom a d [] d.size 0 e (by omega) (by omega) trivial
    rw [List.append_nil] at this
    exact this
  | x :: t, e, he, h => by
    rw [wr]
    by_cases c : a ≤ x.f0
    · rw [if_pos c, SL_append]
      refine wchk_onesFrom a d _ d.size 0 e (by omega) (by omega) ?_
      refine wchk_from (wchk_filter _ _ e h) fun y hy => ?_
      obtain ⟨z, hz, rfl⟩ := List.mem_map.1 hy
      obtain ⟨hz1, hz2⟩ := List.mem_filter.1 hz
      have ha : a ≤ z.f0 := by
        rcases List.mem_cons.1 hz1 with rfl | hz1
        · exact c
        · have := wchk_least h.2.2.2 (one z) (List.mem_map.2 ⟨z, hz1, rfl⟩)
          have e1 : (one z).f0 = z.f0 := rfl
          have e2 : (one x).f0 = x.f0 := rfl
          omega
      have : z.f0 < a ∨ a + (d.size : Int) ≤ z.f0 := by simpa using hz2
      show a + ((0 : Nat) : Int) + (d.size : Int) ≤ z.f0
      omega
    · rw [if_neg c, SL_cons]
      have hz := one_size x
      exact ⟨h.1, h.2.1, h.2.2.1, wr_wchk a d hs t _ (by rw [hz]; show x.f0 + ((1 : Nat) : Int) ≤ a; omega) h.2.2.2⟩
theorem wr_rng (a : Int) (d : ByteArray) : ∀ (o : List S58), rng o → rng (wr a d o)
  | [], _ => rng_onesFrom _ _ _ _
  | x :: t, h => by
    rw [wr]
    split
    · exact rng_append (rng_onesFrom _ _ _ _) fun y hy => h y ((List.mem_filter.1 hy).1)
    · intro y hy
      rcases List.mem_cons.1 hy with rfl | hy
      · exact h _ (by simp)
      · exact wr_rng a d t (rng_tail h) y hy
theorem wr_fine {a : Int} {d : ByteArray} {o : List S58} (h0 : 0 ≤ a) (hs : a + d.size ≤ 1048576) (h : Fine o) : Fine (wr a d o) := ⟨wr_wchk a d hs o 0 h0 h.1, wr_rng a d o h.2⟩
theorem wr_val (a : Int) (d : ByteArray) (i : Int) : ∀ (o : List S58), rng o → val (SL (wr a d o)) i = if a ≤ i ∧ i < a + d.size then some (bt d (i - a)) else val (SL o) i
  | [], _ => by rw [wr, onesOf, val_onesFrom]; simp [SL, val]
  | x :: t, h => by
    rw [wr]
    by_cases c : a ≤ x.f0
    · rw [if_pos c, SL_append, val_append, onesOf, val_onesFrom, fl, val_filter (fun j => j < a ∨ a + (d.size : Int) ≤ j) _ _ h]
      by_cases e : a ≤ i ∧ i < a + d.size
      · rw [if_pos (by omega), if_pos e]; rfl
      · rw [if_neg (by omega), if_neg e, if_pos (by omega)]; rfl
    · rw [if_neg c, SL_cons, SL_cons, val_one _ _ (h x (by simp)), val_one _ _ (h x (by simp)), wr_val a d i t (rng_tail h)]
      by_cases e : i = x.f0
      · rw [if_pos e, if_pos e, if_neg (by omega)]
      · rw [if_neg e, if_neg e]

end Go.Proofs.Ytmknehabmloebaa.PBlob
