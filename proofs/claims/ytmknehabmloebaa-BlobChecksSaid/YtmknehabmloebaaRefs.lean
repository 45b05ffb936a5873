/- What the reference functions of the blob laws come to, in plain words. -/
import Derived.Test.YtmknehabmloebaaPlaces
import Derived.Test.YtmknehabmloebaaPBlobx10
import Derived.Test.YtmknehabmloebaaPBlobx13
import Derived.Test.YtmknehabmloebaaPBlobx18
namespace Go.Proofs.Ytmknehabmloebaa.PBlob
open Go Go.RowKit Go.Proofs.YtmknehabmloebaaW.PrintWords Go.Proofs.YtmknehabmloebaaW.PrintLast Go.Proofs.YtmknehabmloebaaW.PrintMore
set_option linter.unusedVariables false

/-! ### Ones -/
theorem ones_l1 (l : List S41) (i : Nat) (a : Int) (d : ByteArray) (h0 : 0 ≤ a) (hs : a + d.size ≤ 1048576) (R : List S58) (hR : R.length ≤ 5000000000) : ∀ (n j : Nat) (out : List S58), j + n = d.size → out.length + n ≤ 5000000000 →
    Ev (fun k => sextonref08_Ones.l0 k (out ++ onesFrom a d j n) l l.length (wrap64 ((i : Int) + 1))) R → Ev (fun k => sextonref08_Ones.l1 k out j l l.length i a d) R
  | 0, j, out, h1, h2, h => by
    rw [onesFrom, List.append_nil] at h
    exact Ev.step (fun k => by simp only [sextonref08_Ones.l1]; rw [if_neg (by omega)]) h
  | n + 1, j, out, h1, h2, h => by
    refine Ev.step (fun k => ?_) (ones_l1 l i a d h0 hs R hR n (j + 1) (out ++ [⟨a + j, bt d j⟩]) (by omega) (by simp; omega) (by rw [List.append_assoc]; exact h))
    simp only [sextonref08_Ones.l1]
    rw [if_pos (by omega), if_pos (by omega), if_pos (by omega), wr1 j (by omega), wrap_id (a := a + (j : Int)) (by omega) (by omega)]
theorem ones_l0 (l : List S41) (hl : l.length ≤ 9223372036854775806) (d : Nat) : ∀ (i : Nat) (fr : Int) (out : List S58), 0 ≤ fr → fr ≤ 1048577 → i ≤ l.length → l.length - i = d → chk fr (l.drop i) = true → (out.length : Int) ≤ fr →
    Ev (fun k => sextonref08_Ones.l0 k out l l.length i) (out ++ ones (l.drop i)) := by
  induction d with
  | zero =>
    intro i fr out h0 hf h1 h2 hc ho
    rw [List.drop_eq_nil_of_le (by omega)]
    exact Ev.step (fun k => by simp only [sextonref08_Ones.l0]; rw [if_neg (by omega)]; simp [ones]) (Ev.now _)
  | succ d ih =>
    intro i fr out h0 hf h1 h2 hc ho
    have hlt : i < l.length := by omega
    have hd : l.drop i = l[i] :: l.drop (i + 1) := List.drop_eq_getElem_cons hlt
    rw [hd] at hc ⊢
    obtain ⟨c1, c2, c3, c4, c5⟩ := chk_spec hc
    have hlen := len_onesFrom (l[i]).f0 (l[i]).f1 (l[i]).f1.size 0
    have hf2 := wchk_len (ones (l.drop (i + 1)))
    have hrest := ih (i + 1) ((l[i]).f0 + (l[i]).f1.size + 1) (out ++ onesOf (l[i]).f0 (l[i]).f1) (by omega) (by omega) (by omega) (by omega) c5 (by rw [List.length_append, onesOf, hlen]; omega)
    have hall : (out ++ ones (l[i] :: l.drop (i + 1))).length ≤ 5000000000 := by
      have := (fine_ones (chk_mono hc h0)).len
      rw [List.length_append]; omega
    refine Ev.step (fun k => ?_) (ones_l1 l i (l[i]).f0 (l[i]).f1 (by omega) (by omega) (out ++ ones (l[i] :: l.drop (i + 1))) hall (l[i]).f1.size 0 out (by omega) (by omega) (by rw [wr1 i (by omega), ones_cons, ← List.append_assoc]; exact hrest))
    simp only [sextonref08_Ones.l0, rd41 l i hlt]
    rw [if_pos (by omega), if_pos (by omega), if_pos (by omega)]
    rfl
theorem ones_f {l : List S41} (h : chk 0 l = true) : Ev (fun k => sextonref08_Ones.f k l) (ones l) := by
  have hl := (chk_few (by omega) h).1
  have := ones_l0 l (by omega) l.length 0 0 [] (by omega) (by omega) (by omega) (by omega) h (by simp)
  simpa [sextonref08_Ones.f] using this

/-! ### Made -/
theorem nums_append (a b : List Int) : strOfNums a ++ strOfNums b = strOfNums (a ++ b) := by
  apply ByteArray.ext
  simp [strOfNums, ByteArray.data_append]
def cur (out : List S41) (a : Int) (bs : List Int) : List S41 := if bs = [] then out else out ++ [⟨a, strOfNums bs⟩]
def Behind (o : List S58) (i : Nat) (a : Int) (out : List S41) (bs : List Int) : Prop :=
  if i = 0 then out = [] ∧ bs = [] else ∃ y, o[i - 1]? = some y ∧ bs ≠ [] ∧ a + (bs.length : Int) = y.f0 + 1 ∧ 0 ≤ y.f0 ∧ y.f0 < 1048576 ∧ wchk (y.f0 + 1) (SL (o.drop i))
theorem made_l0 (o : List S58) (hl : o.length ≤ 1048576) (d : Nat) : ∀ (i : Nat) (a : Int) (out : List S41) (bs : List Int), i ≤ o.length → o.length - i = d → out.length ≤ i → bs.length ≤ i → wchk 0 (SL (o.drop i)) → Behind o i a out bs →
    Ev (fun k => sextonref08_Made.l0 k o out bs a o o.length i) ((SL (o.drop i)).foldl jstep (cur out a bs)) := by
  induction d with
  | zero =>
    intro i a out bs h1 h2 ho hb hw hB
    rw [List.drop_eq_nil_of_le (by omega)]
    refine Ev.step (fun k => ?_) (Ev.now _)
    simp only [sextonref08_Made.l0]
    rw [if_neg (by omega)]
    by_cases c : bs = []
    · subst c; rw [if_neg (by simp)]; rfl
    · have := List.length_pos_iff.2 c
      rw [if_pos (by omega), if_pos (by omega)]
      simp [cur, c, SL]
  | succ d ih =>
    intro i a out bs h1 h2 ho hb hw hB
    have hlt : i < o.length := by omega
    have hd : o.drop i = o[i] :: o.drop (i + 1) := List.drop_eq_getElem_cons hlt
    have hs := one_size o[i]
    rw [hd, SL_cons] at hw
    obtain ⟨w1, w2, w3, w4⟩ := hw
    have w2 : 0 ≤ (o[i]).f0 := w2
    have w3 : (o[i]).f0 + ((one o[i]).f1.size : Int) ≤ 1048576 := w3
    have w4 : wchk ((o[i]).f0 + 1) (SL (o.drop (i + 1))) := by rw [hs] at w4; exact w4
    have w4' := wchk_mono w4 (e' := 0) (by omega)
    rw [hd, SL_cons, List.foldl_cons]
    unfold Behind at hB
    by_cases hi : i = 0
    · rw [if_pos hi] at hB
      obtain ⟨rfl, rfl⟩ := hB
      have hrest := ih (i + 1) (o[i]).f0 [] [(o[i]).f1] (by omega) (by omega) (by simp) (by simp) w4' (by
        unfold Behind; rw [if_neg (by omega)]; exact ⟨o[i], by simp [hlt], by simp, by simp, by omega, by omega, w4⟩)
      refine Ev.step (fun k => ?_) (Ev.step (f := fun k => sextonref08_Made.l0 k o [] [(o[i]).f1] (o[i]).f0 o o.length ((i + 1 : Nat) : Int)) (g := fun k => sextonref08_Made.j1 k o [] [] a o o.length i false (o[i]).f0 (o[i]).f1) (fun k => ?_) hrest)
      · simp only [sextonref08_Made.l0, rd58 o i hlt]
        rw [if_pos (by omega), if_pos (by omega), if_pos (by omega), if_neg (by omega)]
      · simp only [sextonref08_Made.j1]
        rw [if_neg (by simp), if_pos (by simp), if_pos (by simp), wr1 i (by omega)]
        rfl
    · rw [if_neg hi] at hB
      obtain ⟨y, hy, hbs, hab, hy0, hy1, hyw⟩ := hB
      have hbp := List.length_pos_iff.2 hbs
      rw [hd, SL_cons] at hyw
      have hyx : y.f0 + 1 ≤ (o[i]).f0 := hyw.2.1
      have hyr : rd_T58 o ((i - 1 : Nat) : Int) = y := by simp [rd_T58, List.getD_eq_getElem?_getD, hy]
      have hcur : cur out a bs = out ++ [⟨a, strOfNums bs⟩] := by unfold cur; rw [if_neg hbs]
      have hsz : (strOfNums bs).size = bs.length := strOfNums_size bs
      have hj : jstep (cur out a bs) (one o[i]) = if y.f0 + 1 = (o[i]).f0 then out ++ [⟨a, strOfNums (bs ++ [(o[i]).f1])⟩] else (out ++ [⟨a, strOfNums bs⟩]) ++ [one o[i]] := by
        rw [hcur]
        unfold jstep
        have e0 : (one o[i]).f0 = (o[i]).f0 := rfl
        have e1 : (one o[i]).f1 = strOfNums [(o[i]).f1] := rfl
        rw [show (out ++ [(⟨a, strOfNums bs⟩ : S41)]).getLast? = some ⟨a, strOfNums bs⟩ by simp]
        simp only [hsz, hab, e0, e1, nums_append]
        simp
      have e1 : wrap64 (y.f0 + 1) = y.f0 + 1 := wrap_id (by omega) (by omega)
      have g0 : ∀ k, sextonref08_Made.l0 (k + 1) o out bs a o o.length i = sextonref08_Made.j1 k o out bs a o o.length i (y.f0 + 1 != (o[i]).f0) (o[i]).f0 (o[i]).f1 := fun k => by
        simp only [sextonref08_Made.l0, rd58 o i hlt]
        rw [if_pos (by omega), if_pos (by omega), if_pos (by omega), if_pos (by omega), wrm1 i (by omega) (by omega), if_pos (by omega), if_pos (by omega), hyr, e1]
      refine Ev.step g0 ?_
      rw [hj]
      by_cases ht : y.f0 + 1 = (o[i]).f0
      · rw [if_pos ht]
        have hrest := ih (i + 1) a out (bs ++ [(o[i]).f1]) (by omega) (by omega) (by omega) (by simp; omega) w4' (by
          unfold Behind; rw [if_neg (by omega)]; exact ⟨o[i], by simp [hlt], by simp, by simp; omega, by omega, by omega, w4⟩)
        rw [show cur out a (bs ++ [(o[i]).f1]) = out ++ [⟨a, strOfNums (bs ++ [(o[i]).f1])⟩] by simp [cur]] at hrest
        refine Ev.step (fun k => ?_) hrest
        simp only [sextonref08_Made.j1]
        rw [if_neg (by simp [ht]), if_neg (by omega), if_pos (by omega), wr1 i (by omega)]
      · rw [if_neg ht]
        have hrest := ih (i + 1) (o[i]).f0 (out ++ [⟨a, strOfNums bs⟩]) [(o[i]).f1] (by omega) (by omega) (by simp; omega) (by simp) w4' (by
          unfold Behind; rw [if_neg (by omega)]; exact ⟨o[i], by simp [hlt], by simp, by simp, by omega, by omega, w4⟩)
        rw [show cur (out ++ [⟨a, strOfNums bs⟩]) (o[i]).f0 [(o[i]).f1] = (out ++ [⟨a, strOfNums bs⟩]) ++ [one o[i]] by simp [cur, one]] at hrest
        refine Ev.step (fun k => ?_) hrest
        simp only [sextonref08_Made.j1]
        rw [if_pos (by simpa using ht), if_pos (by omega), Option.bind_some, if_pos (by simp), if_pos (by simp), wr1 i (by omega)]
        rfl
theorem made_f {o : List S58} (h : Fine o) : Ev (fun k => sextonref08_Made.f k o) (jn (SL o)) := by
  have := made_l0 o h.len o.length 0 0 [] [] (by omega) (by omega) (by simp) (by simp) h.1 (by unfold Behind; rw [if_pos rfl]; exact ⟨rfl, rfl⟩)
  simpa [sextonref08_Made.f, jn, cur] using this

/-! ### Write -/
theorem rwrite_l2 (a : Int) (d : ByteArray) (h0 : 0 ≤ a) (hs : a + d.size ≤ 1048576) {F : List S58} (hF : Fine F) : ∀ (n j : Nat) (out : List S58), j + n = d.size → F = out ++ onesFrom a d j n →
    Ev (fun k => sextonref08_Write.l2 k a d out j) (jn (SL F), 0)
  | 0, j, out, h1, h2 => by
    rw [onesFrom, List.append_nil] at h2
    subst h2
    exact Ev.step (fun k => by simp only [sextonref08_Write.l2]; rw [if_neg (by omega)]) (Ev.bind (made_f hF) (Ev.now _))
  | n + 1, j, out, h1, h2 => by
    have hlen := hF.len
    rw [h2, List.length_append] at hlen
    refine Ev.step (fun k => ?_) (rwrite_l2 a d h0 hs hF n (j + 1) (out ++ [⟨a + j, bt d j⟩]) (by omega) (by rw [h2, List.append_assoc]; rfl))
    simp only [sextonref08_Write.l2]
    rw [if_pos (by omega), if_pos (by omega), if_pos (by omega), wr1 j (by omega), wrap_id (a := a + (j : Int)) (by omega) (by omega)]
theorem rwrite_l1 (a : Int) (d : ByteArray) (h0 : 0 ≤ a) (hs : a + d.size ≤ 1048576) (o : List S58) (i : Nat) (hi : i < 1048577) (x0 x1 : Int) {F : List S58} (hF : Fine F) : ∀ (n j : Nat) (out t : List S58), j + n = d.size → F = out ++ onesFrom a d j n ++ (if x0 < a ∨ a + (d.size : Int) ≤ x0 then [⟨x0, x1⟩] else []) ++ t →
    (∀ out', F = out' ++ t → Ev (fun k => sextonref08_Write.l0 k a d out' true o o.length ((i + 1 : Nat) : Int)) (jn (SL F), 0)) →
    Ev (fun k => sextonref08_Write.l1 k a d out j o o.length i x0 x1) (jn (SL F), 0)
  | 0, j, out, t, h1, h2, h => by
    rw [onesFrom, List.append_nil] at h2
    have hlen := hF.len
    rw [h2, List.length_append, List.length_append] at hlen
    have ew : wrap64 (a + (d.size : Int)) = a + d.size := wrap_id (by omega) (by omega)
    refine Ev.step (fun k => ?_) (h _ h2)
    simp only [sextonref08_Write.l1]
    rw [if_neg (by omega), ew, wr1 i (by omega)]
    by_cases c1 : x0 < a
    · rw [if_pos c1, if_pos (by omega), if_pos (.inl c1)]
    · rw [if_neg c1]
      by_cases c2 : x0 ≥ a + d.size
      · rw [if_pos c2, if_pos (by omega), if_pos (.inr c2)]
      · rw [if_neg c2, if_neg (by omega), List.append_nil]
  | n + 1, j, out, t, h1, h2, h => by
    have hlen := hF.len
    rw [h2, List.length_append, List.length_append, List.length_append] at hlen
    refine Ev.step (fun k => ?_) (rwrite_l1 a d h0 hs o i hi x0 x1 hF n (j + 1) (out ++ [⟨a + j, bt d j⟩]) t (by omega) (by rw [h2, onesFrom]; simp) h)
    simp only [sextonref08_Write.l1]
    rw [if_pos (by omega), if_pos (by omega), if_pos (by omega), wr1 j (by omega), wrap_id (a := a + (j : Int)) (by omega) (by omega)]
theorem fl_cons (a : Int) (d : ByteArray) (x : S58) (t : List S58) : fl a d (x :: t) = (if x.f0 < a ∨ a + (d.size : Int) ≤ x.f0 then [x] else []) ++ fl a d t := by
  unfold fl
  rw [List.filter_cons]
  by_cases c : x.f0 < a ∨ a + (d.size : Int) ≤ x.f0
  · rw [if_pos (by simpa using c), if_pos c]; rfl
  · rw [if_neg (by simpa using c), if_neg c]; rfl
theorem rwrite_l0t (a : Int) (d : ByteArray) (h0 : 0 ≤ a) (hs : a + d.size ≤ 1048576) (o : List S58) (ho : o.length ≤ 1048576) {F : List S58} (hF : Fine F) (n : Nat) : ∀ (i : Nat) (out : List S58), i ≤ o.length → o.length - i = n → F = out ++ fl a d (o.drop i) →
    Ev (fun k => sextonref08_Write.l0 k a d out true o o.length i) (jn (SL F), 0) := by
  induction n with
  | zero =>
    intro i out h1 h2 h
    rw [List.drop_eq_nil_of_le (by omega)] at h
    have h : F = out := by rw [h]; simp [fl]
    subst h
    exact Ev.step (fun k => by simp only [sextonref08_Write.l0]; rw [if_neg (by omega), if_pos trivial]) (Ev.bind (made_f hF) (Ev.now _))
  | succ n ih =>
    intro i out h1 h2 h
    have hlt : i < o.length := by omega
    have hd : o.drop i = o[i] :: o.drop (i + 1) := List.drop_eq_getElem_cons hlt
    rw [hd, fl_cons, ← List.append_assoc] at h
    have hlen := hF.len
    rw [h, List.length_append, List.length_append] at hlen
    have ew : wrap64 (a + (d.size : Int)) = a + d.size := wrap_id (by omega) (by omega)
    refine Ev.step (fun k => ?_) (Ev.step (g := fun k => sextonref08_Write.j2 k a d out true o o.length i false (o[i]).f0 (o[i]).f1) (fun k => ?_) (ih (i + 1) _ (by omega) (by omega) h))
    · simp only [sextonref08_Write.l0, rd58 o i hlt]
      rw [if_pos (by omega), if_pos (by omega), if_pos (by omega), if_pos trivial]
    · simp only [sextonref08_Write.j2]
      rw [if_neg (by simp), ew, wr1 i (by omega)]
      by_cases c1 : (o[i]).f0 < a
      · rw [if_pos c1, if_pos (by omega), if_pos (.inl c1)]
      · rw [if_neg c1]
        by_cases c2 : (o[i]).f0 ≥ a + d.size
        · rw [if_pos c2, if_pos (by omega), if_pos (.inr c2)]
        · rw [if_neg c2, if_neg (by omega), List.append_nil]
theorem rwrite_l0f (a : Int) (d : ByteArray) (h0 : 0 ≤ a) (hs : a + d.size ≤ 1048576) (o : List S58) (ho : o.length ≤ 1048576) {F : List S58} (hF : Fine F) (n : Nat) : ∀ (i : Nat) (out : List S58), i ≤ o.length → o.length - i = n → F = out ++ wr a d (o.drop i) →
    Ev (fun k => sextonref08_Write.l0 k a d out false o o.length i) (jn (SL F), 0) := by
  induction n with
  | zero =>
    intro i out h1 h2 h
    rw [List.drop_eq_nil_of_le (by omega), wr, onesOf] at h
    exact Ev.step (fun k => by simp only [sextonref08_Write.l0]; rw [if_neg (by omega), if_neg (by simp)]; rfl) (rwrite_l2 a d h0 hs hF d.size 0 out (by omega) h)
  | succ n ih =>
    intro i out h1 h2 h
    have hlt : i < o.length := by omega
    have hd : o.drop i = o[i] :: o.drop (i + 1) := List.drop_eq_getElem_cons hlt
    rw [hd, wr] at h
    have ew : wrap64 (a + (d.size : Int)) = a + d.size := wrap_id (by omega) (by omega)
    have g0 : ∀ k, sextonref08_Write.l0 (k + 1) a d out false o o.length i = sextonref08_Write.j2 k a d out false o o.length i (decide ((o[i]).f0 ≥ a)) (o[i]).f0 (o[i]).f1 := fun k => by
      simp only [sextonref08_Write.l0, rd58 o i hlt]
      rw [if_pos (by omega), if_pos (by omega), if_pos (by omega), if_neg (by simp)]
    refine Ev.step g0 ?_
    by_cases c : a ≤ (o[i]).f0
    · rw [if_pos c, fl_cons, ← List.append_assoc, ← List.append_assoc] at h
      rw [show decide ((o[i]).f0 ≥ a) = true by simpa using c]
      refine Ev.step (g := fun k => sextonref08_Write.j2 k a d out false o o.length i true (o[i]).f0 (o[i]).f1) (fun k => by simp only [sextonref08_Write.j2]; rfl) (rwrite_l1 a d h0 hs o i (by omega) (o[i]).f0 (o[i]).f1 hF d.size 0 out (fl a d (o.drop (i + 1))) (by omega) h ?_)
      exact fun out' h' => rwrite_l0t a d h0 hs o ho hF _ (i + 1) out' (by omega) rfl h'
    · rw [if_neg c] at h
      rw [show decide ((o[i]).f0 ≥ a) = false by simpa using c]
      have hlen := hF.len
      rw [h, List.length_append] at hlen
      refine Ev.step (g := fun k => sextonref08_Write.j2 k a d out false o o.length i false (o[i]).f0 (o[i]).f1) (fun k => ?_) (ih (i + 1) (out ++ [o[i]]) (by omega) (by omega) (by rw [h]; simp))
      simp only [sextonref08_Write.j2]
      rw [if_neg (by simp), if_pos (by omega), if_pos (by omega), wr1 i (by omega)]
theorem rwrite_ok {l : List S41} {a : Int} {d : ByteArray} (hc : chk 0 l = true) (h0 : 0 ≤ a) (hs : a + d.size ≤ 1048576) : Ev (fun k => sextonref08_Write.f k l a d) (jn (SL (wr a d (ones l))), 0) := by
  have hl := (chk_few (by omega) hc).1
  have hF := wr_fine h0 hs (fine_ones hc)
  refine Ev.bind (right_f l (by omega)) ?_
  rw [hc]
  have g0 : ∀ k, (if (true : Bool) = true then (if a < 0 then (some (([] : List (S41)), (1 : Int))) else (if (d.size : Int) > 1048576 then (sextonref08_Write.j0 k l a d true) else (sextonref08_Write.j0 k l a d (decide (a > (wrap64 (1048576 - (d.size : Int)))))))) else (some (([] : List (S41)), 80))) = sextonref08_Write.j0 k l a d false := fun k => by
    rw [if_pos rfl, if_neg (by omega), if_neg (by omega), wrap_id (by omega) (by omega), decide_eq_false (by omega)]
  refine Ev.congr g0 (Ev.step (f := fun k => (sextonref08_Ones.f k l).bind fun t159 => (sextonref08_Write.l0 k a d ([] : List (S58)) false t159 (t159.length : Int) 0)) (fun k => by simp only [sextonref08_Write.j0]; rw [if_neg (by simp)]) ?_)
  exact Ev.bind (ones_f hc) (rwrite_l0f a d h0 hs (ones l) (fine_ones hc).len hF _ 0 [] (by omega) rfl (by simp))
theorem rwrite_bad {l : List S41} (hl : l.length ≤ 9223372036854775806) {a : Int} {d : ByteArray} (hz : d.size ≤ 9223372036854775807) (h : chk 0 l = false ∨ a < 0 ∨ a + d.size > 1048576) : Ev (fun k => sextonref08_Write.f k l a d) ([], if chk 0 l = true then (if a < 0 then 1 else 408) else 80) := by
  refine Ev.bind (right_f l hl) ?_
  cases hc : chk 0 l with
  | false => exact Ev.now _
  | true =>
    simp only [hc, Bool.true_eq_false, false_or, if_true] at h ⊢
    by_cases c1 : a < 0
    · rw [if_pos c1]
      simp only [if_pos c1]
      exact Ev.now _
    · rw [if_neg c1]
      simp only [if_neg c1]
      have hj : Ev (fun k => sextonref08_Write.j0 k l a d true) (([] : List S41), (408 : Int)) := Ev.step (fun k => by simp only [sextonref08_Write.j0]; rfl) (Ev.now _)
      by_cases c2 : (d.size : Int) > 1048576
      · simp only [if_pos c2]; exact hj
      · simp only [if_neg c2]
        rw [wrap_id (by omega) (by omega), decide_eq_true (by omega)]
        exact hj

/-! ### Cut -/
theorem rcut_l0 (a : Int) (o : List S58) (ho : Fine o) (n : Nat) : ∀ (i : Nat) (out : List S58), i ≤ o.length → o.length - i = n → out.length ≤ i → (o.filter fun x => decide (x.f0 < a)) = out ++ ((o.drop i).filter fun x => decide (x.f0 < a)) →
    Ev (fun k => sextonref08_Cut.l0 k a out o o.length i) (jn (SL (o.filter fun x => decide (x.f0 < a))), 0) := by
  have hl := ho.len
  induction n with
  | zero =>
    intro i out h1 h2 h3 h
    rw [List.drop_eq_nil_of_le (by omega), List.filter_nil, List.append_nil] at h
    rw [h]
    exact Ev.step (fun k => by simp only [sextonref08_Cut.l0]; rw [if_neg (by omega)]) (Ev.bind (made_f (h ▸ fine_filter _ ho)) (Ev.now _))
  | succ n ih =>
    intro i out h1 h2 h3 h
    have hlt : i < o.length := by omega
    have hd : o.drop i = o[i] :: o.drop (i + 1) := List.drop_eq_getElem_cons hlt
    rw [hd, List.filter_cons] at h
    by_cases c : (o[i]).f0 < a
    · rw [if_pos (by simpa using c)] at h
      refine Ev.step (fun k => ?_) (ih (i + 1) (out ++ [o[i]]) (by omega) (by omega) (by simp; omega) (by rw [h]; simp))
      simp only [sextonref08_Cut.l0, rd58 o i hlt]
      rw [if_pos (by omega), if_pos (by omega), if_pos (by omega), if_pos c, if_pos (by omega), wr1 i (by omega)]
    · rw [if_neg (by simpa using c)] at h
      refine Ev.step (fun k => ?_) (ih (i + 1) out (by omega) (by omega) (by omega) h)
      simp only [sextonref08_Cut.l0, rd58 o i hlt]
      rw [if_pos (by omega), if_pos (by omega), if_pos (by omega), if_neg c, wr1 i (by omega)]
theorem rcut_f {l : List S41} (hl : l.length ≤ 9223372036854775806) {a : Int} : Ev (fun k => sextonref08_Cut.f k l a) (if chk 0 l = true then (if a < 0 then ([], 1) else (jn (SL ((ones l).filter fun x => decide (x.f0 < a))), 0)) else ([], 80)) := by
  refine Ev.bind (right_f l hl) ?_
  cases hc : chk 0 l with
  | false => exact Ev.now _
  | true =>
    simp only [if_true]
    by_cases c1 : a < 0
    · simp only [if_pos c1]; exact Ev.now _
    · simp only [if_neg c1]
      exact Ev.bind (ones_f hc) (rcut_l0 a (ones l) (fine_ones hc) _ 0 [] (by omega) rfl (by simp) (by simp))

/-! ### Read -/
theorem rread_l1 (l : List S41) (hl : l.length ≤ 1048576) (a1 a2 a3 : Int) (acc : List Int) (hacc : acc.length ≤ 512) (x : Nat) (hx : x ≤ 512) (h2 : 0 ≤ a2) (h2' : a2 ≤ 1048576) {R : ByteArray × Int} (n : Nat) : ∀ (i : Nat) (fr b : Int), 0 ≤ fr → i ≤ l.length → l.length - i = n → chk fr (l.drop i) = true →
    Ev (fun k => sextonref08_Read.l0 k l a1 a2 a3 (acc ++ [(val (l.drop i) (a2 + x)).getD b]) ((x + 1 : Nat) : Int)) R → Ev (fun k => sextonref08_Read.l1 k l a1 a2 a3 acc x b l l.length i) R := by
  induction n with
  | zero =>
    intro i fr b h0 h1 hn hc h
    rw [List.drop_eq_nil_of_le (by omega)] at h
    refine Ev.step (fun k => ?_) h
    simp only [sextonref08_Read.l1]
    rw [if_neg (by omega), if_pos (by omega), wr1 x (by omega)]
    rfl
  | succ n ih =>
    intro i fr b h0 h1 hn hc h
    have hlt : i < l.length := by omega
    have hd : l.drop i = l[i] :: l.drop (i + 1) := List.drop_eq_getElem_cons hlt
    rw [hd] at hc h
    obtain ⟨c1, c2, c3, c4, c5⟩ := chk_spec hc
    have e1 : wrap64 (a2 + (x : Int)) = a2 + x := wrap_id (by omega) (by omega)
    have e2 : wrap64 (a2 + (x : Int) - (l[i]).f0) = a2 + x - (l[i]).f0 := wrap_id (by omega) (by omega)
    by_cases hr : inRun l[i] (a2 + x)
    · have hr' := hr
      unfold inRun at hr'
      rw [val_in hr] at h
      refine Ev.step (fun k => ?_) (ih (i + 1) ((l[i]).f0 + (l[i]).f1.size + 1) (bt (l[i]).f1 (a2 + x - (l[i]).f0)) (by omega) (by omega) (by omega) c5 (by rw [val_none c5 (by omega)]; exact h))
      simp only [sextonref08_Read.l1, rd41 l i hlt]
      rw [if_pos (by omega), if_pos (by omega), if_pos (by omega), e1, e2, if_pos (by omega), if_pos (by omega), if_pos (by omega), wr1 i (by omega)]
    · have hr' := hr
      unfold inRun at hr'
      rw [val_out hr] at h
      refine Ev.step (fun k => ?_) (ih (i + 1) ((l[i]).f0 + (l[i]).f1.size + 1) b (by omega) (by omega) (by omega) c5 h)
      simp only [sextonref08_Read.l1, rd41 l i hlt]
      rw [if_pos (by omega), if_pos (by omega), if_pos (by omega), e1, e2, wr1 i (by omega)]
      by_cases g : a2 + x - (l[i]).f0 ≥ 0
      · rw [if_pos g, if_neg (by omega)]
      · rw [if_neg g]
theorem rread_l0 (l : List S41) (hc : chk 0 l = true) (a1 a2 a3 : Int) (h1 : 0 ≤ a1) (h1' : a1 ≤ 1048576) (h2 : 0 ≤ a2) (h2' : a2 < a1) (h3 : 0 ≤ a3) (h3' : a3 ≤ 512) (m : Nat) (hm : (m : Int) = min a3 (a1 - a2)) (n : Nat) : ∀ (j : Nat), j + n = m →
    Ev (fun k => sextonref08_Read.l0 k l a1 a2 a3 ((List.range j).map fun j : Nat => byteAt l (a2 + j)) j) (strOfNums ((List.range m).map fun j : Nat => byteAt l (a2 + j)), 0) := by
  have hl := (chk_few (by omega) hc).1
  induction n with
  | zero =>
    intro j hj
    obtain rfl : j = m := by omega
    have e1 : wrap64 (a1 - (j : Int)) = a1 - j := wrap_id (by omega) (by omega)
    have hstop : Ev (fun k => sextonref08_Read.j2 k l a1 a2 a3 ((List.range j).map fun j : Nat => byteAt l (a2 + j)) j false) (strOfNums ((List.range j).map fun j : Nat => byteAt l (a2 + j)), 0) := Ev.step (fun k => by simp only [sextonref08_Read.j2]; rfl) (Ev.now _)
    refine Ev.step (fun k => ?_) hstop
    simp only [sextonref08_Read.l0]
    by_cases g : (j : Int) < a3
    · rw [if_pos g, e1, decide_eq_false (by omega)]
    · rw [if_neg g]
  | succ n ih =>
    intro j hj
    have e1 : wrap64 (a1 - (j : Int)) = a1 - j := wrap_id (by omega) (by omega)
    have hrest := ih (j + 1) (by omega)
    rw [List.range_succ, List.map_append] at hrest
    refine Ev.step (f := fun k => sextonref08_Read.j2 k l a1 a2 a3 ((List.range j).map fun j : Nat => byteAt l (a2 + j)) j true) (fun k => ?_) (Ev.step (fun k => ?_) (rread_l1 l hl a1 a2 a3 ((List.range j).map fun j : Nat => byteAt l (a2 + j)) (by simp; omega) j (by omega) h2 (by omega) _ 0 0 0 (by omega) (by omega) rfl hc hrest))
    · simp only [sextonref08_Read.l0]
      rw [if_pos (by omega), e1, decide_eq_true (by omega)]
    · simp only [sextonref08_Read.j2]; rfl
theorem mn_min (a b : Int) : mn a b = min a b := by unfold mn; omega
theorem rread_f {l : List S41} (hl : l.length ≤ 9223372036854775806) (a1 a2 a3 : Int) {r : ByteArray × Int} (h : blob_Read.f l a1 a2 a3 = some r) : Ev (fun k => sextonref08_Read.f k l a1 a2 a3) r := by
  unfold blob_Read.f at h
  refine Ev.bind (right_f l hl) ?_
  cases hc : chk 0 l with
  | false => rw [hc, if_neg (by simp)] at h; obtain rfl := Option.some.inj h; exact Ev.now _
  | true =>
    rw [hc, if_pos rfl] at h
    simp only [if_true]
    have hj : Ev (fun k => sextonref08_Read.j0 k l a1 a2 a3 true) ((⟨#[]⟩ : ByteArray), (1 : Int)) := Ev.step (fun k => by simp only [sextonref08_Read.j0]; rfl) (Ev.now _)
    by_cases g1 : a1 < 0
    · rw [if_pos (.inl g1)] at h; obtain rfl := Option.some.inj h; simp only [if_pos g1]; exact hj
    by_cases g2 : a1 > 1048576
    · rw [if_pos (.inr (.inl g2))] at h; obtain rfl := Option.some.inj h; simp only [if_neg g1, if_pos g2]; exact hj
    by_cases g3 : a2 < 0
    · rw [if_pos (.inr (.inr (.inl g3)))] at h; obtain rfl := Option.some.inj h; simp only [if_neg g1, if_neg g2, if_pos g3]; exact hj
    by_cases g4 : a3 < 0
    · rw [if_pos (.inr (.inr (.inr (.inl g4))))] at h; obtain rfl := Option.some.inj h; simp only [if_neg g1, if_neg g2, if_neg g3, if_pos g4]; exact hj
    simp only [if_neg g1, if_neg g2, if_neg g3, if_neg g4]
    by_cases g5 : a3 > 512
    · rw [if_pos (.inr (.inr (.inr (.inr g5))))] at h; obtain rfl := Option.some.inj h; rw [decide_eq_true g5]; exact hj
    rw [decide_eq_false g5]
    rw [if_neg (by omega)] at h
    refine Ev.step (f := fun k => sextonref08_Read.l0 k l a1 a2 a3 ([] : List Int) 0) (fun k => by simp only [sextonref08_Read.j0]; rw [if_neg (by simp)]) ?_
    by_cases g6 : a2 ≥ a1
    · rw [if_pos g6] at h
      obtain rfl := Option.some.inj h
      have e1 : wrap64 (a1 - 0) = a1 := by rw [Int.sub_zero]; exact wrap_id (by omega) (by omega)
      refine Ev.step (f := fun k => sextonref08_Read.j2 k l a1 a2 a3 [] 0 false) (fun k => ?_) (Ev.step (fun k => by simp only [sextonref08_Read.j2]; rfl) (Ev.now _))
      simp only [sextonref08_Read.l0]
      rw [e1, decide_eq_false (by omega)]
      by_cases g7 : 0 < a3
      · rw [if_pos g7]
      · rw [if_neg g7]
    · rw [if_neg g6] at h
      obtain rfl := Option.some.inj h
      rw [readOf_eq hc]
      have := mn_min a3 (a1 - a2)
      exact rread_l0 l hc a1 a2 a3 (by omega) (by omega) (by omega) (by omega) (by omega) (by omega) (mn a3 (a1 - a2)).toNat (by omega) (mn a3 (a1 - a2)).toNat 0 (by omega)

end Go.Proofs.Ytmknehabmloebaa.PBlob
