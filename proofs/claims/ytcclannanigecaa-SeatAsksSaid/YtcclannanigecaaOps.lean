/- Plain facts about seats: right lists, the place of a client, what the small functions come to. -/
import Derived.Test.YtcclannanigecaaAt
import Derived.Test.YtcclannanigecaaPSeatx4
import Derived.Test.YtcclannanigecaaPSeatx5
namespace Go.Proofs.Ytcclannanigecaa.PSeat
open Go Go.RowKit Go.Proofs.YtcclannanigecaaW.PrintWords Go.Proofs.YtcclannanigecaaW.PrintLast Go.Proofs.YtcclannanigecaaW.PrintMore
set_option linter.unusedVariables false

theorem wrap_id {a : Int} (h1 : -9223372036854775808 ≤ a) (h2 : a ≤ 9223372036854775807) : wrap64 a = a := by unfold wrap64; omega
theorem rd46 (l : List S46) (i : Nat) (h : i < l.length) : rd_T46 l (i : Int) = l[i] := by
  simp [rd_T46, List.getD_eq_getElem?_getD, List.getElem?_eq_getElem h]
theorem rd24 (l : List S24) (i : Nat) (h : i < l.length) : rd_T24 l (i : Int) = l[i] := by
  simp [rd_T24, List.getD_eq_getElem?_getD, List.getElem?_eq_getElem h]
theorem wr1 (i : Nat) (h : i < 9223372036854775807) : wrap64 ((i : Int) + 1) = ((i + 1 : Nat) : Int) := by unfold wrap64; omega
theorem wrm1 (i : Nat) (h0 : 0 < i) (h : i < 9223372036854775807) : wrap64 ((i : Int) - 1) = ((i - 1 : Nat) : Int) := by unfold wrap64; omega

def FitC (a : Int) : Prop := 0 ≤ a ∧ a ≤ 1099511627776
def FitR (a : Int) : Prop := 1 ≤ a ∧ a ≤ 1099511627776
instance (a : Int) : Decidable (FitC a) := by unfold FitC; infer_instance
instance (a : Int) : Decidable (FitR a) := by unfold FitR; infer_instance
theorem client_eq (a : Int) : seat_client.f a = some (decide (FitC a)) := by
  unfold seat_client.f
  split
  · exact congrArg some (decide_eq_decide.2 (by unfold FitC; omega))
  · exact congrArg some (decide_eq_false (by unfold FitC; omega)).symm
theorem request_eq (a : Int) : seat_request.f a = some (decide (FitR a)) := by
  unfold seat_request.f
  split
  · exact congrArg some (decide_eq_decide.2 (by unfold FitR; omega))
  · exact congrArg some (decide_eq_false (by unfold FitR; omega)).symm
def Fit (x : S46) : Prop := FitC x.f0 ∧ FitR x.f1 ∧ (x.f2.size : Int) ≤ 8192
instance (x : S46) : Decidable (Fit x) := by unfold Fit; infer_instance
def chk : Int → List S46 → Bool
  | _, [] => true
  | p, x :: l => if Fit x ∧ p < x.f0 then chk x.f0 l else false
theorem chk_spec {p : Int} {x : S46} {l : List S46} (h : chk p (x :: l) = true) : Fit x ∧ p < x.f0 ∧ chk x.f0 l = true := by
  unfold chk at h
  split at h
  · rename_i c; exact ⟨c.1, c.2, h⟩
  · cases h
theorem chk_ok {p : Int} {x : S46} {l : List S46} (h : Fit x ∧ p < x.f0) : chk p (x :: l) = chk x.f0 l := by rw [chk, if_pos h]
theorem chk_bad {p : Int} {x : S46} {l : List S46} (h : ¬ (Fit x ∧ p < x.f0)) : chk p (x :: l) = false := by rw [chk, if_neg h]
theorem chk_fit : ∀ {l : List S46} {p : Int}, chk p l = true → ∀ x ∈ l, Fit x ∧ p < x.f0
  | [], _, _, x, hx => by cases hx
  | y :: l, p, h, x, hx => by
    obtain ⟨h1, h2, h3⟩ := chk_spec h
    rcases List.mem_cons.1 hx with rfl | hx
    · exact ⟨h1, h2⟩
    · obtain ⟨a, b⟩ := chk_fit h3 x hx; exact ⟨a, by omega⟩
theorem chk_mono {p q : Int} {l : List S46} (h : chk p l = true) (hq : ∀ x ∈ l, q < x.f0) : chk q l = true := by
  cases l with
  | nil => rfl
  | cons x l =>
    obtain ⟨h1, h2, h3⟩ := chk_spec h
    rw [chk_ok ⟨h1, hq x (by simp)⟩]; exact h3
theorem chk_app : ∀ {a b : List S46} {p : Int}, chk p (a ++ b) = true → chk p a = true ∧ ∃ q, chk q b = true ∧ (∀ x ∈ a, x.f0 ≤ q) ∧ p ≤ q
  | [], b, p, h => ⟨rfl, p, h, fun x hx => (by cases hx), Int.le_refl _⟩
  | x :: a, b, p, h => by
    obtain ⟨h1, h2, h3⟩ := chk_spec h
    obtain ⟨c1, q, c2, c3, c4⟩ := chk_app h3
    refine ⟨by rw [chk_ok ⟨h1, h2⟩]; exact c1, q, c2, fun y hy => ?_, by omega⟩
    rcases List.mem_cons.1 hy with rfl | hy
    · exact c4
    · exact c3 y hy
theorem chk_join : ∀ {a b : List S46} {p q : Int}, chk p a = true → chk q b = true → (∀ x ∈ a, ∀ y ∈ b, x.f0 < y.f0) → (∀ y ∈ b, p < y.f0) → chk p (a ++ b) = true
  | [], b, p, q, _, hb, _, hp => chk_mono hb hp
  | x :: a, b, p, q, ha, hb, hab, hp => by
    obtain ⟨h1, h2, h3⟩ := chk_spec ha
    rw [List.cons_append, chk_ok ⟨h1, h2⟩]
    exact chk_join h3 hb (fun y hy => hab y (by simp [hy])) (hab x (by simp))
def ok (l : List S46) : Bool := chk (-1) l && decide (l.length ≤ 6)
theorem ok_spec {l : List S46} (h : ok l = true) : chk (-1) l = true ∧ l.length ≤ 6 := by unfold ok at h; simpa using h

/-! ### right lists -/
def Prv (l : List S46) (i : Nat) (p : Int) : Prop := (i = 0 ∧ p = -1) ∨ (0 < i ∧ ∃ y, l[i - 1]? = some y ∧ p = y.f0)
theorem check_l0 (l : List S46) (hl : l.length ≤ 9223372036854775806) (n : Nat) : ∀ (i : Nat) (p : Int), i ≤ l.length → l.length - i = n → Prv l i p → Ev (fun k => seat_Check.l0 k l l l.length i) (if chk p (l.drop i) = true then 0 else 4) := by
  induction n with
  | zero =>
    intro i p h1 h2 hp
    rw [List.drop_eq_nil_of_le (by omega)]
    exact Ev.step (fun k => by simp only [seat_Check.l0]; rw [if_neg (by omega)]; rfl) (Ev.now _)
  | succ n ih =>
    intro i p h1 h2 hp
    have hlt : i < l.length := by omega
    rw [List.drop_eq_getElem_cons hlt]
    have ih' := ih (i + 1) (l[i]).f0 (by omega) (by omega) (.inr ⟨by omega, l[i], by simp [hlt], rfl⟩)
    have g : ∀ k, seat_Check.l0 (k + 1) l l l.length i = if Fit l[i] then (if (i : Int) > 0 then (if (l[i]).f0 ≤ p then some 4 else seat_Check.l0 k l l l.length ((i + 1 : Nat) : Int)) else seat_Check.l0 k l l l.length ((i + 1 : Nat) : Int)) else some 4 := fun k => by
      simp only [seat_Check.l0, rd46 l i hlt, client_eq, request_eq, Option.bind_some]
      rw [if_pos (by omega), if_pos (by omega), if_pos (by omega)]
      by_cases c1 : FitC (l[i]).f0
      · rw [if_pos (by simpa using c1)]
        by_cases c2 : FitR (l[i]).f1
        · rw [if_pos (by simpa using c2)]
          by_cases c3 : ((l[i]).f2.size : Int) ≤ 8192
          · rw [if_neg (by omega), if_pos (show Fit l[i] from ⟨c1, c2, c3⟩)]
            rcases hp with ⟨h0, h0'⟩ | ⟨h0, y, hy, hyp⟩
            · rw [if_neg (by omega), if_neg (by omega), wr1 i (by omega)]
            · have hyr : rd_T46 l ((i - 1 : Nat) : Int) = y := by simp [rd_T46, List.getD_eq_getElem?_getD, hy]
              rw [if_pos (by omega), wrm1 i (by omega) (by omega), if_pos (by omega), if_pos (by omega), hyr, ← hyp, wr1 i (by omega), if_pos (show (i : Int) > 0 by omega)]
          · rw [if_pos (by omega), if_neg (fun h : Fit l[i] => c3 h.2.2)]
        · rw [if_neg (by simpa using c2), if_neg (fun h : Fit l[i] => c2 h.2.1)]
      · rw [if_neg (by simpa using c1), if_neg (fun h : Fit l[i] => c1 h.1)]
    by_cases c : Fit l[i]
    · by_cases c2 : p < (l[i]).f0
      · rw [chk_ok ⟨c, c2⟩]
        refine Ev.step (fun k => ?_) ih'
        rw [g, if_pos c]
        split
        · rw [if_neg (by omega)]
        · rfl
      · rw [chk_bad (fun h => c2 h.2)]
        refine Ev.step (fun k => ?_) (Ev.now _)
        rw [g, if_pos c]
        rcases hp with ⟨h0, h0'⟩ | ⟨h0, y, hy, hyp⟩
        · have := c.1.1; omega
        · rw [if_pos (by omega), if_pos (by omega)]; rfl
    · rw [chk_bad (fun h => c h.1)]
      exact Ev.step (fun k => by rw [g, if_neg c]; rfl) (Ev.now _)
theorem check_f (l : List S46) : Ev (fun k => seat_Check.f k l) (if ok l = true then 0 else 4) := by
  unfold seat_Check.f
  by_cases c : (l.length : Int) > 6
  · have : ok l = false := by unfold ok; simp; omega
    simp only [if_pos c, this]
    exact Ev.now _
  · have e : ok l = chk (-1) l := by unfold ok; rw [decide_eq_true (by omega), Bool.and_true]
    simp only [if_neg c]
    rw [e]
    exact check_l0 l (by omega) l.length 0 (-1) (by omega) (by omega) (.inl ⟨rfl, rfl⟩)

/-! ### the place -/
structure Sp (l : List S46) (who : Int) (a b : List S46) : Prop where
  eq : l = a ++ b
  len : a.length = place l who
  lo : ∀ x ∈ a, x.f0 < who
  hi : ∀ x ∈ b, who ≤ x.f0
theorem bs_spec (l : List S46) (who : Int) (hs : ∀ (s t : Nat) (h : t < l.length) (hst : s < t), (l[s]'(by omega)).f0 < (l[t]).f0) : ∀ (f i j : Nat), i ≤ j → j ≤ l.length → j - i ≤ f → (∀ (t : Nat) (h : t < l.length), t < i → (l[t]).f0 < who) → (∀ (t : Nat) (h : t < l.length), j ≤ t → who ≤ (l[t]).f0) →
    (∀ (t : Nat) (h : t < l.length), t < bs l who f i j → (l[t]).f0 < who) ∧ (∀ (t : Nat) (h : t < l.length), bs l who f i j ≤ t → who ≤ (l[t]).f0)
  | 0, i, j, h1, h2, h3, h4, h5 => by
    have : j = i := by omega
    subst this
    exact ⟨h4, h5⟩
  | f + 1, i, j, h1, h2, h3, h4, h5 => by
    rw [bs]
    split
    · have hm : (i + j) / 2 < l.length := by omega
      rw [rd46 l _ hm]
      split
      · rename_i c
        refine bs_spec l who hs f _ j (by omega) h2 (by omega) (fun t ht hlt => ?_) h5
        by_cases e : t = (i + j) / 2
        · subst e; exact c
        · have := hs t ((i + j) / 2) hm (by omega); omega
      · rename_i c
        refine bs_spec l who hs f i _ (by omega) (by omega) (by omega) h4 (fun t ht hle => ?_)
        by_cases e : t = (i + j) / 2
        · subst e; omega
        · have := hs ((i + j) / 2) t ht (by omega); omega
    · have : j = i := by omega
      subst this
      exact ⟨h4, h5⟩
theorem chk_sorted : ∀ {l : List S46} {p : Int}, chk p l = true → ∀ (s t : Nat) (h : t < l.length) (hst : s < t), (l[s]'(by omega)).f0 < (l[t]).f0
  | x :: l, p, hc, s, t + 1, h, hst => by
    obtain ⟨h1, h2, h3⟩ := chk_spec hc
    cases s with
    | zero =>
      rw [List.getElem_cons_zero, List.getElem_cons_succ]
      exact (chk_fit h3 _ (List.getElem_mem _)).2
    | succ s =>
      rw [List.getElem_cons_succ, List.getElem_cons_succ]
      exact chk_sorted h3 s t (by simpa using h) (by omega)
theorem sp_of {l : List S46} (who : Int) (hc : chk (-1) l = true) : ∃ a b, Sp l who a b := by
  obtain ⟨h1, h2⟩ := bs_spec l who (chk_sorted hc) l.length 0 l.length (by omega) (by omega) (by omega) (fun t h ht => by omega) (fun t h ht => by omega)
  have hle := (bs_le l who l.length 0 l.length (by omega)).2
  refine ⟨l.take (place l who), l.drop (place l who), (List.take_append_drop _ _).symm, by rw [List.length_take]; unfold place; omega, fun x hx => ?_, fun x hx => ?_⟩
  · obtain ⟨t, ht, rfl⟩ := List.mem_iff_getElem.1 hx
    rw [List.getElem_take]
    rw [List.length_take] at ht
    exact h1 t (by omega) (by unfold place at ht; omega)
  · obtain ⟨t, ht, rfl⟩ := List.mem_iff_getElem.1 hx
    rw [List.getElem_drop]
    rw [List.length_drop] at ht
    exact h2 _ (by omega) (by unfold place; omega)
def key (who : Int) (x : S46) : Bool := x.f0 == who
/-- A client has a seat, or none. -/
theorem sp_cases {l a b : List S46} {who : Int} (hc : chk (-1) l = true) (h : Sp l who a b) :
    (∃ y b', b = y :: b' ∧ y.f0 = who ∧ (∀ x ∈ b', who < x.f0) ∧ l.find? (key who) = some y ∧ seat_at.f l who = (if l.length ≤ 1000000000000 then some ((a.length : Int), true) else none) ∧ rd_T46 l (a.length : Int) = y ∧ a.length < l.length) ∨
    ((∀ x ∈ b, who < x.f0) ∧ l.find? (key who) = none ∧ seat_at.f l who = (if l.length ≤ 1000000000000 then some ((a.length : Int), false) else none)) := by
  have hna : a.find? (key who) = none := List.find?_eq_none.2 (fun x hx => by have := h.lo x hx; simp [key]; omega)
  have hlen := congrArg List.length h.eq
  rw [List.length_append] at hlen
  obtain ⟨_, q, hq, _, _⟩ := chk_app (show chk (-1) (a ++ b) = true by rw [← h.eq]; exact hc)
  cases b with
  | nil =>
    refine .inr ⟨fun x hx => (by cases hx), ?_, ?_⟩
    · rw [h.eq, List.find?_append, hna]; rfl
    · unfold seat_at.f
      rw [← h.len, decide_eq_false (by simp at hlen; omega), Bool.false_and]
  | cons y b' =>
    obtain ⟨_, _, hq3⟩ := chk_spec hq
    have hlt : a.length < l.length := by rw [hlen, List.length_cons]; omega
    have hr : rd_T46 l (a.length : Int) = y := by rw [rd46 l _ hlt]; simp [h.eq]
    have hy := h.hi y (by simp)
    by_cases c : y.f0 = who
    · refine .inl ⟨y, b', rfl, c, fun x hx => by have := (chk_fit hq3 x hx).2; omega, ?_, ?_, hr, hlt⟩
      · rw [h.eq, List.find?_append, hna, Option.none_or, List.find?_cons, show key who y = true by simp [key, c]]
      · unfold seat_at.f
        rw [← h.len, hr, decide_eq_true hlt, decide_eq_true c, Bool.true_and]
    · have hb : ∀ x ∈ y :: b', who < x.f0 := fun x hx => by
        rcases List.mem_cons.1 hx with rfl | hx
        · omega
        · have := (chk_fit hq3 x hx).2; omega
      refine .inr ⟨hb, ?_, ?_⟩
      · rw [h.eq, List.find?_append, hna, Option.none_or]
        exact List.find?_eq_none.2 (fun x hx => by have := hb x hx; simp [key]; omega)
      · unfold seat_at.f
        rw [← h.len, hr, decide_eq_false c, Bool.and_false]

/-! ### asking -/
def ask (l : List S46) (who req : Int) : Int × ByteArray × Int :=
  if ok l = true then (if FitC who ∧ FitR req then (match l.find? (key who) with | some x => (if req > x.f1 then (1, ⟨#[]⟩, 0) else if req < x.f1 then (3, ⟨#[]⟩, 0) else (2, x.f2, 0)) | none => (if l.length = 6 then (4, ⟨#[]⟩, 0) else (1, ⟨#[]⟩, 0))) else (0, ⟨#[]⟩, 1)) else (0, ⟨#[]⟩, 4)
theorem ask_j2 (l : List S46) (req x10 : Int) (b : Bool) (R : Int × ByteArray × Int) (h : (if b = true then some ((1 : Int), (⟨#[]⟩ : ByteArray), (0 : Int)) else (if 0 ≤ x10 then (if x10 < (l.length : Int) then (if req < ((rd_T46 l x10).f1) then (some (3, (⟨#[]⟩ : ByteArray), 0)) else (some (2, (rd_T46 l x10).f2, 0))) else (none)) else (none))) = some R) : Ev (fun k => seat_Ask.j2 k l req x10 b) R :=
  Ev.step (fun k => by simp only [seat_Ask.j2]; exact h) (Ev.now _)
theorem ask_f (l : List S46) (who req : Int) : Ev (fun k => seat_Ask.f k l who req) (ask l who req) := by
  refine Ev.bind (check_f l) ?_
  unfold ask
  by_cases c : ok l = true
  · obtain ⟨hchk, hlen⟩ := ok_spec c
    simp only [if_pos c, if_true, client_eq, request_eq, Option.bind_some]
    have hbad : Ev (fun k => seat_Ask.j0 k l who req true) ((0 : Int), (⟨#[]⟩ : ByteArray), (1 : Int)) := Ev.step (fun k => by simp only [seat_Ask.j0]; rfl) (Ev.now _)
    by_cases d1 : FitC who
    · have e1 : decide (FitC who) = true := decide_eq_true d1
      simp only [if_pos e1]
      by_cases d2 : FitR req
      · have e2 : FitC who ∧ FitR req := ⟨d1, d2⟩
        rw [if_pos e2, decide_eq_true d2]
        obtain ⟨a, b, hs⟩ := sp_of who hchk
        rcases sp_cases hchk hs with ⟨y, b', _, hy, _, hf, hat, hr, hlt⟩ | ⟨_, hf, hat⟩
        · rw [hf]
          rw [if_pos (by omega)] at hat
          have g : ∀ k, seat_Ask.j0 (k + 1) l who req (!true) = seat_Ask.j1 k l req (a.length : Int) true false := fun k => by
            simp only [seat_Ask.j0]; rw [if_neg (by simp), hat, Option.bind_some]; rfl
          refine Ev.step g (Ev.step (f := fun k => seat_Ask.j2 k l req (a.length : Int) (decide (req > y.f1))) (fun k => ?_) (ask_j2 _ _ _ _ _ ?_))
          · simp only [seat_Ask.j1]
            rw [if_neg (by simp), if_pos trivial, if_pos (by omega), if_pos (by omega), hr]
          · by_cases e : req > y.f1
            · rw [decide_eq_true e]; simp only [if_pos e]; rfl
            · rw [decide_eq_false e, if_neg (by simp), if_pos (by omega), if_pos (by omega), hr]
              simp only [if_neg e]
              split <;> rfl
        · rw [hf]
          rw [if_pos (by omega)] at hat
          have g : ∀ k, seat_Ask.j0 (k + 1) l who req (!true) = seat_Ask.j1 k l req (a.length : Int) false ((l.length : Int) == 6) := fun k => by
            simp only [seat_Ask.j0]; rw [if_neg (by simp), hat, Option.bind_some]; rfl
          refine Ev.step g ?_
          by_cases e : l.length = 6
          · have e' : ((l.length : Int) == 6) = true := by simp; omega
            rw [e']; simp only [if_pos e]
            exact Ev.step (fun k => by simp only [seat_Ask.j1]; rfl) (Ev.now _)
          · have e' : ((l.length : Int) == 6) = false := by simp; omega
            rw [e']; simp only [if_neg e]
            exact Ev.step (f := fun k => seat_Ask.j2 k l req (a.length : Int) true) (fun k => by simp only [seat_Ask.j1]; rfl) (ask_j2 _ _ _ _ _ rfl)
      · have e2 : ¬ (FitC who ∧ FitR req) := fun h => d2 h.2
        rw [if_neg e2, decide_eq_false d2]; exact hbad
    · have e1 : ¬ decide (FitC who) = true := by simpa using d1
      have e2 : ¬ (FitC who ∧ FitR req) := fun h => d1 h.1
      simp only [if_neg e1]
      rw [if_neg e2]; exact hbad
  · simp only [if_neg c]
    exact Ev.now _

end Go.Proofs.Ytcclannanigecaa.PSeat
