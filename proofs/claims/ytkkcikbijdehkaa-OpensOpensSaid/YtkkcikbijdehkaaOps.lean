/- Plain facts about open files: right lists, the least free number, and the small functions. -/
import Derived.Test.YtkkcikbijdehkaaPOpensx7
import Derived.Test.YtkkcikbijdehkaaPOpensx11
import Derived.Test.YtkkcikbijdehkaaPOpensx13
import Derived.Test.YtkkcikbijdehkaaPOpensx16
namespace Go.Proofs.Ytkkcikbijdehkaa.POpens
open Go Go.RowKit Go.Proofs.YtkkcikbijdehkaaW.PrintWords Go.Proofs.YtkkcikbijdehkaaW.PrintLast Go.Proofs.YtkkcikbijdehkaaW.PrintMore
set_option linter.unusedVariables false

theorem wrap_id {a : Int} (h1 : -9223372036854775808 ≤ a) (h2 : a ≤ 9223372036854775807) : wrap64 a = a := by unfold wrap64; omega
theorem rd36 (l : List S36) (i : Nat) (h : i < l.length) : rd_T36 l (i : Int) = l[i] := by
  simp [rd_T36, List.getD_eq_getElem?_getD, List.getElem?_eq_getElem h]
theorem rd24 (l : List S24) (i : Nat) (h : i < l.length) : rd_T24 l (i : Int) = l[i] := by
  simp [rd_T24, List.getD_eq_getElem?_getD, List.getElem?_eq_getElem h]
theorem wr1 (i : Nat) (h : i < 9223372036854775807) : wrap64 ((i : Int) + 1) = ((i + 1 : Nat) : Int) := by unfold wrap64; omega
theorem wrm1 (i : Nat) (h0 : 0 < i) (h : i < 9223372036854775807) : wrap64 ((i : Int) - 1) = ((i - 1 : Nat) : Int) := by unfold wrap64; omega

def Fit (x : S36) : Prop := (0 ≤ x.f0 ∧ x.f0 < 16) ∧ (0 ≤ x.f1 ∧ x.f1 ≤ 1099511627776) ∧ (0 ≤ x.f2.f0 ∧ x.f2.f0 < 24) ∧ (1 ≤ x.f2.f1 ∧ x.f2.f1 ≤ 1099511627776)
instance (x : S36) : Decidable (Fit x) := by unfold Fit; infer_instance
def chk : Int → List S36 → Bool
  | _, [] => true
  | p, x :: l => if Fit x ∧ p < x.f0 then chk x.f0 l else false
theorem chk_spec {p : Int} {x : S36} {l : List S36} (h : chk p (x :: l) = true) : Fit x ∧ p < x.f0 ∧ chk x.f0 l = true := by
  unfold chk at h
  split at h
  · rename_i c; exact ⟨c.1, c.2, h⟩
  · cases h
theorem chk_ok {p : Int} {x : S36} {l : List S36} (h : Fit x ∧ p < x.f0) : chk p (x :: l) = chk x.f0 l := by rw [chk, if_pos h]
theorem chk_bad {p : Int} {x : S36} {l : List S36} (h : ¬ (Fit x ∧ p < x.f0)) : chk p (x :: l) = false := by rw [chk, if_neg h]
theorem chk_fit : ∀ {l : List S36} {p : Int}, chk p l = true → ∀ x ∈ l, Fit x ∧ p < x.f0
  | [], _, _, x, hx => by cases hx
  | y :: l, p, h, x, hx => by
    obtain ⟨h1, h2, h3⟩ := chk_spec h
    rcases List.mem_cons.1 hx with rfl | hx
    · exact ⟨h1, h2⟩
    · obtain ⟨a, b⟩ := chk_fit h3 x hx; exact ⟨a, by omega⟩
theorem chk_few : ∀ {l : List S36} {p : Int}, p ≤ 15 → chk p l = true → (l.length : Int) + p ≤ 15
  | [], p, hp, _ => by simpa using hp
  | y :: l, p, hp, h => by
    obtain ⟨h1, h2, h3⟩ := chk_spec h
    have := chk_few (l := l) (p := y.f0) (by have := h1.1.2; omega) h3
    rw [List.length_cons]; omega
theorem chk_len {l : List S36} (h : chk (-1) l = true) : l.length ≤ 16 := by have := chk_few (by omega) h; omega
theorem chk_app : ∀ {a b : List S36} {p : Int}, chk p (a ++ b) = true ↔ chk p a = true ∧ chk (match a.getLast? with | some y => y.f0 | none => p) b = true
  | [], b, p => by simp [chk]
  | x :: a, b, p => by
    rw [List.cons_append]
    by_cases c : Fit x ∧ p < x.f0
    · rw [chk_ok c, chk_ok c, chk_app]
      have : (match a.getLast? with | some y => y.f0 | none => x.f0) = (match (x :: a).getLast? with | some y => y.f0 | none => p) := by
        cases a with
        | nil => rfl
        | cons y a => rw [List.getLast?_cons_cons]; cases h : (y :: a).getLast? with
          | none => simp at h
          | some z => rfl
      rw [this]
    · rw [chk_bad c, chk_bad c]; simp
theorem chk_mono {p q : Int} {l : List S36} (h : chk p l = true) (hq : ∀ x ∈ l, q < x.f0) : chk q l = true := by
  cases l with
  | nil => rfl
  | cons x l =>
    obtain ⟨h1, h2, h3⟩ := chk_spec h
    rw [chk_ok ⟨h1, hq x (by simp)⟩]; exact h3

/-! ### the small functions -/
theorem from0_eq (a b : Int) : opens_from0.f a b = some (decide (0 ≤ a ∧ a < b)) := by
  unfold opens_from0.f
  by_cases h : a ≥ 0
  · rw [if_pos h]; exact congrArg some (decide_eq_decide.2 (by omega))
  · rw [if_neg h]; exact congrArg some (decide_eq_false (by omega)).symm
theorem client_eq (a : Int) : opens_client.f a = some (decide (0 ≤ a ∧ a ≤ 1099511627776)) := by
  unfold opens_client.f
  rw [from0_eq, Option.bind_some]; exact congrArg some (decide_eq_decide.2 (by omega))
def FitH (a b : Int) : Prop := (0 ≤ a ∧ a < 24) ∧ (1 ≤ b ∧ b ≤ 1099511627776)
instance (a b : Int) : Decidable (FitH a b) := by unfold FitH; infer_instance
theorem handle_eq (a b : Int) : opens_handle.f a b = some (decide (FitH a b)) := by
  unfold opens_handle.f
  rw [from0_eq, Option.bind_some, from0_eq, Option.bind_some]
  by_cases h1 : 0 ≤ a ∧ a < 24
  · rw [if_pos (by simpa using h1)]
    by_cases h2 : 0 ≤ b ∧ b < 1099511627777
    · rw [if_pos (by simpa using h2)]; exact congrArg some (decide_eq_decide.2 (by unfold FitH; omega))
    · rw [if_neg (by simpa using h2)]; exact congrArg some (decide_eq_false (by unfold FitH; omega)).symm
  · rw [if_neg (by simpa using h1)]; exact congrArg some (decide_eq_false (by unfold FitH; omega)).symm
theorem to_eq (a b : Int) : sextonref10_To.f a b = some (decide (FitH a b)) := by
  unfold sextonref10_To.f
  split
  · split
    · split
      · exact congrArg some (decide_eq_decide.2 (by unfold FitH; omega))
      · exact congrArg some (decide_eq_false (by unfold FitH; omega)).symm
    · exact congrArg some (decide_eq_false (by unfold FitH; omega)).symm
  · exact congrArg some (decide_eq_false (by unfold FitH; omega)).symm

/-! ### right lists -/
def Prv (l : List S36) (i : Nat) (p : Int) : Prop := (i = 0 ∧ p = -1) ∨ (0 < i ∧ ∃ y, l[i - 1]? = some y ∧ p = y.f0)
theorem check_l0 (l : List S36) (hl : l.length ≤ 9223372036854775806) (n : Nat) : ∀ (i : Nat) (p : Int), i ≤ l.length → l.length - i = n → Prv l i p → Ev (fun k => opens_Check.l0 k l l l.length i) (if chk p (l.drop i) = true then 0 else 4) := by
  induction n with
  | zero =>
    intro i p h1 h2 hp
    rw [List.drop_eq_nil_of_le (by omega)]
    exact Ev.step (fun k => by simp only [opens_Check.l0]; rw [if_neg (by omega)]; rfl) (Ev.now _)
  | succ n ih =>
    intro i p h1 h2 hp
    have hlt : i < l.length := by omega
    rw [List.drop_eq_getElem_cons hlt]
    have ih' := ih (i + 1) (l[i]).f0 (by omega) (by omega) (.inr ⟨by omega, l[i], by simp [hlt], rfl⟩)
    have g : ∀ k, opens_Check.l0 (k + 1) l l l.length i = if Fit l[i] then (if (i : Int) > 0 then (if (l[i]).f0 ≤ p then some 4 else opens_Check.l0 k l l l.length ((i + 1 : Nat) : Int)) else opens_Check.l0 k l l l.length ((i + 1 : Nat) : Int)) else some 4 := fun k => by
      simp only [opens_Check.l0, rd36 l i hlt, from0_eq, client_eq, handle_eq, Option.bind_some]
      rw [if_pos (by omega), if_pos (by omega), if_pos (by omega)]
      by_cases c1 : 0 ≤ (l[i]).f0 ∧ (l[i]).f0 < 16
      · rw [if_pos (by simpa using c1)]
        by_cases c2 : 0 ≤ (l[i]).f1 ∧ (l[i]).f1 ≤ 1099511627776
        · rw [if_pos (by simpa using c2)]
          by_cases c3 : FitH (l[i]).f2.f0 (l[i]).f2.f1
          · rw [if_pos (by simpa using c3), if_pos (show Fit l[i] from ⟨c1, c2, c3⟩)]
            rcases hp with ⟨h0, h0'⟩ | ⟨h0, y, hy, hyp⟩
            · rw [if_neg (by omega), if_neg (by omega), wr1 i (by omega)]
            · have hyr : rd_T36 l ((i - 1 : Nat) : Int) = y := by simp [rd_T36, List.getD_eq_getElem?_getD, hy]
              rw [if_pos (by omega), wrm1 i (by omega) (by omega), if_pos (by omega), if_pos (by omega), hyr, ← hyp, wr1 i (by omega), if_pos (show (i : Int) > 0 by omega)]
          · rw [if_neg (by simpa using c3), if_neg (fun h : Fit l[i] => c3 h.2.2)]
        · rw [if_neg (by simpa using c2), if_neg (fun h : Fit l[i] => c2 h.2.1)]
      · rw [if_neg (by simpa using c1), if_neg (fun h : Fit l[i] => c1 h.1)]
    by_cases c : Fit l[i]
    · by_cases c2 : p < (l[i]).f0
      · rw [chk_ok ⟨c, c2⟩]
        refine Ev.step (fun k => ?_) ih'
        rw [g, if_pos c]
        split
        · rw [if_neg (by omega)]
        · rfl
      · rw [chk_bad (fun h => c2 h.2)]
        refine Ev.step (fun k => ?_) (Ev.now _)
        rw [g, if_pos c]
        rcases hp with ⟨h0, h0'⟩ | ⟨h0, y, hy, hyp⟩
        · have := c.1.1; omega
        · rw [if_pos (by omega), if_pos (by omega)]; rfl
    · rw [chk_bad (fun h => c h.1)]
      exact Ev.step (fun k => by rw [g, if_neg c]; rfl) (Ev.now _)
theorem check_f (l : List S36) (hl : l.length ≤ 9223372036854775806) : Ev (fun k => opens_Check.f k l) (if chk (-1) l = true then 0 else 4) := by
  have := check_l0 l hl l.length 0 (-1) (by omega) (by omega) (.inl ⟨rfl, rfl⟩)
  simpa [opens_Check.f] using this
theorem right_l0 (l : List S36) (hl : l.length ≤ 9223372036854775806) (n : Nat) : ∀ (i : Nat) (p : Int), -1 ≤ p → i ≤ l.length → l.length - i = n → Ev (fun k => sextonref12_Right.l0 k p l l.length i) (chk p (l.drop i)) := by
  induction n with
  | zero =>
    intro i p h0 h1 h2
    rw [List.drop_eq_nil_of_le (by omega)]
    exact Ev.step (fun k => by simp only [sextonref12_Right.l0]; rw [if_neg (by omega)]; rfl) (Ev.now _)
  | succ n ih =>
    intro i p h0 h1 h2
    have hlt : i < l.length := by omega
    rw [List.drop_eq_getElem_cons hlt]
    have g : ∀ k, sextonref12_Right.l0 (k + 1) p l l.length i = if Fit l[i] ∧ p < (l[i]).f0 then sextonref12_Right.l0 k (l[i]).f0 l l.length ((i + 1 : Nat) : Int) else some false := fun k => by
      simp only [sextonref12_Right.l0, rd36 l i hlt, to_eq, Option.bind_some]
      rw [if_pos (by omega), if_pos (by omega), if_pos (by omega), wr1 i (by omega)]
      by_cases c : Fit l[i] ∧ p < (l[i]).f0
      · obtain ⟨⟨c1, c2, c3⟩, c4⟩ := c
        rw [if_pos (show Fit l[i] ∧ p < (l[i]).f0 from ⟨⟨c1, c2, c3⟩, c4⟩), if_neg (by omega), if_neg (by omega), if_neg (by omega), if_neg (by omega), if_pos (decide_eq_true (show FitH (l[i]).f2.f0 (l[i]).f2.f1 from c3))]
      · rw [if_neg c]
        split
        · rfl
        · split
          · rfl
          · split
            · rfl
            · split
              · rfl
              · split
                · rename_i d1 d2 d3 d4 d5
                  have d5 : FitH (l[i]).f2.f0 (l[i]).f2.f1 := by simpa using d5
                  exact absurd ⟨⟨⟨by omega, by omega⟩, ⟨by omega, by omega⟩, d5⟩, by omega⟩ c
                · rfl
    by_cases c : Fit l[i] ∧ p < (l[i]).f0
    · rw [chk_ok c]
      exact Ev.step (fun k => by rw [g, if_pos c]) (ih (i + 1) _ (by omega) (by omega) (by omega))
    · rw [chk_bad c]
      exact Ev.step (fun k => by rw [g, if_neg c]) (Ev.now _)
theorem right_f (l : List S36) (hl : l.length ≤ 9223372036854775806) : Ev (fun k => sextonref12_Right.f k l) (chk (-1) l) := by
  have := right_l0 l hl l.length 0 (-1) (by omega) (by omega) (by omega)
  simpa [sextonref12_Right.f] using this
def ask (l : List S36) (who : Int) : Int := if chk (-1) l = true then (if 0 ≤ who ∧ who ≤ 1099511627776 then 0 else 1) else 4
theorem asked_f (l : List S36) (who : Int) (hl : l.length ≤ 9223372036854775806) : Ev (fun k => opens_asked.f k l who) (ask l who) := by
  refine Ev.bind (check_f l hl) ?_
  unfold ask
  by_cases c : chk (-1) l = true
  · rw [if_pos c, if_pos c, client_eq]
    simp only [if_true, Option.bind_some]
    by_cases d : 0 ≤ who ∧ who ≤ 1099511627776
    · rw [if_pos d, decide_eq_true d]; exact Ev.now _
    · rw [if_neg d, decide_eq_false d]; exact Ev.now _
  · rw [if_neg c, if_neg c]; exact Ev.now _
theorem rasked_f (l : List S36) (who : Int) (hl : l.length ≤ 9223372036854775806) : Ev (fun k => sextonref12_asked.f k l who) (ask l who) := by
  refine Ev.bind (right_f l hl) ?_
  unfold ask
  by_cases c : chk (-1) l = true
  · rw [if_pos c, c]
    simp only [if_true]
    by_cases d : 0 ≤ who ∧ who ≤ 1099511627776
    · rw [if_pos d, if_neg (by omega), if_neg (by omega)]; exact Ev.now _
    · rw [if_neg d]
      by_cases e : who < 0
      · rw [if_pos e]; exact Ev.now _
      · rw [if_neg e, if_pos (by omega)]; exact Ev.now _
  · have c' : chk (-1) l = false := by simpa using c
    rw [if_neg c, c']; exact Ev.now _
theorem ask_zero {l : List S36} {who : Int} (h : ask l who = 0) : chk (-1) l = true ∧ 0 ≤ who ∧ who ≤ 1099511627776 := by
  unfold ask at h
  split at h
  · split at h
    · rename_i a b; exact ⟨a, b⟩
    · omega
  · omega

/-! ### equal lists -/
theorem opens_same (l : List S36) (hl : l.length ≤ 9223372036854775806) (n : Nat) : ∀ i : Nat, i ≤ l.length → l.length - i = n → Ev (fun k => sextonplain_Opens.l0 k l l l.length i) true := by
  induction n with
  | zero =>
    intro i h1 h2
    exact Ev.step (fun k => by simp only [sextonplain_Opens.l0]; rw [if_neg (by omega)]; simp) (Ev.now _)
  | succ n ih =>
    intro i h1 h2
    exact Ev.step (fun k => by simp only [sextonplain_Opens.l0]; rw [if_pos (by omega), if_neg (by omega), if_pos (by omega), if_pos (by omega), if_pos (by omega), if_neg (by simp), wr1 i (by omega)]) (ih (i + 1) (by omega) (by omega))
theorem opens_f (l : List S36) (hl : l.length ≤ 9223372036854775806) : Ev (fun k => sextonplain_Opens.f k l l) true := opens_same l hl l.length 0 (by omega) (by omega)
/-! ### the closed case -/
theorem two_f : Ev (fun k => sextonlaw12_two.f k) true := Ev.of sextonlaw12_two.mono (k := 12) (by kernel_rfl)

/-! ### the least free number -/
def lead : Nat → List S36 → Nat
  | i, [] => i
  | i, y :: l => if y.f0 = (i : Int) then lead (i + 1) l else i
theorem lead_split : ∀ {l : List S36} {i : Nat}, chk ((i : Int) - 1) l = true → ∃ a b, l = a ++ b ∧ lead i l = i + a.length ∧ (∀ x ∈ a, (i : Int) ≤ x.f0 ∧ x.f0 < (lead i l : Nat)) ∧ (∀ x ∈ b, ((lead i l : Nat) : Int) < x.f0) ∧ (∀ n : Nat, i ≤ n → n < lead i l → ∃ x ∈ a, x.f0 = (n : Int))
  | [], i, _ => ⟨[], [], rfl, rfl, fun x hx => (by cases hx), fun x hx => (by cases hx), fun n h1 h2 => by unfold lead at h2; omega⟩
  | y :: l, i, h => by
    obtain ⟨h1, h2, h3⟩ := chk_spec h
    by_cases c : y.f0 = (i : Int)
    · obtain ⟨a, b, e1, e2, e3, e4, e5⟩ := lead_split (l := l) (i := i + 1) (by rw [c] at h3; rw [show (((i + 1 : Nat) : Int) - 1) = i by omega]; exact h3)
      have el : lead i (y :: l) = lead (i + 1) l := by rw [lead, if_pos c]
      refine ⟨y :: a, b, by rw [e1]; rfl, by rw [el, e2, List.length_cons]; omega, fun x hx => ?_, fun x hx => by rw [el]; exact e4 x hx, fun n n1 n2 => ?_⟩
      · rw [el]
        rcases List.mem_cons.1 hx with rfl | hx
        · rw [c, e2]; omega
        · have := e3 x hx; omega
      · rw [el] at n2
        by_cases hn : n = i
        · exact ⟨y, by simp, by rw [c, hn]⟩
        · obtain ⟨x, hx, hxn⟩ := e5 n (by omega) n2
          exact ⟨x, by simp [hx], hxn⟩
    · have el : lead i (y :: l) = i := by rw [lead, if_neg c]
      refine ⟨[], y :: l, rfl, by rw [el]; rfl, fun x hx => (by cases hx), fun x hx => ?_, fun n n1 n2 => by rw [el] at n2; omega⟩
      rw [el]
      rcases List.mem_cons.1 hx with rfl | hx
      · omega
      · have := chk_fit h3 x hx; omega
/-- What a right list is around the least number that is free in it. -/
structure Free (l : List S36) (fd : Nat) (a b : List S36) : Prop where
  eq : l = a ++ b
  len : a.length = fd
  lo : ∀ x ∈ a, x.f0 < (fd : Int)
  hi : ∀ x ∈ b, (fd : Int) < x.f0
  all : ∀ n : Nat, n < fd → ∃ x ∈ a, x.f0 = (n : Int)
theorem free_of {l : List S36} (h : chk (-1) l = true) : ∃ a b, Free l (lead 0 l) a b := by
  obtain ⟨a, b, e1, e2, e3, e4, e5⟩ := lead_split (l := l) (i := 0) h
  exact ⟨a, b, e1, by omega, fun x hx => (e3 x hx).2, e4, fun n hn => e5 n (by omega) hn⟩
theorem free_full {l a b : List S36} {fd : Nat} (h : chk (-1) l = true) (hf : Free l fd a b) : (l.length = 16 ↔ fd = 16) ∧ fd ≤ 16 := by
  have hlen := chk_len h
  have e := congrArg List.length hf.eq
  rw [List.length_append, hf.len] at e
  refine ⟨⟨fun h16 => ?_, fun h16 => by omega⟩, by omega⟩
  cases b with
  | nil => simp at e; omega
  | cons y b =>
    exfalso
    have hc : chk (-1) (a ++ y :: b) = true := by rw [← hf.eq]; exact h
    have h2 := (chk_app.1 hc).2
    have h3 : chk (fd : Int) (y :: b) = true := chk_mono h2 (fun x hx => hf.hi x hx)
    have hy := chk_fit h3 y (by simp)
    have := chk_few (p := (fd : Int)) (by have := hy.1.1.2; omega) h3
    rw [List.length_cons] at this e
    omega
theorem free_chk {l a b : List S36} {fd : Nat} {x : S36} (h : chk (-1) l = true) (hf : Free l fd a b) (hx : Fit x) (hfd : x.f0 = (fd : Int)) : chk (-1) (a ++ x :: b) = true := by
  have hc : chk (-1) (a ++ b) = true := by rw [← hf.eq]; exact h
  obtain ⟨c1, c2⟩ := chk_app.1 hc
  refine chk_app.2 ⟨c1, ?_⟩
  have hlast : (match a.getLast? with | some y => y.f0 | none => -1) < x.f0 := by
    cases ha : a.getLast? with
    | none => have := hx.1.1; show -1 < x.f0; omega
    | some y => have := hf.lo y (List.mem_of_getLast? ha); show y.f0 < x.f0; omega
  rw [chk_ok ⟨hx, hlast⟩, hfd]
  exact chk_mono c2 (fun y hy => hf.hi y hy)

end Go.Proofs.Ytkkcikbijdehkaa.POpens
