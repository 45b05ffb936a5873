/- The pure law of sexton/sextonlaw09.ItabStale: for all steps the function that the code computes answers true. No program stands here. -/
import Derived.Test.YtgepphlkibnhdaaPItabx30
import Derived.Test.YtgepphlkibnhdaaFinds
namespace Go.Proofs.Ytgepphlkibnhdaa.PItab
open Go Go.RowKit Go.Proofs.YtgepphlkibnhdaaW.PrintWords Go.Proofs.YtgepphlkibnhdaaW.PrintLast Go.Proofs.YtgepphlkibnhdaaW.PrintMore
set_option linter.unusedVariables false
set_option linter.unusedSimpArgs false

theorem rdH (l : List S24) (i : Nat) (h : i < l.length) : rd_T24 l (i : Int) = l[i] := by
  simp [rd_T24, List.getD_eq_getElem?_getD, List.getElem?_eq_getElem h]
theorem rdG (l : List Bool) (i : Nat) (h : i < l.length) : rdOf false l (i : Int) = l[i] := by
  simp [rdOf, List.getD_eq_getElem?_getD, List.getElem?_eq_getElem h]
/-- Of all handles that ever were: those that are gone name nothing, the others do; and none will ever be given again. -/
structure Hs (t : List S30) (a : List S24) (g : List Bool) : Prop where
  ok : okT t = true
  sm : Sm t
  len : a.length = g.length
  at_ : ∀ (i : Nat) (h : S24) (b : Bool), a[i]? = some h → g[i]? = some b → 1 ≤ h.f0 ∧ h.f0 < t.length ∧ h.f1 ≤ (rd_T30 t h.f0).f0 ∧ nm t h.f0 h.f1 = !b
  one : ∀ (i j : Nat) (h : S24), a[i]? = some h → a[j]? = some h → i = j
theorem hs_make {t : List S30} {a : List S24} {g : List Bool} (H : Hs t a g) {kind : Int} (hk : kind = 1 ∨ kind = 2) :
    mk t kind 0 = ([], 0, 0, 407) ∨ ∃ u n gen, mk t kind 0 = (u, n, gen, 0) ∧ Hs u (a ++ [⟨n, gen⟩]) (g ++ [false]) := by
  rcases mk_cases H.ok H.sm (stamp := 0) ⟨hk, by decide, by decide⟩ with ⟨e, _⟩ | ⟨n, gen, u, e, h1, h2, h3, h4, h5, h6, h7, h8, h9, h10⟩
  · exact .inl e
  · refine .inr ⟨u, n, gen, e, h3, h4, by simp [H.len], ?_, ?_⟩
    · intro i h b hi hb
      rcases Nat.lt_or_ge i a.length with hl | hl
      · rw [List.getElem?_append_left hl] at hi
        rw [List.getElem?_append_left (by rw [← H.len]; exact hl)] at hb
        obtain ⟨g1, g2, g3, g4⟩ := H.at_ i h b hi hb
        have hr := h7 h.f0 (by omega) (by omega)
        by_cases c : h.f0 = (n : Int)
        · have hn : n < t.length := by omega
          obtain ⟨k1, k2⟩ := h10 hn
          rw [if_pos c] at hr
          rw [c] at g3 g4 ⊢
          rw [c] at hr
          have hb' : b = true := by
            cases b with
            | true => rfl
            | false =>
              have := (nm_in g4).2.2.1
              exact absurd k1 this
          subst hb'
          refine ⟨by omega, by omega, by rw [hr]; show h.f1 ≤ gen; omega, ?_⟩
          refine decide_eq_false fun hh => ?_
          rw [hr] at hh
          have : h.f1 = gen := hh.2.2.2
          omega
        · rw [if_neg c] at hr
          refine ⟨g1, by omega, by rw [hr]; exact g3, ?_⟩
          rw [← g4]
          simp only [nm, hr]
          rw [decide_eq_decide]
          exact ⟨fun h => ⟨h.1, g2, h.2.2⟩, fun h => ⟨h.1, by omega, h.2.2⟩⟩
      · rw [List.getElem?_append_right hl] at hi
        rw [List.getElem?_append_right (by rw [← H.len]; exact hl)] at hb
        have hz : i - a.length = 0 := by
          have := (List.getElem?_eq_some_iff.1 hi).1
          simp at this; omega
        rw [hz] at hi
        rw [← H.len, hz] at hb
        simp only [List.getElem?_cons_zero, Option.some.injEq] at hi hb
        subst hi hb
        have hr := h7 n (by omega) (by omega)
        rw [if_pos rfl] at hr
        refine ⟨by show 1 ≤ (n : Int); omega, by show (n : Int) < _; omega, by show gen ≤ _; rw [hr]; exact Int.le_refl _, ?_⟩
        refine decide_eq_true ⟨by show (0 : Int) ≤ n; omega, by show (n : Int) < _; omega, ?_, ?_⟩
        · show ¬ (rd_T30 u n).f1.f0 = 0
          rw [hr]; show ¬ kind = 0; omega
        · show gen = (rd_T30 u n).f0
          rw [hr]; rfl
    · have hnew : ∀ i, i < a.length → a[i]? ≠ some ⟨(n : Int), gen⟩ := fun i hl hi => by
        obtain ⟨b, hb⟩ : ∃ b, g[i]? = some b := ⟨_, List.getElem?_eq_getElem (by rw [← H.len]; exact hl)⟩
        obtain ⟨g1, g2, g3, g4⟩ := H.at_ i _ b hi hb
        have hn : n < t.length := by have : (n : Int) < t.length := g2; omega
        have := (h10 hn).2
        have : gen ≤ (rd_T30 t n).f0 := g3
        omega
      intro i j h hi hj
      rcases Nat.lt_or_ge i a.length with hl | hl <;> rcases Nat.lt_or_ge j a.length with hl2 | hl2
      · rw [List.getElem?_append_left hl] at hi
        rw [List.getElem?_append_left hl2] at hj
        exact H.one i j h hi hj
      · rw [List.getElem?_append_left hl] at hi
        rw [List.getElem?_append_right hl2] at hj
        have hz : j - a.length = 0 := by have := (List.getElem?_eq_some_iff.1 hj).1; simp at this; omega
        rw [hz] at hj
        simp only [List.getElem?_cons_zero, Option.some.injEq] at hj
        subst hj
        exact absurd hi (hnew i hl)
      · rw [List.getElem?_append_left hl2] at hj
        rw [List.getElem?_append_right hl] at hi
        have hz : i - a.length = 0 := by have := (List.getElem?_eq_some_iff.1 hi).1; simp at this; omega
        rw [hz] at hi
        simp only [List.getElem?_cons_zero, Option.some.injEq] at hi
        subst hi
        exact absurd hj (hnew j hl2)
      · have := (List.getElem?_eq_some_iff.1 hi).1
        have := (List.getElem?_eq_some_iff.1 hj).1
        simp at *
        omega
theorem hs_drop {t : List S30} {a : List S24} {g : List Bool} (H : Hs t a g) {p : Nat} (hp : p < a.length) :
    (g[p]? = some true ∧ dr t a[p].f0 a[p].f1 = ([], 401)) ∨ ∃ u, g[p]? = some false ∧ dr t a[p].f0 a[p].f1 = (u, 0) ∧ Hs u a (g.set p true) := by
  obtain ⟨b, hb⟩ : ∃ b, g[p]? = some b := ⟨_, List.getElem?_eq_getElem (by rw [← H.len]; exact hp)⟩
  have hi : a[p]? = some a[p] := List.getElem?_eq_getElem hp
  obtain ⟨g1, g2, g3, g4⟩ := H.at_ p _ b hi hb
  cases b with
  | true => exact .inl ⟨hb, by rw [dr, if_pos H.ok, if_neg (by rw [g4]; decide)]⟩
  | false =>
    obtain ⟨d1, d2, d3⟩ := dr_yes H.ok H.sm g4 (by omega)
    obtain ⟨m1, m2, m3, m4⟩ := nm_in g4
    refine .inr ⟨_, hb, d1, d2, d3, by simp [H.len], ?_, H.one⟩
    intro i h b hi' hb'
    have hlt : i < g.length := by have := (List.getElem?_eq_some_iff.1 hb').1; simpa using this
    obtain ⟨b0, hb0⟩ : ∃ b, g[i]? = some b := ⟨_, List.getElem?_eq_getElem hlt⟩
    obtain ⟨k1, k2, k3, k4⟩ := H.at_ i h b0 hi' hb0
    obtain ⟨no, hno⟩ := Int.eq_ofNat_of_zero_le (show 0 ≤ a[p].f0 by omega)
    have hr : rd_T30 (t.set a[p].f0.toNat (emp a[p].f1)) h.f0 = if h.f0 = a[p].f0 then emp a[p].f1 else rd_T30 t h.f0 := by
      have := rd30_set (l := t) (n := a[p].f0.toNat) (x := emp a[p].f1) (no := h.f0) (by omega) (by omega)
      rw [this, hno, Int.toNat_natCast]
    by_cases hip : i = p
    · subst hip
      rw [List.getElem?_set_self hlt] at hb'
      obtain rfl := Option.some.inj hb'
      obtain rfl := Option.some.inj (hi.symm.trans hi')
      rw [if_pos rfl] at hr
      refine ⟨k1, by simpa using k2, by rw [hr]; exact Int.le_refl _, ?_⟩
      exact decide_eq_false fun hh => hh.2.2.1 (by rw [hr]; rfl)
    · rw [List.getElem?_set_ne (Ne.symm hip)] at hb'
      obtain rfl := Option.some.inj (hb0.symm.trans hb')
      by_cases c : h.f0 = a[p].f0
      · rw [if_pos c] at hr
        have hb1 : b0 = true := by
          cases b0 with
          | true => rfl
          | false =>
            have := (nm_in k4).2.2.2
            refine absurd (H.one i p h hi' ?_) hip
            rw [hi]
            congr 1
            have e1 : a[p].f1 = h.f1 := by rw [m4, this, c]
            obtain ⟨x, y⟩ := h
            rw [show a[p] = ⟨a[p].f0, a[p].f1⟩ from rfl, e1, ← c]
        subst hb1
        refine ⟨k1, by simpa using k2, by rw [hr]; show h.f1 ≤ a[p].f1; rw [m4, ← c]; exact k3, ?_⟩
        exact decide_eq_false fun hh => hh.2.2.1 (by rw [hr]; rfl)
      · rw [if_neg c] at hr
        refine ⟨k1, by simpa using k2, by rw [hr]; exact k3, ?_⟩
        rw [← k4]
        simp only [nm, hr, List.length_set]
theorem stale_l1 {t : List S30} {a : List S24} {g : List Bool} (H : Hs t a g) (ha : a.length ≤ 1000) (l : List S49) (x : Int) (r : Ev (fun k => sextonlaw09_ItabStale.l0 k t a g l l.length (wrap64 (x + 1))) true) (d : Nat) : ∀ i : Nat, i ≤ a.length → a.length - i = d →
    Ev (fun k => sextonlaw09_ItabStale.l1 k t a g l l.length x a a.length i) true := by
  induction d with
  | zero =>
    intro i h1 h2
    exact Ev.step (fun k => by simp only [sextonlaw09_ItabStale.l1]; rw [if_neg (by omega)]) r
  | succ d ih =>
    intro i h1 h2
    have hlt : i < a.length := by omega
    have hlt2 : i < g.length := by rw [← H.len]; exact hlt
    have hi : a[i]? = some a[i] := List.getElem?_eq_getElem hlt
    have hb : g[i]? = some g[i] := List.getElem?_eq_getElem hlt2
    have ih' := ih (i + 1) (by omega) (by omega)
    obtain ⟨g1, g2, g3, g4⟩ := H.at_ i _ _ hi hb
    refine Ev.step (fun k => by simp only [sextonlaw09_ItabStale.l1]; rw [if_pos (by omega), if_pos (by omega), if_pos (by omega)]) ?_
    simp only [rdH a i hlt, rdG g i hlt2, if_pos (show (i : Int) < (g.length : Int) by omega)]
    refine Ev.bind (find_ev H.sm _ _) ?_
    have hf : (flat (fnd t a[i].f0 a[i].f1)).2.2.2.2.2.2.2.2 = if g[i] = true then 401 else 0 := by
      simp only [flat, fnd, if_pos H.ok, g4]
      cases g[i] <;> rfl
    rw [hf]
    have w : wrap64 ((i : Int) + 1) = ((i + 1 : Nat) : Int) := wr1 i (by omega)
    rw [← w] at ih'
    cases hg : g[i] with
    | true =>
      simp only [if_true]
      exact ih'
    | false =>
      exact ih'
theorem stale_j4 {t : List S30} {a : List S24} {g : List Bool} (H : Hs t a g) (ha : a.length ≤ 1000) (l : List S49) (x : Int) (r : Ev (fun k => sextonlaw09_ItabStale.l0 k t a g l l.length (wrap64 (x + 1))) true) :
    Ev (fun k => sextonlaw09_ItabStale.j4 k t a g l l.length x) true :=
  Ev.step (fun k => by simp only [sextonlaw09_ItabStale.j4]; rfl) (stale_l1 H ha l x r a.length 0 (by omega) (by omega))
theorem rd49 (l : List S49) (i : Nat) (h : i < l.length) : rd_T49 l (i : Int) = l[i] := by
  simp [rd_T49, List.getD_eq_getElem?_getD, List.getElem?_eq_getElem h]
theorem stale_l0 (l : List S49) (hl : l.length ≤ 200) (d : Nat) : ∀ (i : Nat) (t : List S30) (a : List S24) (g : List Bool), i ≤ l.length → l.length - i = d → a.length ≤ i → Hs t a g → Ev (fun k => sextonlaw09_ItabStale.l0 k t a g l l.length i) true := by
  induction d with
  | zero =>
    intro i t a g h1 h2 h3 H
    exact Ev.step (fun k => by simp only [sextonlaw09_ItabStale.l0]; rw [if_neg (by omega)]) (Ev.bind again_ev (Ev.now _))
  | succ d ih =>
    intro i t a g h1 h2 h3 H
    have hlt : i < l.length := by omega
    have hgl := H.len
    have w : wrap64 ((i : Int) + 1) = ((i + 1 : Nat) : Int) := wr1 i (by omega)
    have next : ∀ t a g, a.length ≤ i + 1 → Hs t a g → Ev (fun k => sextonlaw09_ItabStale.j4 k t a g l l.length i) true := fun t a g ha H =>
      stale_j4 H (by omega) l i (by rw [w]; exact ih (i + 1) t a g (by omega) (by omega) ha H)
    have mke : ∀ (W P : Int), (W = 0 ∨ W = 1) → Ev (fun k => sextonlaw09_ItabStale.j2 k t a g l l.length i true W P) true := fun W P hW => by
      refine Ev.step (fun k => by simp only [sextonlaw09_ItabStale.j2, if_true]; rfl) ?_
      have hw : wrap64 (W + 1) = W + 1 := wrap_id (by omega) (by omega)
      rw [hw]
      refine Ev.bind (make_ev H.sm (W + 1) 0) ?_
      rcases hs_make H (kind := W + 1) (by omega) with e | ⟨u, n, gen, e, H'⟩
      · simp only [e]
        exact next t a g (by omega) H
      · simp only [e]
        simp only [if_true, if_pos (show a.length < 8796093022208 by omega), if_pos (show g.length < 140737488355328 by omega)]
        exact next u _ _ (by simp; omega) H'
    refine Ev.step (fun k => by simp only [sextonlaw09_ItabStale.l0]; rw [if_pos (by omega), if_pos (by omega), if_pos (by omega)]) ?_
    rw [rd49 l i hlt]
    generalize l[i] = s
    by_cases c0 : s.f0 = 0
    · simp only [if_pos c0]
      exact mke _ _ (.inl c0)
    · simp only [if_neg c0]
      by_cases c1 : s.f0 = 1
      · have e : (s.f0 == 1) = true := by simp [c1]
        rw [e]
        exact mke _ _ (.inr c1)
      · have e : (s.f0 == 1) = false := by simp [c1]
        rw [e]
        refine Ev.step (fun k => by simp only [sextonlaw09_ItabStale.j2]; rw [if_neg (by decide)]) ?_
        have no : Ev (fun k => sextonlaw09_ItabStale.j3 k t a g l l.length i false s.f0 s.f1) true :=
          Ev.step (fun k => by simp only [sextonlaw09_ItabStale.j3]; rw [if_neg (by decide)]) (next t a g (by omega) H)
        by_cases c2 : s.f1 ≥ 0
        · simp only [if_pos c2]
          by_cases c3 : s.f1 < (a.length : Int)
          · rw [decide_eq_true c3]
            obtain ⟨p, hp⟩ := Int.eq_ofNat_of_zero_le c2
            rw [hp]
            have hpl : p < a.length := by omega
            refine Ev.step (fun k => by simp only [sextonlaw09_ItabStale.j3, if_true]; rw [if_pos (by omega), if_pos (by omega)]) ?_
            rw [rdH a p hpl, rdG g p (by omega)]
            refine Ev.bind (drop_ev H.sm _ _) ?_
            simp only [if_pos (show (p : Int) < (g.length : Int) by omega), Int.toNat_natCast]
            have hgp : g[p]? = some g[p] := List.getElem?_eq_getElem (by omega)
            rcases hs_drop H hpl with ⟨e1, e2⟩ | ⟨u, e1, e2, H'⟩
            · have : g[p] = true := Option.some.inj (hgp.symm.trans e1)
              simp only [e2, this]
              exact next t a g (by omega) H
            · have : g[p] = false := Option.some.inj (hgp.symm.trans e1)
              simp only [e2, this]
              exact next u a _ (by omega) H'
          · rw [decide_eq_false c3]; exact no
        · simp only [if_neg c2]
          exact no
theorem ItabStale_pure : ∀ (l0 : List (S49)), ((l0.length * 16 ≤ reachBytes ∧ ∀ x ∈ l0, b49 x)) → ∃ k, sextonlaw09_ItabStale.f k l0 = some true := by
  intro l _
  refine Ev.rounds ?_
  unfold sextonlaw09_ItabStale.f
  simp only [itab_New.f, Option.bind_some]
  have e1 : ¬ (([(⟨1, (⟨2, 1, 0, 0⟩ : S26), [], [], 0⟩ : S30)] : List S30).length : Int) = 0 := by decide
  simp only [if_neg e1]
  by_cases c : (l.length : Int) > 200
  · rw [decide_eq_true c]
    refine Ev.step (fun k => by simp only [sextonlaw09_ItabStale.j0, if_true]; rw [if_pos (by decide)]) ?_
    exact Ev.bind again_ev (Ev.now _)
  · rw [decide_eq_false c]
    refine Ev.step (fun k => by simp only [sextonlaw09_ItabStale.j0]; rw [if_neg (by decide)]) ?_
    refine stale_l0 l (by omega) l.length 0 [ino 1 2 0] [] [] (by omega) (by omega) (by simp) ⟨okT_mk (by simp) (by simp) rfl (fun x hx => by rw [List.mem_singleton.1 hx]; exact okI_ino (by decide) (.inr rfl) (by decide)), fun x hx => by rw [List.mem_singleton.1 hx]; simp [ino], rfl, fun i h b hi => by simp at hi, fun i j h hi => by simp at hi⟩

end Go.Proofs.Ytgepphlkibnhdaa.PItab
