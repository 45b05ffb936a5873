/- The pure law of sexton/sextonlaw09.ItabRoom: for all kinds and every drop the function that the code computes answers true. No program stands here. -/
import Derived.Test.YtgepphlkibnhdaaPItabx32
import Derived.Test.YtgepphlkibnhdaaFinds
namespace Go.Proofs.Ytgepphlkibnhdaa.Pure
open Go.RowKit Go.Proofs.Ytgepphlkibnhdaa.PItab Go.Proofs.YtgepphlkibnhdaaW.PrintWords Go.Proofs.YtgepphlkibnhdaaW.PrintLast
set_option linter.unusedVariables false
set_option linter.unusedSimpArgs false

/-- A table of n inodes that are all in use, each of the first generation. -/
structure Full (t : List S30) (n : Nat) : Prop where
  ok : okT t = true
  sm : Sm t
  len : t.length = n
  all : ∀ x ∈ t, ¬ x.f1.f0 = 0 ∧ x.f0 = 1
theorem full_fre {t : List S30} {n : Nat} (h : Full t n) : fre t 0 = t.length := by
  have e : t.findIdx may = t.length := by
    rw [List.findIdx_eq_length]
    intro x hx
    simp [may, (h.all x hx).1]
  simp [fre, e]
theorem full_more {t : List S30} {n : Nat} (h : Full t n) (h24 : n ≠ 24) {kind : Int} (hk : kind = 1 ∨ kind = 2) : mk t kind 0 = (t ++ [ino 1 kind 0], (n : Int), 1, 0) ∧ Full (t ++ [ino 1 kind 0]) (n + 1) := by
  have hl := h.len
  have e := mk_in t kind 0 h.ok ⟨hk, by decide, by decide⟩
  rw [if_pos (full_fre h), if_neg (by omega), hl] at e
  refine ⟨e, okT_snoc h.ok (by omega) (okI_ino (by decide) hk (by decide)), Sm_snoc h.sm (by simp [ino]), by simp [hl], fun x hx => ?_⟩
  rcases List.mem_append.1 hx with hx | hx
  · exact h.all x hx
  · rw [List.mem_singleton.1 hx]
    exact ⟨by simp [ino]; omega, rfl⟩
theorem full_none {t : List S30} (h : Full t 24) {kind : Int} (hk : kind = 1 ∨ kind = 2) : mk t kind 0 = ([], 0, 0, 407) := by
  have e := mk_in t kind 0 h.ok ⟨hk, by decide, by decide⟩
  rw [if_pos (full_fre h), if_pos h.len] at e
  exact e
theorem bad_kind {t : List S30} {n : Nat} (h : Full t n) {kind : Int} (h1 : ¬ kind = 1) (h2 : ¬ kind = 2) : mk t kind 0 = ([], 0, 0, 1) := by
  rw [mk, if_pos h.ok, if_neg (by omega)]
theorem usd_full (l : List S30) (d : Nat) : ∀ i, i ≤ l.length → l.length - i = d → (∀ j : Nat, i ≤ j → j < l.length → ¬ (rd_T30 l j).f1.f0 = 0) → (usd l i).length = d := by
  induction d with
  | zero => intro i h1 h2 _; obtain rfl : i = l.length := by omega
            rw [usd_end]; rfl
  | succ d ih =>
    intro i h1 h2 h3
    rw [usd_step l i (by omega), if_neg (h3 i (Nat.le_refl _) (by omega)), List.length_append, ih (i + 1) (by omega) (by omega) (fun j h4 h5 => h3 j (by omega) h5)]
    simp; omega
theorem full_kind {t : List S30} {n : Nat} (h : Full t n) {j : Nat} (hj : j < t.length) : ¬ (rd_T30 t j).f1.f0 = 0 ∧ (rd_T30 t j).f0 = 1 := by
  rw [rd30 t j hj]; exact h.all _ (List.getElem_mem hj)
theorem usd_one (l : List S30) (m : Nat) (hm : m < l.length) (h0 : (rd_T30 l m).f1.f0 = 0) (h : ∀ j : Nat, j ≠ m → j < l.length → ¬ (rd_T30 l j).f1.f0 = 0) (d : Nat) : ∀ i, i ≤ m → m - i = d → (usd l i).length = l.length - i - 1 := by
  induction d with
  | zero =>
    intro i h1 h2
    obtain rfl : i = m := by omega
    rw [usd_step l i hm, if_pos h0, List.nil_append, usd_full l (l.length - (i + 1)) (i + 1) (by omega) rfl (fun j h3 h4 => h j (by omega) h4)]
    omega
  | succ d ih =>
    intro i h1 h2
    rw [usd_step l i (by omega), if_neg (h i (by omega) (by omega)), List.length_append, ih (i + 1) (by omega) (by omega)]
    simp; omega
theorem room_j3 (drop : Int) (t : List S30) (n : Nat) (h : Full t n) (b : Bool) (hb : b = decide (drop < 1 ∨ (n : Int) ≤ drop)) : Ev (fun k => sextonlaw09_ItabRoom.j3 k drop t n b) true := by
  have hl := okT_len h.ok
  have hn := h.len
  cases b with
  | true =>
    refine Ev.step (fun k => by simp only [sextonlaw09_ItabRoom.j3, if_true]; rfl) ?_
    refine Ev.bind (used_ev (by omega)) ?_
    have e : ((usd t 0).length : Int) = (n : Int) := by
      rw [usd_full t n 0 (by omega) (by omega) (fun j _ hj => (full_kind h hj).1)]
    simp only [if_pos e]
    exact Ev.bind again_ev (Ev.now _)
  | false =>
    have hd : 1 ≤ drop ∧ drop < n := by have := of_decide_eq_false hb.symm; omega
    obtain ⟨m, rfl⟩ := Int.eq_ofNat_of_zero_le (show 0 ≤ drop by omega)
    have hm : m < t.length := by omega
    obtain ⟨k1, k2⟩ := full_kind h hm
    have hnm : nm t (m : Int) 1 = true := decide_eq_true ⟨by omega, by omega, k1, k2.symm⟩
    obtain ⟨d1, d2, d3⟩ := dr_yes h.ok h.sm hnm (by omega)
    rw [Int.toNat_natCast] at d1 d2 d3
    refine Ev.step (fun k => by simp only [sextonlaw09_ItabRoom.j3]; rw [if_neg (by decide)]) ?_
    refine Ev.bind (drop_ev h.sm _ _) ?_
    rw [d1]
    have hu : (t.set m (emp 1)).length = t.length := by simp
    have hr : ∀ j : Nat, j < t.length → rd_T30 (t.set m (emp 1)) j = if (j : Int) = (m : Int) then emp 1 else rd_T30 t j := fun j hj => rd30_set (by omega) (by omega)
    have hf : fre (t.set m (emp 1)) 0 = m := by
      have e : (t.set m (emp 1)).findIdx may = m := by
        rw [List.findIdx_eq (by omega)]
        refine ⟨?_, fun j hj => ?_⟩
        · rw [← rd30 _ m (by omega), hr m hm, if_pos rfl]; decide
        · rw [← rd30 _ j (by omega), hr j (by omega), if_neg (by omega)]
          simp [may, (full_kind h (show j < t.length by omega)).1]
      simp [fre, e]
    have hmk := mk_in (t.set m (emp 1)) 1 0 d2 ⟨.inl rfl, by decide, by decide⟩
    rw [hf, if_neg (by omega), hr m hm, if_pos rfl] at hmk
    refine Ev.bind (make_ev d3 1 0) ?_
    rw [hmk]
    have e2 : (((m : Int) == (m : Int) && ((emp 1).f0 + 1 == 2))) = true := by simp [emp]
    simp only [if_true, e2]
    refine Ev.bind (used_ev (by omega)) ?_
    have e3 : ((usd (t.set m (emp 1)) 0).length : Int) = wrap64 ((n : Int) - 1) := by
      rw [usd_one (t.set m (emp 1)) m (by omega) (by rw [hr m hm, if_pos rfl]; rfl) (fun j h1 h2 => by rw [hr j (by omega), if_neg (by omega)]; exact (full_kind h (by omega)).1) m 0 (by omega) rfl, wrap_id (by omega) (by omega)]
      omega
    simp only [if_pos e3]
    exact Ev.bind again_ev (Ev.now _)
theorem rdI (l : List Int) (i : Nat) (h : i < l.length) : rd l (i : Int) = l[i] := by
  simp [rd, List.getD_eq_getElem?_getD, List.getElem?_eq_getElem h]
theorem room_l0 (drop : Int) (l : List Int) (hl : l.length ≤ 200) (d : Nat) : ∀ (i n : Nat) (t : List S30), i ≤ l.length → l.length - i = d → n ≤ 24 → Full t n → Ev (fun k => sextonlaw09_ItabRoom.l0 k drop t n l l.length i) true := by
  induction d with
  | zero =>
    intro i n t h1 h2 h3 h
    by_cases c : drop < 1
    · refine Ev.step (fun k => by simp only [sextonlaw09_ItabRoom.l0]; rw [if_neg (by omega), if_pos c]) ?_
      exact room_j3 drop t n h true (decide_eq_true (.inl c)).symm
    · refine Ev.step (fun k => by simp only [sextonlaw09_ItabRoom.l0]; rw [if_neg (by omega), if_neg c]) ?_
      exact room_j3 drop t n h _ (by rw [decide_eq_decide]; omega)
  | succ d ih =>
    intro i n t h1 h2 h3 h
    have hlt : i < l.length := by omega
    refine Ev.step (fun k => by simp only [sextonlaw09_ItabRoom.l0]; rw [if_pos (by omega), if_pos (by omega), if_pos (by omega)]) ?_
    rw [rdI l i hlt]
    generalize l[i] = kind
    refine Ev.bind (make_ev h.sm kind 0) ?_
    have w : wrap64 ((i : Int) + 1) = ((i + 1 : Nat) : Int) := wr1 i (by omega)
    have key : kind = 1 ∨ kind = 2 → Ev (fun k => sextonlaw09_ItabRoom.j2 k drop t n (mk t kind 0).1 (mk t kind 0).2.2.2 l l.length i false (mk t kind 0).2.1 (mk t kind 0).2.2.1) true := fun hk => by
      by_cases c24 : n = 24
      · subst c24
        rw [full_none h hk]
        refine Ev.step (fun k => ?_) (ih (i + 1) 24 t (by omega) (by omega) h3 h)
        simp only [sextonlaw09_ItabRoom.j2]
        rw [if_neg (by decide), if_pos (by decide), if_pos (by decide), w]
      · obtain ⟨e, f⟩ := full_more h c24 hk
        rw [e]
        refine Ev.step (fun k => ?_) (ih (i + 1) (n + 1) _ (by omega) (by omega) (by omega) f)
        simp only [sextonlaw09_ItabRoom.j2, if_true]
        rw [if_neg (by decide), if_neg (by omega), w, wr1 n (by omega)]
    by_cases c1 : kind = 1
    · simp only [if_pos c1]
      exact key (.inl c1)
    · simp only [if_neg c1]
      by_cases c2 : kind = 2
      · have e : (kind != 2) = false := by simp [c2]
        rw [e]
        exact key (.inr c2)
      · have e : (kind != 2) = true := by simp [c2]
        rw [e, bad_kind h c1 c2]
        refine Ev.step (fun k => ?_) (ih (i + 1) n t (by omega) (by omega) h3 h)
        simp only [sextonlaw09_ItabRoom.j2, if_true]
        rw [w]
theorem ItabRoom : sextonlaw09_ItabRoom.Pure := by
  intro l drop _ hl _ _
  have hf : Full [ino 1 2 0] 1 := ⟨okT_mk (by simp) (by simp) rfl (fun x hx => by rw [List.mem_singleton.1 hx]; exact okI_ino (by decide) (.inr rfl) (by decide)), fun x hx => by rw [List.mem_singleton.1 hx]; simp [ino], rfl, fun x hx => by rw [List.mem_singleton.1 hx]; exact ⟨by decide, rfl⟩⟩
  refine Ev.rounds ?_
  unfold sextonlaw09_ItabRoom.f
  simp only [itab_New.f, Option.bind_some]
  by_cases c : (l.length : Int) > 200
  · simp only [decide_eq_true c]
    refine Ev.congr (f := fun k => sextonlaw09_ItabRoom.j0 k l drop [ino 1 2 0] true) (fun k => rfl) ?_
    refine Ev.step (f := fun k => (sextonlaw09_again.f k).bind fun t => some t) (fun k => by simp only [sextonlaw09_ItabRoom.j0]; rfl) ?_
    exact Ev.bind again_ev (Ev.now _)
  · simp only [decide_eq_false c]
    refine Ev.congr (f := fun k => sextonlaw09_ItabRoom.j0 k l drop [ino 1 2 0] false) (fun k => rfl) ?_
    refine Ev.step (fun k => by simp only [sextonlaw09_ItabRoom.j0]; rw [if_neg (by decide)]) ?_
    exact room_l0 drop l (by omega) l.length 0 1 _ (by omega) (by omega) (by omega) hf

end Go.Proofs.Ytgepphlkibnhdaa.Pure
