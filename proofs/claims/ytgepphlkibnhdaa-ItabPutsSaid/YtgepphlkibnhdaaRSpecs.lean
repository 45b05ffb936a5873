/- What the reference's printed functions of the table come to: which are right, what a handle names. -/
import Derived.Test.YtgepphlkibnhdaaSpecs
import Derived.Test.YtgepphlkibnhdaaPItabx16
import Derived.Test.YtgepphlkibnhdaaPItabx17
import Derived.Test.YtgepphlkibnhdaaPItabx18
import Derived.Test.YtgepphlkibnhdaaPItabx19
import Derived.Test.YtgepphlkibnhdaaPItabx20
namespace Go.Proofs.Ytgepphlkibnhdaa.PItab
open Go Go.RowKit Go.Proofs.YtgepphlkibnhdaaW.PrintWords Go.Proofs.YtgepphlkibnhdaaW.PrintLast Go.Proofs.YtgepphlkibnhdaaW.PrintMore
set_option linter.unusedVariables false
set_option linter.unusedSimpArgs false

def Prv (l : List S73) (i : Nat) (fr : Int) : Prop := 0 < i → ∃ y, l[i - 1]? = some y ∧ fr = y.f0 + y.f1.size + 1 ∧ fr ≤ 1048577 ∧ 0 ≤ y.f0
theorem right_l0 (l : List S73) (hl : l.length ≤ 9223372036854775806) (d : Nat) : ∀ (i : Nat) (fr : Int), i ≤ l.length → l.length - i = d → 0 ≤ fr → (i = 0 → fr = 0) → Prv l i fr →
    Ev (fun k => sextonref08_Right.l0 k l l l.length i) (chk fr (l.drop i)) := by
  induction d with
  | zero =>
    intro i fr h1 h2 h0 _ _
    rw [List.drop_eq_nil_of_le (by omega)]
    exact Ev.step (fun k => by simp only [sextonref08_Right.l0]; rw [if_neg (by omega)]; rfl) (Ev.now _)
  | succ d ih =>
    intro i fr h1 h2 h0 hz hp
    have hlt : i < l.length := by omega
    have hd : l.drop i = l[i] :: l.drop (i + 1) := List.drop_eq_getElem_cons hlt
    rw [hd]
    have bad : ∀ (c : S73), chk fr (l[i] :: l.drop (i + 1)) = false → Ev (fun k => sextonref08_Right.j1 k l i l l.length i true (l[i]).f0 (l[i]).f1) (chk fr (l[i] :: l.drop (i + 1))) := fun c hb => by
      rw [hb]
      exact Ev.step (fun k => by simp only [sextonref08_Right.j1]; rfl) (Ev.now _)
    by_cases c1 : (l[i]).f1.toList = ([] : List UInt8)
    · exact Ev.step (fun k => by simp only [sextonref08_Right.l0, rd73 l i hlt]; rw [if_pos (by omega), if_pos (by omega), if_pos (by omega), if_pos c1]) (bad l[i] (chk_bad (.inl c1)))
    · by_cases c2 : (l[i]).f0 < 0
      · exact Ev.step (fun k => by simp only [sextonref08_Right.l0, rd73 l i hlt]; rw [if_pos (by omega), if_pos (by omega), if_pos (by omega), if_neg c1, if_pos c2]) (bad l[i] (chk_bad (.inr (.inl (by omega)))))
      · by_cases c3 : (l[i]).f0 > 1048576
        · exact Ev.step (fun k => by simp only [sextonref08_Right.l0, rd73 l i hlt]; rw [if_pos (by omega), if_pos (by omega), if_pos (by omega), if_neg c1, if_neg c2, if_pos c3]) (bad l[i] (chk_bad (.inr (.inr (.inr (by clear hp; omega))))))
        · have e1 : wrap64 (1048576 - (l[i]).f0) = 1048576 - (l[i]).f0 := wrap_id (by omega) (by omega)
          by_cases c4 : ((l[i]).f1.size : Int) > 1048576 - (l[i]).f0
          · refine Ev.step (fun k => by simp only [sextonref08_Right.l0, rd73 l i hlt]; rw [if_pos (by omega), if_pos (by omega), if_pos (by omega), if_neg c1, if_neg c2, if_neg c3, e1, decide_eq_true c4]) (bad l[i] (chk_bad (.inr (.inr (.inr (by omega))))))
          · have hgo : ∀ k, sextonref08_Right.l0 (k + 1) l l l.length i = sextonref08_Right.j1 k l i l l.length i false (l[i]).f0 (l[i]).f1 := fun k => by
              simp only [sextonref08_Right.l0, rd73 l i hlt]; rw [if_pos (by omega), if_pos (by omega), if_pos (by omega), if_neg c1, if_neg c2, if_neg c3, e1, decide_eq_false c4]
            refine Ev.step hgo ?_
            have hrest : fr ≤ (l[i]).f0 → Ev (fun k => sextonref08_Right.l0 k l l l.length ((i + 1 : Nat) : Int)) (chk fr (l[i] :: l.drop (i + 1))) := fun hf => by
              rw [chk_ok c1 (by omega) (by omega) (by omega)]
              exact ih (i + 1) ((l[i]).f0 + (l[i]).f1.size + 1) (by omega) (by omega) (by omega) (fun h => absurd h (by omega)) (fun _ => ⟨l[i], by simp [hlt], rfl, by omega, by omega⟩)
            by_cases hi0 : i = 0
            · have hf := hz hi0
              refine Ev.step (fun k => ?_) (hrest (by omega))
              simp only [sextonref08_Right.j1]
              rw [if_neg (by simp), if_neg (by omega), wr1 i (by omega)]
            · obtain ⟨y, hy, hfy, hfr2, hy0⟩ := hp (by omega)
              have hyr : rd_T73 l ((i - 1 : Nat) : Int) = y := by simp [rd_T73, List.getD_eq_getElem?_getD, hy]
              have e2 : wrap64 (y.f0 + (y.f1.size : Int)) = y.f0 + y.f1.size := wrap_id (by omega) (by omega)
              by_cases c5 : y.f0 + y.f1.size ≥ (l[i]).f0
              · rw [chk_bad (.inr (.inl (by omega)))]
                refine Ev.step (fun k => ?_) (Ev.now false)
                simp only [sextonref08_Right.j1]
                rw [if_neg (by simp), if_pos (by omega), wrm1 i (by omega) (by omega), if_pos (by omega), if_pos (by omega), hyr, e2, if_pos c5]
              · refine Ev.step (fun k => ?_) (hrest (by omega))
                simp only [sextonref08_Right.j1]
                rw [if_neg (by simp), if_pos (by omega), wrm1 i (by omega) (by omega), if_pos (by omega), if_pos (by omega), hyr, e2, if_neg c5, wr1 i (by omega)]
theorem right_f (l : List S73) (hl : l.length ≤ 9223372036854775806) : Ev (fun k => sextonref08_Right.f k l) (chk 0 l) := by
  have := right_l0 l hl l.length 0 0 (by omega) (by omega) (by omega) (fun _ => rfl) (fun h => absurd h (by omega))
  simpa [sextonref08_Right.f] using this
theorem rattr_eq (a b c d : Int) : sextonref07_Right.f a b c d = some (decide (AttrOk a b c d)) := by
  unfold sextonref07_Right.f
  have yes : ∀ {p : Prop} [Decidable p], p → some true = some (decide p) := fun h => congrArg some (decide_eq_true h).symm
  have no : ∀ {p : Prop} [Decidable p], ¬ p → some false = some (decide p) := fun h => congrArg some (decide_eq_false h).symm
  split
  · split
    · split
      · rw [Bool.beq_eq_decide_eq]; exact congrArg some (decide_eq_decide.2 (by unfold AttrOk; omega))
      · exact no (by unfold AttrOk; omega)
    · exact no (by unfold AttrOk; omega)
  · split
    · exact no (by unfold AttrOk; omega)
    · split
      · exact no (by unfold AttrOk; omega)
      · split
        · exact no (by unfold AttrOk; omega)
        · split
          · exact no (by unfold AttrOk; omega)
          · split
            · split
              · split
                · exact yes (by unfold AttrOk; omega)
                · split
                  · exact absurd ‹a = 2› (by omega)
                  · exact no (by unfold AttrOk; omega)
              · split
                · exact absurd ‹a = 2› (by omega)
                · exact no (by unfold AttrOk; omega)
            · split
              · rw [Bool.beq_eq_decide_eq]; exact congrArg some (decide_eq_decide.2 (by unfold AttrOk; omega))
              · exact no (by unfold AttrOk; omega)
theorem one_l0 (f2 : List S73) (hl : f2.length ≤ 5900000000000) (hg : Good f2) (sz : Int) (g kd lk st : Int) (f3 : List S75) (nx : Int) (d : Nat) : ∀ i : Nat, i ≤ f2.length → f2.length - i = d →
    Ev (fun k => sextonref09_one.l0 k f2 f2.length i g kd lk sz st f2 f3 nx) ((f2.drop i).all fun y => decide (y.f0 + y.f1.size ≤ sz)) := by
  induction d with
  | zero =>
    intro i h1 h2
    rw [List.drop_eq_nil_of_le (by omega)]
    exact Ev.step (fun k => by simp only [sextonref09_one.l0]; rw [if_neg (by omega)]; simp) (Ev.now _)
  | succ d ih =>
    intro i h1 h2
    have hlt : i < f2.length := by omega
    have hx := hg _ (List.getElem_mem hlt)
    have hw : wrap64 ((f2[i]).f0 + ((f2[i]).f1.size : Int)) = (f2[i]).f0 + ((f2[i]).f1.size : Int) := wrap_id (by omega) (by omega)
    rw [List.drop_eq_getElem_cons hlt]
    by_cases c : (f2[i]).f0 + ((f2[i]).f1.size : Int) > sz
    · refine Ev.step (f := fun _ => some false) (fun k => ?_) ?_
      · simp only [sextonref09_one.l0, rd73 f2 i hlt, hw]
        rw [if_pos (by omega), if_pos (by omega), if_pos (by omega), if_pos c]
      · rw [List.all_cons, decide_eq_false (by omega), Bool.false_and]; exact Ev.now _
    · refine Ev.step (fun k => ?_) (Ev.congr (fun k => rfl) ?_) (f := fun k => sextonref09_one.l0 k f2 f2.length ((i + 1 : Nat) : Int) g kd lk sz st f2 f3 nx)
      · simp only [sextonref09_one.l0, rd73 f2 i hlt, hw]
        rw [if_pos (by omega), if_pos (by omega), if_pos (by omega), if_neg c, wr1 i (by omega)]
      · have := ih (i + 1) (by omega) (by omega)
        rw [List.all_cons, decide_eq_true (by omega), Bool.true_and]; exact this
theorem one_j2 (b : Bool) (g kd lk sz st : Int) (f2 : List S73) (f3 : List S75) (nx : Int) (hl : f2.length ≤ 5900000000000) (hs : kd = 1 → 0 ≤ sz) :
    Ev (fun k => sextonref09_one.j2 k b g kd lk sz st f2 f3 nx) (!b && (if kd = 1 then chk 0 f2 && decide (fin 0 f2 ≤ sz) else true)) := by
  cases b with
  | true => exact Ev.step (fun k => by simp only [sextonref09_one.j2, if_true]; rfl) (Ev.now _)
  | false =>
    by_cases c1 : kd = 1
    · refine Ev.step (fun k => by simp only [sextonref09_one.j2]; rw [if_neg (by decide), if_pos c1]) ?_
      refine Ev.bind (right_f f2 (by omega)) ?_
      simp only [if_pos c1]
      cases hc : chk 0 f2 with
      | false => exact Ev.now _
      | true =>
        simp only [if_true]
        have := one_l0 f2 hl (chk_good (by omega) hc) sz g kd lk st f3 nx f2.length 0 (by omega) (by omega)
        have e : (!false && (true && decide (fin 0 f2 ≤ sz))) = (f2.drop 0).all fun y => decide (y.f0 + y.f1.size ≤ sz) := by
          rw [Bool.not_false, Bool.true_and, Bool.true_and, List.drop_zero, Bool.eq_iff_iff, decide_eq_true_eq, List.all_eq_true, fin_le hc (hs c1)]
          exact ⟨fun h y hy => decide_eq_true (h y hy), fun h y hy => of_decide_eq_true (h y hy)⟩
        rw [e]; exact this
    · exact Ev.step (fun k => by simp only [sextonref09_one.j2]; rw [if_neg (by decide), if_neg c1, if_neg c1]; rfl) (Ev.now _)
theorem one_j1 (b : Bool) (g kd lk sz st : Int) (f2 : List S73) (f3 : List S75) (nx : Int) (hl : f2.length ≤ 5900000000000) (hs : kd = 1 → 0 ≤ sz) :
    Ev (fun k => sextonref09_one.j1 k b g kd lk sz st f2 f3 nx) (!b && ((if kd = 2 then true else decide (f3.length = 0 ∧ nx = 0)) && (if kd = 1 then chk 0 f2 && decide (fin 0 f2 ≤ sz) else true))) := by
  cases b with
  | true => exact Ev.step (fun k => by simp only [sextonref09_one.j1, if_true]; rfl) (Ev.now _)
  | false =>
    by_cases c2 : kd = 2
    · refine Ev.step (fun k => by simp only [sextonref09_one.j1]; rw [if_neg (by decide), if_pos c2]) ?_
      simp only [if_pos c2]
      exact one_j2 false g kd lk sz st f2 f3 nx hl hs
    · by_cases h3 : (f3.length : Int) > 0
      · refine Ev.step (fun k => by simp only [sextonref09_one.j1]; rw [if_neg (by decide), if_neg c2, if_pos h3]) ?_
        have e : decide (f3.length = 0 ∧ nx = 0) = false := decide_eq_false (by omega)
        simp only [if_neg c2, e, Bool.false_and, Bool.and_false]
        exact one_j2 true g kd lk sz st f2 f3 nx hl hs
      · refine Ev.step (fun k => by simp only [sextonref09_one.j1]; rw [if_neg (by decide), if_neg c2, if_neg h3]) ?_
        have e : decide (f3.length = 0 ∧ nx = 0) = !(nx != 0) := by
          have : f3.length = 0 := by omega
          by_cases hn : nx = 0 <;> simp [this, hn]
        simp only [if_neg c2, e, Bool.not_false, Bool.true_and]
        exact one_j2 _ g kd lk sz st f2 f3 nx hl hs
theorem one_j0 (b : Bool) (g kd lk sz st : Int) (f2 : List S73) (f3 : List S75) (nx : Int) (hl : f2.length ≤ 5900000000000) (hs : kd = 1 → 0 ≤ sz) :
    Ev (fun k => sextonref09_one.j0 k b g kd lk sz st f2 f3 nx) (!b && rst kd sz f2 f3 nx) := by
  cases b with
  | true => exact Ev.step (fun k => by simp only [sextonref09_one.j0, if_true]; rfl) (Ev.now _)
  | false =>
    by_cases c1 : kd = 1
    · refine Ev.step (fun k => by simp only [sextonref09_one.j0]; rw [if_neg (by decide), if_pos c1]) ?_
      have := one_j1 false g kd lk sz st f2 f3 nx hl hs
      simp only [rst, if_pos c1] at this ⊢
      rw [Bool.and_comm (chk 0 f2 && _)]; exact this
    · refine Ev.step (fun k => by simp only [sextonref09_one.j0]; rw [if_neg (by decide), if_neg c1]) ?_
      have := one_j1 (decide ((f2.length : Int) > 0)) g kd lk sz st f2 f3 nx hl hs
      have e : decide (f2.length = 0) = !decide ((f2.length : Int) > 0) := by
        by_cases h : f2.length = 0 <;> simp [h] <;> omega
      simp only [rst, if_neg c1, Bool.not_false, Bool.true_and, Bool.and_true] at this ⊢
      rw [e]; exact this
theorem one_ev (g kd lk sz st : Int) (f2 : List S73) (f3 : List S75) (nx : Int) (hl : f2.length ≤ 5900000000000) :
    Ev (fun k => sextonref09_one.f k g kd lk sz st f2 f3 nx) (hd g kd lk sz st && rst kd sz f2 f3 nx) := by
  have bad : ∀ hb : hd g kd lk sz st = false, Ev (fun k => sextonref09_one.j0 k true g kd lk sz st f2 f3 nx) (hd g kd lk sz st && rst kd sz f2 f3 nx) := fun hb => by
    rw [hb]
    exact Ev.step (fun k => by simp only [sextonref09_one.j0, if_true]; rfl) (Ev.now _)
  unfold sextonref09_one.f
  by_cases h1 : g < 1
  · simp only [if_pos h1]
    exact bad (by simp only [hd, decide_eq_false_iff_not]; omega)
  · simp only [if_neg h1]
    by_cases h2 : g > 1099511627776
    · simp only [if_pos h2]
      exact bad (by simp only [hd, decide_eq_false_iff_not]; omega)
    · simp only [if_neg h2, rattr_eq, Option.bind_some]
      by_cases h3 : AttrOk kd lk sz st
      · have : hd g kd lk sz st = !false := by simp only [hd, Bool.not_false, decide_eq_true_eq]; exact ⟨by omega, h3⟩
        simp only [decide_eq_true h3, Bool.not_true]
        rw [this]; exact one_j0 _ _ _ _ _ _ _ _ _ hl (by unfold AttrOk at h3; omega)
      · simp only [decide_eq_false h3, Bool.not_false]
        exact bad (by simp only [hd, decide_eq_false_iff_not]; exact fun h => h3 h.2)
theorem rtab_l0 (l : List S30) (hs : Sm l) (hl : l.length ≤ 24) (d : Nat) : ∀ i : Nat, i ≤ l.length → l.length - i = d → Ev (fun k => sextonref09_Right.l0 k l l.length i) ((l.drop i).all okI) := by
  induction d with
  | zero =>
    intro i h1 h2
    rw [List.drop_eq_nil_of_le (by omega)]
    exact Ev.step (fun k => by simp only [sextonref09_Right.l0]; rw [if_neg (by omega)]; rfl) (Ev.now _)
  | succ d ih =>
    intro i h1 h2
    have hlt : i < l.length := by omega
    refine Ev.step (fun k => by simp only [sextonref09_Right.l0]; rw [if_pos (by omega), if_pos (by omega), if_pos (by omega)]) ?_
    simp only [rd30 l i hlt]
    refine Ev.bind (one_ev _ _ _ _ _ _ _ _ (hs _ (List.getElem_mem hlt)).1) ?_
    rw [List.drop_eq_getElem_cons hlt, List.all_cons]
    show Ev (fun n => if okI l[i] = true then _ else _) _
    cases c : okI l[i] with
    | true =>
      simp only [if_true, Bool.true_and, wr1 i (by omega)]
      exact ih (i + 1) (by omega) (by omega)
    | false => exact Ev.now _
theorem rtab_ev {l : List S30} (hs : Sm l) : Ev (fun k => sextonref09_Right.f k l) (okT l) := by
  have bad : okT l = false → Ev (fun k => sextonref09_Right.j0 k l true) (okT l) := fun hb => by
    rw [hb]
    exact Ev.step (fun k => by simp only [sextonref09_Right.j0, if_true]) (Ev.now _)
  unfold sextonref09_Right.f
  by_cases h1 : (l.length : Int) < 1
  · simp only [if_pos h1]
    exact bad (by simp only [okT, Bool.and_eq_false_iff, decide_eq_false_iff_not]; exact .inl (by omega))
  · simp only [if_neg h1]
    by_cases h2 : (l.length : Int) > 24
    · simp only [if_pos h2]
      exact bad (by simp only [okT, Bool.and_eq_false_iff, decide_eq_false_iff_not]; exact .inl (by omega))
    · simp only [if_neg h2, if_pos (show (0 : Int) < (l.length : Int) by omega)]
      by_cases h3 : (rd_T30 l 0).f1.f0 = 2
      · have e : okT l = (l.drop 0).all okI := by
          simp only [okT, List.drop_zero]
          rw [decide_eq_true ⟨⟨by omega, by omega⟩, h3⟩, Bool.true_and]
        refine Ev.step (fun k => by simp only [sextonref09_Right.j0]; rw [if_neg (by simp [h3])]) ?_
        rw [e]
        exact rtab_l0 l hs (by omega) l.length 0 (by omega) (by omega)
      · have e : ((rd_T30 l 0).f1.f0 != 2) = true := by simpa using h3
        rw [e]
        exact bad (by simp only [okT, Bool.and_eq_false_iff, decide_eq_false_iff_not]; exact .inl (by omega))
theorem names_l0 (l : List S30) (hl : l.length ≤ 24) (no gen : Int) (d : Nat) : ∀ i : Nat, i ≤ l.length → l.length - i = d → Ev (fun k => sextonref09_Names.l0 k l l.length i no gen) (decide ((i : Int) ≤ no) && nm l no gen) := by
  induction d with
  | zero =>
    intro i h1 h2
    have e : (decide ((i : Int) ≤ no) && nm l no gen) = false := by
      by_cases h : (i : Int) ≤ no
      · rw [show nm l no gen = false from decide_eq_false (by omega)]; simp
      · simp [h]
    rw [e]
    exact Ev.step (fun k => by simp only [sextonref09_Names.l0]; rw [if_neg (by omega)]) (Ev.now _)
  | succ d ih =>
    intro i h1 h2
    have hlt : i < l.length := by omega
    have ih' := ih (i + 1) (by omega) (by omega)
    by_cases c1 : (i : Int) = no
    · have e1 : decide (((i + 1 : Nat) : Int) ≤ no) = false := decide_eq_false (by omega)
      have e0 : decide ((i : Int) ≤ no) = true := decide_eq_true (by omega)
      rw [e1, Bool.false_and] at ih'
      rw [e0, Bool.true_and]
      by_cases c2 : (rd_T30 l i).f0 = gen
      · by_cases c3 : (rd_T30 l i).f1.f0 = 0
        · have e : nm l no gen = false := decide_eq_false (by rw [← c1]; simp [c3])
          rw [e]
          refine Ev.step (fun k => ?_) ih'
          simp only [sextonref09_Names.l0]
          rw [if_pos (by omega), if_pos (by omega), if_pos (by omega), if_pos c1, if_pos c2, if_pos c3, wr1 i (by omega)]
        · have e : nm l no gen = true := decide_eq_true (by rw [← c1]; exact ⟨by omega, by omega, c3, c2.symm⟩)
          rw [e]
          refine Ev.step (f := fun _ => some true) (fun k => ?_) (Ev.now _)
          simp only [sextonref09_Names.l0]
          rw [if_pos (by omega), if_pos (by omega), if_pos (by omega), if_pos c1, if_pos c2, if_neg c3]
      · have e : nm l no gen = false := decide_eq_false (by rw [← c1]; exact fun h => c2 h.2.2.2.symm)
        rw [e]
        refine Ev.step (fun k => ?_) ih'
        simp only [sextonref09_Names.l0]
        rw [if_pos (by omega), if_pos (by omega), if_pos (by omega), if_pos c1, if_neg c2, wr1 i (by omega)]
    · have e : decide ((i : Int) ≤ no) = decide (((i + 1 : Nat) : Int) ≤ no) := by rw [decide_eq_decide]; omega
      rw [e]
      refine Ev.step (fun k => ?_) ih'
      simp only [sextonref09_Names.l0]
      rw [if_pos (by omega), if_pos (by omega), if_pos (by omega), if_neg c1, wr1 i (by omega)]
theorem names_ev {l : List S30} (hl : l.length ≤ 24) (no gen : Int) : Ev (fun k => sextonref09_Names.f k l no gen) (nm l no gen) := by
  have := names_l0 l hl no gen l.length 0 (by omega) (by omega)
  have e : (decide (((0 : Nat) : Int) ≤ no) && nm l no gen) = nm l no gen := by
    by_cases h : 0 ≤ no
    · simp [h]
    · rw [show nm l no gen = false from decide_eq_false (fun g => h g.1)]; simp
  rw [e] at this
  exact this
end Go.Proofs.Ytgepphlkibnhdaa.PItab
