/- What the printed functions of the table come to: which runs, attributes, inodes and tables are right, what a handle names, what copies are. -/
import Derived.Test.YtgepphlkibnhdaaPItabx8
import Derived.Test.YtgepphlkibnhdaaPItabx9
import Derived.Test.YtgepphlkibnhdaaPItabx11
import Derived.Test.YtgepphlkibnhdaaPItabx12
import Derived.Test.YtgepphlkibnhdaaPItabx13
import Derived.Test.YtgepphlkibnhdaaPItabx14
import Derived.Test.YtgepphlkibnhdaaOwned
import Derived.Test.YtgepphlkibnhdaaInodes
namespace Go.Proofs.Ytgepphlkibnhdaa.PItab
open Go Go.RowKit Go.Proofs.YtgepphlkibnhdaaW.PrintWords Go.Proofs.YtgepphlkibnhdaaW.PrintLast Go.Proofs.YtgepphlkibnhdaaW.PrintMore
set_option linter.unusedVariables false
set_option linter.unusedSimpArgs false

theorem rd73 (l : List S73) (i : Nat) (h : i < l.length) : rd_T73 l (i : Int) = l[i] := by
  simp [rd_T73, List.getD_eq_getElem?_getD, List.getElem?_eq_getElem h]
theorem wrap_id {a : Int} (h : -9223372036854775808 ≤ a) (h2 : a ≤ 9223372036854775807) : wrap64 a = a := by unfold wrap64; omega
def chk : Int → List S73 → Bool
  | _, [] => true
  | fr, x :: l => if x.f1.toList = ([] : List UInt8) ∨ x.f0 < fr ∨ (x.f1.size : Int) > 1048576 ∨ x.f0 > 1048576 - x.f1.size then false else chk (x.f0 + x.f1.size + 1) l
theorem chk_bad {fr : Int} {x : S73} {l : List S73} (h : x.f1.toList = ([] : List UInt8) ∨ x.f0 < fr ∨ (x.f1.size : Int) > 1048576 ∨ x.f0 > 1048576 - x.f1.size) : chk fr (x :: l) = false := by rw [chk, if_pos h]
theorem chk_ok {fr : Int} {x : S73} {l : List S73} (h1 : ¬ x.f1.toList = ([] : List UInt8)) (h2 : ¬ x.f0 < fr) (h3 : ¬ (x.f1.size : Int) > 1048576) (h4 : ¬ x.f0 > 1048576 - x.f1.size) : chk fr (x :: l) = chk (x.f0 + x.f1.size + 1) l := by
  rw [chk, if_neg (by rintro (h | h | h | h) <;> contradiction)]
theorem check_l0 (l : List S73) (hl : l.length ≤ 9223372036854775807) (d : Nat) : ∀ (k i : Nat) (fr : Int), 0 ≤ fr → i ≤ l.length → l.length - i = d → d < k → 
    blob_Check.l0 k fr l l.length i = some (if chk fr (l.drop i) = true then 0 else 80) := by
  induction d with
  | zero =>
    intro k i fr h0 h1 h2 hk
    obtain ⟨k, rfl⟩ : ∃ m, k = m + 1 := ⟨k - 1, by omega⟩
    rw [List.drop_eq_nil_of_le (by omega)]
    simp only [blob_Check.l0]
    rw [if_neg (by omega)]
    rfl
  | succ d ih =>
    intro k i fr h0 h1 h2 hk
    obtain ⟨k, rfl⟩ : ∃ m, k = m + 1 := ⟨k - 1, by omega⟩
    have hlt : i < l.length := by omega
    have hd : l.drop i = l[i] :: l.drop (i + 1) := List.drop_eq_getElem_cons hlt
    rw [hd]
    simp only [blob_Check.l0, rd73 l i hlt]
    generalize l[i] = x
    rw [if_pos (by omega), if_pos (by omega), if_pos (by omega)]
    by_cases c1 : x.f1.toList = ([] : List UInt8)
    · rw [if_pos c1, chk_bad (.inl c1)]; rfl
    · rw [if_neg c1]
      by_cases c2 : x.f0 < fr
      · rw [if_pos c2, chk_bad (.inr (.inl c2))]; rfl
      · rw [if_neg c2]
        by_cases c3 : (x.f1.size : Int) > 1048576
        · rw [if_pos c3, chk_bad (.inr (.inr (.inl c3)))]; rfl
        · rw [if_neg c3, wrap_id (a := 1048576 - (x.f1.size : Int)) (by omega) (by omega)]
          by_cases c4 : x.f0 > 1048576 - (x.f1.size : Int)
          · rw [if_pos c4, chk_bad (.inr (.inr (.inr c4)))]; rfl
          · rw [if_neg c4, chk_ok c1 c2 c3 c4, wrap_id (a := x.f0 + (x.f1.size : Int)) (by omega) (by omega), wrap_id (a := x.f0 + (x.f1.size : Int) + 1) (by omega) (by omega), wrap_id (a := (i : Int) + 1) (by omega) (by omega)]
            exact ih k (i + 1) _ (by omega) (by omega) (by omega) (by omega)
theorem check_f (l : List S73) (hl : l.length ≤ 9223372036854775807) : blob_Check.f (l.length + 1) l = some (if chk 0 l = true then 0 else 80) := by
  have := check_l0 l hl l.length (l.length + 1) 0 0 (by omega) (by omega) (by omega) (by omega)
  simpa [blob_Check.f] using this
/-- Runs within the file. -/
def Good (l : List S73) : Prop := ∀ x ∈ l, 0 ≤ x.f0 ∧ x.f0 ≤ 1048576 ∧ x.f1.size ≤ 1048576
theorem chk_spec {fr : Int} {x : S73} {l : List S73} (h : chk fr (x :: l) = true) : ¬ x.f1.toList = ([] : List UInt8) ∧ fr ≤ x.f0 ∧ (x.f1.size : Int) ≤ 1048576 ∧ x.f0 ≤ 1048576 - x.f1.size ∧ chk (x.f0 + x.f1.size + 1) l = true := by
  by_cases c : x.f1.toList = ([] : List UInt8) ∨ x.f0 < fr ∨ (x.f1.size : Int) > 1048576 ∨ x.f0 > 1048576 - x.f1.size
  · rw [chk_bad c] at h; cases h
  · simp only [not_or] at c
    obtain ⟨c1, c2, c3, c4⟩ := c
    rw [chk_ok c1 c2 c3 c4] at h
    exact ⟨c1, by omega, by omega, by omega, h⟩
theorem size_pos {s : ByteArray} (h : ¬ s.toList = ([] : List UInt8)) : 0 < s.size := by
  rcases Nat.eq_zero_or_pos s.size with h0 | h0
  · refine absurd ?_ h
    have : s = ByteArray.empty := by
      apply ByteArray.ext
      exact Array.eq_empty_of_size_eq_zero h0
    rw [this, ByteArray.toList_eq]; rfl
  · exact h0
theorem chk_good : ∀ {l : List S73} {fr : Int}, 0 ≤ fr → chk fr l = true → Good l
  | [], _, _, _ => fun x hx => by simp at hx
  | y :: l, fr, h0, h => fun x hx => by
    obtain ⟨h1, h2, h3, h4, h5⟩ := chk_spec h
    rcases List.mem_cons.1 hx with rfl | hx
    · omega
    · exact chk_good (by omega) h5 x hx
/-- Right runs are few. -/
theorem chk_few : ∀ {l : List S73} {fr : Int}, 0 ≤ fr → chk fr l = true → l.length ≤ 1048576 ∧ (l ≠ [] → (l.length : Int) + fr ≤ 1048577)
  | [], _, _, _ => ⟨by simp, fun h => absurd rfl h⟩
  | y :: l, fr, h0, h => by
    obtain ⟨h1, h2, h3, h4, h5⟩ := chk_spec h
    have hp := size_pos h1
    have ih := chk_few (l := l) (fr := y.f0 + y.f1.size + 1) (by omega) h5
    cases l with
    | nil => simp; omega
    | cons z l => have := ih.2 (by simp); simp at this ⊢; omega
theorem snoc_cases (l : List S73) : l = [] ∨ ∃ a x, l = a ++ [x] := by
  rcases List.eq_nil_or_concat l with h | ⟨a, x, h⟩
  · exact .inl h
  · exact .inr ⟨a, x, by simpa using h⟩
/-- The place behind the last run, or 'e'. -/
def fin (e : Int) (l : List S73) : Int := match l.getLast? with | some y => y.f0 + y.f1.size | none => e
/-- Right runs, and one more behind them. -/
def nx : Int → List S73 → Int
  | fr, [] => fr
  | _, x :: l => nx (x.f0 + x.f1.size + 1) l
theorem chk_append : ∀ {a b : List S73} {fr : Int}, chk fr a = true → chk (nx fr a) b = true → chk fr (a ++ b) = true
  | [], b, fr, _, h => h
  | x :: a, b, fr, h, hb => by
    obtain ⟨h1, h2, h3, h4, h5⟩ := chk_spec h
    rw [List.cons_append, chk_ok h1 (by omega) (by omega) (by omega)]
    exact chk_append h5 hb
theorem chk_left : ∀ {a b : List S73} {fr : Int}, chk fr (a ++ b) = true → chk fr a = true ∧ chk (nx fr a) b = true
  | [], b, fr, h => ⟨rfl, h⟩
  | x :: a, b, fr, h => by
    obtain ⟨h1, h2, h3, h4, h5⟩ := chk_spec h
    obtain ⟨g1, g2⟩ := chk_left h5
    exact ⟨by rw [chk_ok h1 (by omega) (by omega) (by omega)]; exact g1, g2⟩
theorem wr1 (i : Nat) (h : i < 9223372036854775807) : wrap64 ((i : Int) + 1) = ((i + 1 : Nat) : Int) := by unfold wrap64; omega
theorem wrm1 (i : Nat) (h0 : 0 < i) (h : i < 9223372036854775807) : wrap64 ((i : Int) - 1) = ((i - 1 : Nat) : Int) := by unfold wrap64; omega
theorem check_ev {l : List S73} (hl : l.length ≤ 9223372036854775807) : Ev (fun k => blob_Check.f k l) (if chk 0 l = true then 0 else 80) := Ev.of (blob_Check.mono l) (check_f l hl)
theorem end_ev {l : List S73} (hl : l.length ≤ 9223372036854775806) : Ev (fun k => blob_End.f k l) (if chk 0 l = true then fin 0 l else 0) := by
  unfold blob_End.f
  rcases snoc_cases l with rfl | ⟨o, y, rfl⟩
  · exact Ev.now _
  · have hlo : (o ++ [y]).length = o.length + 1 := by simp
    have e1 : wrap64 (((o ++ [y]).length : Int) - 1) = (o.length : Int) := by rw [hlo]; unfold wrap64; omega
    have er : rd_T73 (o ++ [y]) (o.length : Int) = y := by rw [rd73 _ _ (by simp)]; simp
    have g : ¬ (((o ++ [y]).length : Int) = 0) := by omega
    simp only [if_neg g, e1, er]
    refine Ev.bind (check_ev (by omega)) ?_
    cases hc : chk 0 (o ++ [y]) with
    | false => exact Ev.now _
    | true =>
      obtain ⟨_, g2⟩ := chk_left hc
      obtain ⟨k1, k2, k3, k4, _⟩ := chk_spec g2
      have hy0 := chk_good (by omega) hc y (by simp)
      have g3 : (o.length : Int) < ((o ++ [y]).length : Int) := by omega
      have g4 : (0 : Int) ≤ (o.length : Int) := by omega
      simp only [if_true, g3, g4, blob_end.f, Option.bind_some]
      rw [wrap_id (by omega) (by omega)]
      have : fin 0 (o ++ [y]) = y.f0 + y.f1.size := by simp [fin]
      rw [this]
      exact Ev.now _
theorem rd30 (l : List S30) (i : Nat) (h : i < l.length) : rd_T30 l (i : Int) = l[i] := by
  simp [rd_T30, List.getD_eq_getElem?_getD, List.getElem?_eq_getElem h]
def AttrOk (a b c d : Int) : Prop := (a = 0 ∧ b = 0 ∧ c = 0 ∧ d = 0) ∨ ((0 ≤ c ∧ c ≤ 1048576) ∧ (0 ≤ d ∧ d ≤ 1099511627776) ∧ ((a = 1 ∧ 0 ≤ b ∧ b ≤ 64) ∨ (a = 2 ∧ b = 1)))
instance (a b c d : Int) : Decidable (AttrOk a b c d) := by unfold AttrOk; infer_instance
theorem within_eq (a b c : Int) : attr_within.f a b c = some (decide (b ≤ a ∧ a ≤ c)) := by
  unfold attr_within.f
  split
  · exact congrArg some (decide_eq_decide.2 (by omega))
  · exact congrArg some (decide_eq_false (by omega)).symm
theorem attr_j0 (x3 : Bool) (a b c d : Int) (h : x3 = true ↔ ((0 ≤ c ∧ c ≤ 1048576) ∧ (0 ≤ d ∧ d ≤ 1099511627776))) (k : Nat) : attr_Check.j0 (k + 1) x3 a b c d = some (if AttrOk a b c d then 0 else 70) := by
  simp only [attr_Check.j0, within_eq, Option.bind_some]
  by_cases c0 : a = 0
  · rw [if_pos c0]
    by_cases e : AttrOk a b c d
    · rw [if_pos e, if_pos (by unfold AttrOk at e; simp; omega)]
    · rw [if_neg e, if_neg (by unfold AttrOk at e; simp; omega)]
  · rw [if_neg c0]
    cases x3 with
    | true =>
      have h := h.1 rfl
      by_cases c2 : a = 2
      · rw [if_pos c2, if_pos rfl]
        by_cases e : AttrOk a b c d
        · have eb : b = 1 := by unfold AttrOk at e; omega
          rw [if_pos e, if_pos eb, if_pos (by simp; omega)]
        · have eb : ¬ b = 1 := by unfold AttrOk at e; omega
          rw [if_neg e, if_neg eb]
      · rw [if_neg c2]
        by_cases c1 : a = 1
        · rw [if_pos c1, if_pos rfl]
          by_cases e : AttrOk a b c d
          · rw [if_pos e, if_pos (by unfold AttrOk at e; simp; omega)]
          · rw [if_neg e, if_neg (by unfold AttrOk at e; simp; omega)]
        · have e : ¬ AttrOk a b c d := by unfold AttrOk; omega
          rw [if_neg c1, if_neg e]
    | false =>
      have h : ¬ ((0 ≤ c ∧ c ≤ 1048576) ∧ (0 ≤ d ∧ d ≤ 1099511627776)) := fun hh => by cases h.2 hh
      have e : ¬ AttrOk a b c d := by unfold AttrOk; omega
      rw [if_neg e]
      simp
theorem attr_f (a b c d : Int) : Ev (fun k => attr_Check.f k a b c d) (if AttrOk a b c d then 0 else 70) := by
  unfold attr_Check.f
  simp only [within_eq, Option.bind_some]
  by_cases h1 : 0 ≤ d ∧ d ≤ 1099511627776
  · have e1 : decide (0 ≤ d ∧ d ≤ 1099511627776) = true := decide_eq_true h1
    simp only [if_pos e1]
    exact Ev.step (fun k => attr_j0 _ a b c d (by simp; omega) k) (Ev.now _)
  · have e1 : ¬ decide (0 ≤ d ∧ d ≤ 1099511627776) = true := by simpa using h1
    simp only [if_neg e1]
    exact Ev.step (fun k => attr_j0 _ a b c d (by simp; omega) k) (Ev.now _)
theorem fin_cons (e : Int) (x : S73) (l : List S73) : fin e (x :: l) = fin (x.f0 + x.f1.size) l := by
  cases l with
  | nil => rfl
  | cons y l =>
    obtain ⟨z, hz⟩ : ∃ z, (y :: l).getLast? = some z := ⟨_, List.getLast?_eq_some_getLast (by simp)⟩
    simp only [fin, List.getLast?_cons_cons, hz]
theorem fin_ge : ∀ {l : List S73} {fr e : Int}, e < fr → chk fr l = true → e ≤ fin e l
  | [], _, _, _, _ => by simp [fin]
  | x :: l, fr, e, h, hc => by
    obtain ⟨h1, h2, h3, h4, h5⟩ := chk_spec hc
    rw [fin_cons]
    have := fin_ge (l := l) (fr := x.f0 + x.f1.size + 1) (e := x.f0 + x.f1.size) (by omega) h5
    omega
theorem fin_all : ∀ {l : List S73} {fr e : Int}, chk fr l = true → ∀ y ∈ l, y.f0 + y.f1.size ≤ fin e l
  | [], _, _, _, y, hy => by simp at hy
  | x :: l, fr, e, hc, y, hy => by
    obtain ⟨h1, h2, h3, h4, h5⟩ := chk_spec hc
    rw [fin_cons]
    rcases List.mem_cons.1 hy with rfl | hy
    · exact fin_ge (fr := y.f0 + y.f1.size + 1) (by omega) h5
    · exact fin_all h5 y hy
theorem fin_one : ∀ (l : List S73) (e : Int), fin e l = e ∨ ∃ y ∈ l, fin e l = y.f0 + y.f1.size
  | [], e => .inl rfl
  | x :: l, e => by
    rw [fin_cons]
    rcases fin_one l (x.f0 + x.f1.size) with h | ⟨y, hy, h⟩
    · exact .inr ⟨x, by simp, h⟩
    · exact .inr ⟨y, by simp [hy], h⟩
theorem fin_le {l : List S73} {s : Int} (hc : chk 0 l = true) (hs : 0 ≤ s) : fin 0 l ≤ s ↔ ∀ y ∈ l, y.f0 + y.f1.size ≤ s := by
  constructor
  · intro h y hy
    have := fin_all (e := 0) hc y hy
    omega
  · intro h
    rcases fin_one l 0 with e | ⟨y, hy, e⟩
    · omega
    · rw [e]; exact h y hy
def rst (kd sz : Int) (f2 : List S73) (f3 : List S75) (nx : Int) : Bool :=
  (if kd = 1 then chk 0 f2 && decide (fin 0 f2 ≤ sz) else decide (f2.length = 0)) && (if kd = 2 then true else decide (f3.length = 0 ∧ nx = 0))
def hd (g kd lk sz st : Int) : Bool := decide ((1 ≤ g ∧ g ≤ 1099511627776) ∧ AttrOk kd lk sz st)
def okI (x : S30) : Bool := hd x.f0 x.f1.f0 x.f1.f1 x.f1.f2 x.f1.f3 && rst x.f1.f0 x.f1.f2 x.f2 x.f3 x.f4
theorem bt {a b : Bool} (h : a = b) : some a = some b := by rw [h]
theorem fits_j0 (b : Bool) (g kd lk sz st : Int) (f2 : List S73) (f3 : List S75) (nx : Int) (hl : f2.length ≤ 5900000000000) :
    Ev (fun k => itab_fits.j0 k b g kd lk sz st f2 f3 nx) (!b && rst kd sz f2 f3 nx) := by
  cases b with
  | true => exact Ev.step (fun k => by simp only [itab_fits.j0, if_true]; rfl) (Ev.now _)
  | false =>
    by_cases c1 : kd = 1
    · refine Ev.step (fun k => by simp only [itab_fits.j0]; rw [if_neg (by decide), if_pos c1]) ?_
      refine Ev.bind (check_ev (by omega)) ?_
      cases hc : chk 0 f2 with
      | false =>
        have e : (!false && rst kd sz f2 f3 nx) = false := by simp [rst, c1, hc]
        rw [e]
        exact Ev.now _
      | true =>
        simp only [if_true]
        refine Ev.bind (end_ev (by omega)) ?_
        simp only [hc, if_true]
        have c2 : ¬ kd = 2 := by omega
        by_cases h1 : fin 0 f2 > sz
        · simp only [if_pos h1]
          have e : (!false && rst kd sz f2 f3 nx) = false := by simp [rst, c1, hc]; omega
          rw [e]
          exact Ev.now _
        · simp only [if_neg h1, if_neg c2]
          have h1' : fin 0 f2 ≤ sz := by omega
          by_cases h3 : (f3.length : Int) = 0
          · simp only [if_pos h3]
            have e : (!false && rst kd sz f2 f3 nx) = (nx == 0) := by
              have : f3.length = 0 := by omega
              simp [rst, c1, hc, h1', List.length_eq_zero_iff.1 this]; rfl
            rw [e]
            exact Ev.now _
          · simp only [if_neg h3]
            have e : (!false && rst kd sz f2 f3 nx) = false := by
              have : ¬ f3.length = 0 := by omega
              simp only [rst, if_neg c2, decide_eq_false (fun h : f3.length = 0 ∧ nx = 0 => this h.1)]; simp
            rw [e]
            exact Ev.now _
    · have hr : rst kd sz f2 f3 nx = (decide (f2.length = 0) && (if kd = 2 then true else decide (f3.length = 0 ∧ nx = 0))) := by simp only [rst, if_neg c1]
      refine Ev.step (fun k => by simp only [itab_fits.j0]; rw [if_neg (by decide), if_neg c1]) ?_
      rw [hr]
      by_cases h3 : (f3.length : Int) = 0
      · simp only [if_pos h3]
        have h3' : f3.length = 0 := by omega
        by_cases h2 : (f2.length : Int) = 0
        · simp only [if_pos h2]
          have h2' : f2.length = 0 := by omega
          by_cases c2 : kd = 2
          · simp only [if_pos c2, h2', decide_true]; exact Ev.now _
          · have e : (!false && (decide (f2.length = 0) && (if kd = 2 then true else decide (f3.length = 0 ∧ nx = 0)))) = (nx == 0) := by
              rw [Bool.beq_eq_decide_eq]; simp [h2', h3', c2]
            rw [e]
            simp only [if_neg c2]
            exact Ev.now _
        · simp only [if_neg h2]
          have h2' : ¬ f2.length = 0 := by omega
          simp only [decide_eq_false h2', Bool.false_and, Bool.and_false]; exact Ev.now _
      · simp only [if_neg h3]
        have h3' : ¬ f3.length = 0 := by omega
        by_cases h2 : (f2.length : Int) = 0
        · simp only [if_pos h2]
          have h2' : f2.length = 0 := by omega
          by_cases c2 : kd = 2
          · simp only [if_pos c2, h2', decide_true]; exact Ev.now _
          · simp only [if_neg c2, decide_eq_false (fun h : f3.length = 0 ∧ nx = 0 => h3' h.1), Bool.and_false]; exact Ev.now _
        · simp only [if_neg h2]
          have h2' : ¬ f2.length = 0 := by omega
          simp only [decide_eq_false h2', Bool.false_and, Bool.and_false]; exact Ev.now _
theorem fits_ev (g kd lk sz st : Int) (f2 : List S73) (f3 : List S75) (nx : Int) (hl : f2.length ≤ 5900000000000) :
    Ev (fun k => itab_fits.f k g kd lk sz st f2 f3 nx) (hd g kd lk sz st && rst kd sz f2 f3 nx) := by
  unfold itab_fits.f
  by_cases h1 : g < 1
  · simp only [if_pos h1]
    have : hd g kd lk sz st = !true := by simp only [hd, Bool.not_true, decide_eq_false_iff_not]; omega
    rw [this]; exact fits_j0 _ _ _ _ _ _ _ _ _ hl
  · simp only [if_neg h1]
    by_cases h2 : g > 1099511627776
    · simp only [if_pos h2]
      have : hd g kd lk sz st = !true := by simp only [hd, Bool.not_true, decide_eq_false_iff_not]; omega
      rw [this]; exact fits_j0 _ _ _ _ _ _ _ _ _ hl
    · simp only [if_neg h2]
      refine Ev.bind (attr_f kd lk sz st) ?_
      by_cases h3 : AttrOk kd lk sz st
      · have : hd g kd lk sz st = !false := by simp only [hd, Bool.not_false, decide_eq_true_eq]; exact ⟨by omega, h3⟩
        simp only [if_pos h3]
        rw [this]; exact fits_j0 _ _ _ _ _ _ _ _ _ hl
      · have : hd g kd lk sz st = !true := by simp only [hd, Bool.not_true, decide_eq_false_iff_not]; exact fun h => h3 h.2
        simp only [if_neg h3]
        rw [this]; exact fits_j0 _ _ _ _ _ _ _ _ _ hl
def okT (l : List S30) : Bool := decide ((1 ≤ l.length ∧ l.length ≤ 24) ∧ (rd_T30 l 0).f1.f0 = 2) && l.all okI
/-- Lists that a machine can hold. -/
def Sm (l : List S30) : Prop := ∀ x ∈ l, x.f2.length ≤ 5900000000000 ∧ x.f3.length ≤ 5900000000000
theorem okT_len {l : List S30} (h : okT l = true) : 1 ≤ l.length ∧ l.length ≤ 24 := by simp only [okT, Bool.and_eq_true, decide_eq_true_eq] at h; exact h.1.1
theorem okT_root {l : List S30} (h : okT l = true) : (rd_T30 l 0).f1.f0 = 2 := by simp only [okT, Bool.and_eq_true, decide_eq_true_eq] at h; exact h.1.2
theorem okT_all {l : List S30} (h : okT l = true) : ∀ x ∈ l, okI x = true := by simp only [okT, Bool.and_eq_true] at h; exact List.all_eq_true.1 h.2
theorem tab_l0 (l : List S30) (hs : Sm l) (hl : l.length ≤ 24) (d : Nat) : ∀ i : Nat, i ≤ l.length → l.length - i = d → Ev (fun k => itab_Check.l0 k l l.length i) (if (l.drop i).all okI = true then 0 else 4) := by
  induction d with
  | zero =>
    intro i h1 h2
    rw [List.drop_eq_nil_of_le (by omega)]
    exact Ev.step (fun k => by simp only [itab_Check.l0]; rw [if_neg (by omega)]; rfl) (Ev.now _)
  | succ d ih =>
    intro i h1 h2
    have hlt : i < l.length := by omega
    refine Ev.step (fun k => by simp only [itab_Check.l0]; rw [if_pos (by omega), if_pos (by omega), if_pos (by omega)]) ?_
    simp only [rd30 l i hlt]
    refine Ev.bind (fits_ev _ _ _ _ _ _ _ _ (hs _ (List.getElem_mem hlt)).1) ?_
    rw [List.drop_eq_getElem_cons hlt, List.all_cons]
    show Ev (fun n => if okI l[i] = true then _ else _) _
    cases c : okI l[i] with
    | true =>
      simp only [if_true, Bool.true_and, wr1 i (by omega)]
      exact ih (i + 1) (by omega) (by omega)
    | false => exact Ev.now _
theorem tab_ev {l : List S30} (hs : Sm l) : Ev (fun k => itab_Check.f k l) (if okT l = true then 0 else 4) := by
  have bad : okT l = false → Ev (fun k => itab_Check.j0 k l true) (if okT l = true then 0 else 4) := fun hb => by
    rw [hb]
    exact Ev.step (fun k => by simp only [itab_Check.j0, if_true]; rfl) (Ev.now _)
  unfold itab_Check.f
  by_cases h1 : (l.length : Int) = 0
  · simp only [if_pos h1]
    exact bad (by simp only [okT, Bool.and_eq_false_iff, decide_eq_false_iff_not]; exact .inl (by omega))
  · simp only [if_neg h1]
    by_cases h2 : (l.length : Int) > 24
    · simp only [if_pos h2]
      exact bad (by simp only [okT, Bool.and_eq_false_iff, decide_eq_false_iff_not]; exact .inl (by omega))
    · simp only [if_neg h2, if_pos (show (0 : Int) < (l.length : Int) by omega)]
      by_cases h3 : (rd_T30 l 0).f1.f0 = 2
      · have e : okT l = (l.drop 0).all okI := by
          simp only [okT, List.drop_zero]
          rw [decide_eq_true ⟨⟨by omega, by omega⟩, h3⟩, Bool.true_and]
        refine Ev.step (fun k => by simp only [itab_Check.j0]; rw [if_neg (by simp [h3])]) ?_
        rw [e]
        exact tab_l0 l hs (by omega) l.length 0 (by omega) (by omega)
      · have e : ((rd_T30 l 0).f1.f0 != 2) = true := by simpa using h3
        rw [e]
        exact bad (by simp only [okT, Bool.and_eq_false_iff, decide_eq_false_iff_not]; exact .inl (by omega))
def nm (l : List S30) (no gen : Int) : Bool := decide (0 ≤ no ∧ no < l.length ∧ ¬ (rd_T30 l no).f1.f0 = 0 ∧ gen = (rd_T30 l no).f0)
theorem named_ev {l : List S30} (hs : Sm l) (no gen : Int) : Ev (fun k => itab_named.f k l no gen) (if okT l = true then (if nm l no gen = true then 0 else 401) else 4) := by
  unfold itab_named.f
  refine Ev.bind (tab_ev hs) ?_
  cases okT l with
  | false => exact Ev.now _
  | true =>
    simp only [if_true]
    by_cases h1 : no < 0
    · have e : nm l no gen = false := decide_eq_false (by omega)
      simp only [if_pos h1, e]; exact Ev.now _
    · simp only [if_neg h1]
      by_cases h2 : no ≥ (l.length : Int)
      · have e : nm l no gen = false := decide_eq_false (by omega)
        simp only [if_pos h2, e]; exact Ev.now _
      · simp only [if_neg h2, if_pos (show 0 ≤ no by omega), if_pos (show no < (l.length : Int) by omega)]
        by_cases h3 : (rd_T30 l no).f1.f0 = 0
        · have e : nm l no gen = false := decide_eq_false (by simp [h3])
          simp only [if_pos h3, e]; exact Ev.now _
        · simp only [if_neg h3]
          by_cases h4 : gen = (rd_T30 l no).f0
          · have e : nm l no gen = true := decide_eq_true ⟨by omega, by omega, h3, h4⟩
            have e2 : (!(gen == (rd_T30 l no).f0)) = false := by simp [h4]
            simp only [e, e2]; exact Ev.now _
          · have e : nm l no gen = false := decide_eq_false (fun h => h4 h.2.2.2)
            have e2 : (!(gen == (rd_T30 l no).f0)) = true := by simp [h4]
            simp only [e, e2]; exact Ev.now _
theorem small_of {l : List S30} (h : Sm l) : (l.all fun x => decide (x.f2.length ≤ 5900000000000) && decide (x.f3.length ≤ 5900000000000)) = true := by
  rw [List.all_eq_true]
  intro x hx
  simp [h x hx]
theorem copied_eq {l : List S30} (h : Sm l) (hl : l.length ≤ 24) : itab_copied.f l = some l := by
  unfold itab_copied.f
  rw [if_pos ⟨by omega, small_of h⟩]
theorem owned_eq {x : S30} (h : x.f2.length ≤ 5900000000000 ∧ x.f3.length ≤ 5900000000000) : itab_owned.f x.f0 x.f1.f0 x.f1.f1 x.f1.f2 x.f1.f3 x.f2 x.f3 x.f4 = some (x.f0, x.f1.f0, x.f1.f1, x.f1.f2, x.f1.f3, x.f2, x.f3, x.f4) := by
  unfold itab_owned.f
  rw [if_pos h]
theorem inodes_ev {l : List S30} (h : Sm l) (hl : l.length ≤ 1000000000000) : Ev (fun k => sextonplain_Inodes.f k l l) true := by
  refine Ev.congr (f := fun _ => some true) (fun k => ?_) (Ev.now _)
  unfold sextonplain_Inodes.f
  rw [if_pos]
  refine ⟨?_, hl⟩
  rw [Bool.and_eq_true]
  exact ⟨eqL_refl eq30_refl l, small_of h⟩
theorem Sm_bound {l : List S30} (h : ∀ x ∈ l, x.f2.length * 24 ≤ 140737488351232 ∧ x.f3.length * 40 ≤ 140737488351232) : Sm l := fun x hx => by have := h x hx; omega
end Go.Proofs.Ytgepphlkibnhdaa.PItab
