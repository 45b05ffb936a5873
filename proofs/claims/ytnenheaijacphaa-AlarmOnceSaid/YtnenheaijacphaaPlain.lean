/- Alarms as a list: in order of their moments, then of their numbers; what is set, stopped, due. -/
import Derived.Test.YtnenheaijacphaaPAlarmx0
namespace Go.Proofs.Ytnenheaijacphaa.PAlarm
open Go
set_option linter.unusedVariables false
set_option linter.unusedSimpArgs false

def big (n : Int) : Bool := decide (0 ≤ n) && decide (n ≤ 1099511627776)
theorem big_iff {n : Int} : big n = true ↔ 0 ≤ n ∧ n ≤ 1099511627776 := by unfold big; simp
/-- When an alarm is due. -/
def at_ (L : List S53) (n : Int) : Option Int := (L.find? (fun a => a.f0 == n)).map (·.f1)
def drp (L : List S53) (n : Int) : List S53 := L.filter (fun a => a.f0 != n)
/-- Does a stand behind (n, t)? -/
def aft (a : S53) (n t : Int) : Bool := decide (t < a.f1) || ((a.f1 == t) && decide (n < a.f0))
def ins : List S53 → Int → Int → List S53
  | [], n, t => [⟨n, t⟩]
  | a :: l, n, t => if aft a n t = true then ⟨n, t⟩ :: a :: l else a :: ins l n t
def Lt (a b : S53) : Prop := a.f1 < b.f1 ∨ (a.f1 = b.f1 ∧ a.f0 < b.f0)
/-- Right alarms: in order, no number twice, all within bounds, at most 256. -/
structure Ok (L : List S53) : Prop where
  up : L.Pairwise Lt
  one : L.Pairwise (fun a b => a.f0 ≠ b.f0)
  rng : ∀ a ∈ L, big a.f0 = true ∧ big a.f1 = true
  len : L.length ≤ 256
theorem Ok.nil : Ok [] := ⟨.nil, .nil, by simp, by simp⟩
theorem Ok.sub {L M : List S53} (h : Ok L) (s : M.Sublist L) : Ok M := ⟨h.up.sublist s, h.one.sublist s, fun a ha => h.rng a (s.subset ha), Nat.le_trans s.length_le h.len⟩
theorem Ok.drp {L : List S53} (h : Ok L) (n : Int) : Ok (drp L n) := h.sub List.filter_sublist
theorem at_iff {L : List S53} (h : L.Pairwise (fun a b => a.f0 ≠ b.f0)) (n c : Int) : at_ L n = some c ↔ (⟨n, c⟩ : S53) ∈ L := by
  unfold at_
  constructor
  · intro e
    obtain ⟨a, ha, rfl⟩ := Option.map_eq_some_iff.1 e
    have h1 := List.find?_some ha
    have h2 := List.mem_of_find?_eq_some ha
    have h3 : a.f0 = n := by simpa using h1
    rw [← h3]; exact h2
  · induction L with
    | nil => intro h; cases h
    | cons a l ih =>
      obtain ⟨h1, h2⟩ := List.pairwise_cons.1 h
      intro hm
      rcases List.mem_cons.1 hm with e | e
      · rw [← e]; simp
      · have : a.f0 ≠ n := h1 _ e
        rw [List.find?_cons_of_neg (by simpa using this)]
        exact ih h2 e
theorem at_none {L : List S53} (n : Int) : at_ L n = none ↔ ∀ a ∈ L, a.f0 ≠ n := by
  unfold at_
  rw [Option.map_eq_none_iff, List.find?_eq_none]
  constructor
  · intro h a ha e; exact h a ha (by simp [e])
  · intro h a ha e; exact h a ha (by simpa using e)
theorem at_rng {L : List S53} (h : Ok L) {n c : Int} (e : at_ L n = some c) : (0 ≤ n ∧ n ≤ 1099511627776) ∧ (0 ≤ c ∧ c ≤ 1099511627776) := by
  have := h.rng _ ((at_iff h.one n c).1 e)
  exact ⟨big_iff.1 this.1, big_iff.1 this.2⟩
theorem at_drp (L : List S53) (n x : Int) : at_ (drp L n) x = if x = n then none else at_ L x := by
  by_cases e : x = n
  · subst e
    rw [if_pos rfl, at_none]
    intro a ha
    have := (List.mem_filter.1 ha).2
    simpa using this
  · rw [if_neg e]
    unfold at_ drp
    congr 1
    induction L with
    | nil => rfl
    | cons a l ih =>
      by_cases h : a.f0 = n
      · have h1 : (a.f0 != n) = false := by simp [h]
        have h2 : (a.f0 == x) = false := by simp [h]; exact fun e' => e e'.symm
        rw [List.filter_cons_of_neg (by simp [h1]), List.find?_cons_of_neg (by simp [h2])]
        exact ih
      · have h1 : (a.f0 != n) = true := by simpa using h
        rw [List.filter_cons_of_pos (p := fun a : S53 => a.f0 != n) h1]
        by_cases h2 : a.f0 = x
        · rw [List.find?_cons_of_pos (by simp [h2]), List.find?_cons_of_pos (by simp [h2])]
        · rw [List.find?_cons_of_neg (by simp [h2]), List.find?_cons_of_neg (by simp [h2])]
          exact ih
theorem drp_none {L : List S53} {n : Int} (h : at_ L n = none) : drp L n = L := by
  unfold drp
  rw [List.filter_eq_self]
  intro a ha
  simpa using (at_none n).1 h a ha
theorem drp_len {L : List S53} (h : L.Pairwise (fun a b => a.f0 ≠ b.f0)) (n : Int) : (drp L n).length + (if (at_ L n).isSome = true then 1 else 0) = L.length := by
  induction L with
  | nil => rfl
  | cons a l ih =>
    obtain ⟨h1, h2⟩ := List.pairwise_cons.1 h
    by_cases e : a.f0 = n
    · have e1 : at_ (a :: l) n = some a.f1 := by unfold at_; rw [List.find?_cons_of_pos (by simp [e])]; rfl
      have e2 : drp (a :: l) n = drp l n := by unfold drp; rw [List.filter_cons_of_neg (by simp [e])]
      have e3 : drp l n = l := drp_none ((at_none n).2 (fun b hb e' => h1 b hb (by rw [e, e'])))
      rw [e1, e2, e3]; simp
    · have e1 : at_ (a :: l) n = at_ l n := by unfold at_; rw [List.find?_cons_of_neg (by simp [e])]
      have e2 : drp (a :: l) n = a :: drp l n := by unfold drp; rw [List.filter_cons_of_pos (by simpa using e)]
      rw [e1, e2]
      have := ih h2
      simp only [List.length_cons]
      omega
theorem ins_perm (L : List S53) (n t : Int) : (ins L n t).Perm (⟨n, t⟩ :: L) := by
  induction L with
  | nil => exact List.Perm.refl _
  | cons a l ih =>
    unfold ins
    split
    · exact List.Perm.refl _
    · exact ((List.perm_cons a).2 ih).trans (List.Perm.swap _ _ _)
theorem Lt.trans {a b c : S53} (h : Lt a b) (k : Lt b c) : Lt a c := by unfold Lt at *; omega
theorem aft_iff {a : S53} {n t : Int} : aft a n t = true ↔ Lt ⟨n, t⟩ a := by
  unfold aft Lt
  simp only [Bool.or_eq_true, Bool.and_eq_true, decide_eq_true_eq, beq_iff_eq]
  omega
theorem ins_up {L : List S53} (h : L.Pairwise Lt) {n t : Int} (hn : ∀ a ∈ L, a.f0 ≠ n) : (ins L n t).Pairwise Lt := by
  induction L with
  | nil => exact List.pairwise_singleton _ _
  | cons a l ih =>
    obtain ⟨h1, h2⟩ := List.pairwise_cons.1 h
    unfold ins
    split
    · rename_i c
      rw [aft_iff] at c
      refine List.pairwise_cons.2 ⟨fun b hb => ?_, h⟩
      rcases List.mem_cons.1 hb with rfl | hb
      · exact c
      · exact c.trans (h1 b hb)
    · rename_i c
      refine List.pairwise_cons.2 ⟨fun b hb => ?_, ih h2 (fun b hb => hn b (by simp [hb]))⟩
      rcases List.mem_cons.1 ((ins_perm l n t).mem_iff.1 hb) with rfl | hb
      · have h3 := hn a (by simp)
        rw [aft_iff] at c
        unfold Lt at *
        simp only at *
        omega
      · exact h1 b hb
/-- The alarms behind a setting. -/
def put (L : List S53) (n t : Int) : List S53 := ins (drp L n) n t
theorem mem_put {L : List S53} {n t : Int} {a : S53} : a ∈ put L n t ↔ a = ⟨n, t⟩ ∨ (a ∈ L ∧ a.f0 ≠ n) := by
  unfold put
  rw [(ins_perm _ n t).mem_iff, List.mem_cons]
  unfold drp
  rw [List.mem_filter]
  simp
theorem put_len {L : List S53} (h : L.Pairwise (fun a b => a.f0 ≠ b.f0)) (n t : Int) : (put L n t).length = if (at_ L n).isSome = true then L.length else L.length + 1 := by
  unfold put
  rw [(ins_perm _ n t).length_eq]
  have := drp_len h n
  simp only [List.length_cons]
  split <;> simp_all <;> omega
theorem Ok.put {L : List S53} (h : Ok L) {n t : Int} (hn : big n = true) (ht : big t = true) (hl : (at_ L n).isSome = true ∨ L.length < 256) : Ok (put L n t) := by
  have hd : ∀ a ∈ PAlarm.drp L n, a.f0 ≠ n := fun a ha => by simpa using (List.mem_filter.1 ha).2
  refine ⟨ins_up (h.drp n).up hd, ?_, fun a ha => ?_, ?_⟩
  · refine ((ins_perm _ n t).pairwise_iff (fun {a b} (e : a.f0 ≠ b.f0) => e.symm)).2 (List.pairwise_cons.2 ⟨fun a ha e => hd a ha e.symm, (h.drp n).one⟩)
  · rcases mem_put.1 ha with rfl | ⟨ha, _⟩
    · exact ⟨hn, ht⟩
    · exact h.rng a ha
  · rw [put_len h.one]
    have := h.len
    split
    · exact this
    · rename_i c; rcases hl with e | e
      · exact absurd e c
      · omega
theorem at_put {L : List S53} (h : Ok L) {n t : Int} (hn : big n = true) (ht : big t = true) (hl : (at_ L n).isSome = true ∨ L.length < 256) (x : Int) : at_ (put L n t) x = if x = n then some t else at_ L x := by
  have hk := h.put hn ht hl
  by_cases e : x = n
  · subst e
    rw [if_pos rfl, at_iff hk.one, mem_put]; exact .inl rfl
  · rw [if_neg e]
    cases hx : at_ L x with
    | none =>
      rw [at_none] at hx ⊢
      intro a ha
      rcases mem_put.1 ha with rfl | ⟨ha, _⟩
      · exact fun e' => e e'.symm
      · exact hx a ha
    | some c =>
      rw [at_iff hk.one, mem_put]
      exact .inr ⟨(at_iff h.one x c).1 hx, e⟩
/-- Whose moment has come; the others. -/
def dueL (L : List S53) (t : Int) : List Int := (L.filter (fun a => decide (a.f1 ≤ t))).map (·.f0)
def rest (L : List S53) (t : Int) : List S53 := L.filter (fun a => decide (t < a.f1))
theorem mem_due {L : List S53} (h : Ok L) {t x : Int} : x ∈ dueL L t ↔ ∃ c, at_ L x = some c ∧ c ≤ t := by
  unfold dueL
  rw [List.mem_map]
  constructor
  · rintro ⟨a, ha, rfl⟩
    obtain ⟨h1, h2⟩ := List.mem_filter.1 ha
    exact ⟨a.f1, (at_iff h.one _ _).2 h1, by simpa using h2⟩
  · rintro ⟨c, hc, hle⟩
    exact ⟨⟨x, c⟩, List.mem_filter.2 ⟨(at_iff h.one _ _).1 hc, by simpa using hle⟩, rfl⟩
theorem due_nodup {L : List S53} (h : Ok L) (t : Int) : (dueL L t).Nodup := by
  unfold dueL
  exact List.pairwise_map.2 (h.one.sublist List.filter_sublist)
theorem due_len (L : List S53) (t : Int) : (dueL L t).length ≤ L.length := by
  unfold dueL
  rw [List.length_map]; exact List.length_filter_le _ _
/-- The least moment. -/
def nxt (L : List S53) : Int := match L with | [] => 0 | a :: _ => a.f1
theorem nxt_le {L : List S53} (h : Ok L) {x c : Int} (e : at_ L x = some c) : nxt L ≤ c := by
  have hm := (at_iff h.one x c).1 e
  cases L with
  | nil => cases hm
  | cons a l =>
    rcases List.mem_cons.1 hm with rfl | hm
    · exact Int.le_refl _
    · have := (List.pairwise_cons.1 h.up).1 _ hm
      unfold Lt at this
      show a.f1 ≤ c
      simp only at this
      omega
theorem nxt_at {L : List S53} (h : Ok L) (hne : L ≠ []) : ∃ x, at_ L x = some (nxt L) := by
  cases L with
  | nil => exact absurd rfl hne
  | cons a l => exact ⟨a.f0, (at_iff h.one _ _).2 (by simp [nxt])⟩
end Go.Proofs.Ytnenheaijacphaa.PAlarm
