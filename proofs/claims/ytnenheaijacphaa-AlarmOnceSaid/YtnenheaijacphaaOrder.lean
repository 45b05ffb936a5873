/- What the sort of the numbers that are due comes to: their order among the alarms. -/
import Derived.Test.YtnenheaijacphaaCompare
import Derived.Sort.OwnSorted
namespace Go.Proofs.Ytnenheaijacphaa.PAlarm
open Go Go.RowKit Go.Maps Go.Sort Go.Proofs Go.Proofs.YtnenheaijacphaaW.PrintWords Go.Proofs.YtnenheaijacphaaW.PrintLast Go.Proofs.YtnenheaijacphaaW.PrintMore Go.Proofs.Ytnenheaijacphaa.Sl
set_option linter.unusedVariables false
set_option linter.unusedSimpArgs false

def mom (L : List S53) (x : Int) : Int := (at_ L x).getD 0
theorem cf_neg (L : List S53) (x y : Int) : cf L x y < 0 ↔ mom L x < mom L y ∨ (mom L x = mom L y ∧ x < y) := by
  unfold cf orI cmpI mom
  generalize (at_ L x).getD 0 = a
  generalize (at_ L y).getD 0 = c
  by_cases h1 : a < c
  · simp [h1]
  · by_cases h2 : c < a
    · simp [h1, h2]; omega
    · have e : a = c := by omega
      subst e
      by_cases h3 : x < y
      · simp [h3]
      · by_cases h4 : y < x <;> simp [h3, h4]
/-- Numbers within bounds: what the sort's comparison is asked for. -/
abbrev Num := {x : Int // big x = true}
def encN (x : Num) : Value := .int .i64 x.1
instance : Inhabited Num := ⟨⟨0, by decide⟩⟩
def cfN (L : List S53) (x y : Num) : Int := cf L x.1 y.1
def ltN (L : List S53) (x y : Num) : Bool := decide (cfN L x y < 0)
theorem ltN_iff {L : List S53} {x y : Num} : ltN L x y = true ↔ mom L x.1 < mom L y.1 ∨ (mom L x.1 = mom L y.1 ∧ x.1 < y.1) := by
  unfold ltN cfN
  rw [decide_eq_true_eq, cf_neg]
theorem ltN_not {L : List S53} {x y : Num} : ltN L x y = false ↔ ¬ (mom L x.1 < mom L y.1 ∨ (mom L x.1 = mom L y.1 ∧ x.1 < y.1)) := by
  rw [← ltN_iff]; simp
theorem swoN (L : List S53) : SWO (ltN L) where
  irrefl x := by rw [ltN_not]; omega
  trans x y z h1 h2 := by rw [ltN_iff] at *; omega
  ntrans x y z h1 h2 := by rw [ltN_not] at *; omega
theorem totN (L : List S53) (x y : Num) (h1 : ltN L x y = false) (h2 : ltN L y x = false) : x = y := by
  rw [ltN_not] at h1 h2
  exact Subtype.ext (by omega)
theorem lift_nums : ∀ xs : List Int, (∀ x ∈ xs, big x = true) → ∃ ys : List Num, ys.map (·.1) = xs
  | [], _ => ⟨[], rfl⟩
  | x :: r, h => by
    obtain ⟨ys, e⟩ := lift_nums r (fun y hy => h y (by simp [hy]))
    exact ⟨⟨x, h x (by simp)⟩ :: ys, by simp [e]⟩
theorem due_big {L : List S53} (h : Ok L) {t : Int} : ∀ x ∈ dueL L t, big x = true := by
  intro x hx
  obtain ⟨a, ha, rfl⟩ := List.mem_map.1 hx
  exact (h.rng a (List.mem_filter.1 ha).1).1
theorem due_up {L : List S53} (h : Ok L) (t : Int) : (dueL L t).Pairwise (fun x y => mom L x < mom L y ∨ (mom L x = mom L y ∧ x < y)) := by
  unfold dueL
  refine List.pairwise_map.2 ((h.up.sublist List.filter_sublist).imp_of_mem ?_)
  intro a b ha hb hab
  have ea : mom L a.f0 = a.f1 := by unfold mom; rw [(at_iff h.one _ _).2 (List.mem_filter.1 ha).1]; rfl
  have eb : mom L b.f0 = b.f1 := by unfold mom; rw [(at_iff h.one _ _).2 (List.mem_filter.1 hb).1]; rfl
  rw [ea, eb]
  exact hab
theorem sorted_due {L : List S53} (h : Ok L) {t : Int} {ys : List Num} (hp : (ys.map (·.1)).Perm (dueL L t)) : (ys.mergeSort fun x y => !(ltN L) y x).map (·.1) = dueL L t := by
  have tr : ∀ a b c : Num, (!(ltN L) b a) = true → (!(ltN L) c b) = true → (!(ltN L) c a) = true := fun a b c h1 h2 => by
    simp only [Bool.not_eq_true'] at *
    exact (swoN L).ntrans _ _ _ h2 h1
  have tot : ∀ a b : Num, ((!(ltN L) b a) || (!(ltN L) a b)) = true := fun a b => by
    cases h1 : ltN L b a with
    | false => rfl
    | true =>
      have : ltN L a b = false := by rw [ltN_iff] at h1; rw [ltN_not]; omega
      rw [this]; rfl
  refine List.Perm.eq_of_pairwise (le := fun x y => ¬ (mom L y < mom L x ∨ (mom L y = mom L x ∧ y < x))) (fun a b _ _ h1 h2 => by omega) ?_ ((due_up h t).imp fun hab => by omega) (((List.mergeSort_perm ys _).map _).trans hp)
  refine List.pairwise_map.2 ((List.pairwise_mergeSort tr tot ys).imp fun {a b} hab => ?_)
  rw [Bool.not_eq_true', ltN_not] at hab
  exact hab

/-! ### a row of numbers, sorted -/
section
variable {α : Type} [Inhabited α] {enc : α → Value}
theorem holds_gen {w : World} {g : Nat} {cur : Array Value} {e : TypeId} {ss : List α} (hb : w.heap[g]? = some (.cells cur e (0, 0))) (ht : cur.toList.take ss.length = ss.map enc) : Holds enc w g 0 ss.toArray := by
  intro j hj
  have hj' : j < ss.length := by simpa using hj
  refine ⟨?_, by simp [World.frozen?, hb]⟩
  have h1 : (cur.toList.take ss.length)[j]? = (ss.map enc)[j]? := by rw [ht]
  rw [List.getElem?_take_of_lt hj'] at h1
  simp only [World.cell?, hb, Nat.zero_add]
  simp only [Option.isSome_none, Bool.false_eq_true, if_false]
  rw [← Array.getElem?_toList, h1]
  simp [hj']
theorem heap_gen {w : World} {g n : Nat} {os : Array Obj} {cur : Array Value} {e : TypeId} {fr : Nat × Nat} (d : Array α) (hb : w.heap[g]? = some (.cells cur e fr)) :
    (grow (putRow enc (Sort.ahead w n) g 0 d) os).heap[g]? = some (.cells (putCells enc 0 d cur) e fr) := by
  have hg : g < w.heap.size := (Array.getElem?_eq_some_iff.1 hb).1
  rw [heap_grow_old _ _ (by simpa using hg)]
  simp [putRow, mapBlock, Sort.ahead, Array.getElem?_modify, hb, onCells]
theorem grownBy_gen {w : World} {g n : Nat} {os : Array Obj} (d : Array α) : w.grownBy (grow (putRow enc (Sort.ahead w n) g 0 d) os) (some g) := by
  refine ⟨rfl, rfl, rfl, by simp, fun k hk hne => ?_⟩
  rw [heap_grow_old _ _ (by simpa using hk)]
  have : g ≠ k := fun e => hne (by rw [e])
  simp [putRow, mapBlock, Sort.ahead, Array.getElem?_modify, this]
theorem take_gen (cur : Array Value) (ts : List α) (h : ts.length ≤ cur.size) : (putCells enc 0 ts.toArray cur).toList.take ts.length = ts.map enc := by
  apply List.ext_getElem?
  intro j
  by_cases hj : j < ts.length
  · rw [List.getElem?_take_of_lt hj, Array.getElem?_toList]
    simp [putCells, hj, show j < cur.size by omega]
  · rw [List.getElem?_take_eq_none (by omega), List.getElem?_eq_none (by simp; omega)]
theorem own_gen {w : World} {base g cap n : Nat} {e : TypeId} {os : Array Obj} {cur : Array Value} {ss ts : List α} (hl : ts.length = ss.length) (hbase : base ≤ g) (hb : w.heap[g]? = some (.cells cur e (0, 0)))
    (h1 : ss.length ≤ cap) (h2 : cap ≤ maxLen) (h3 : cur.size = cap * 1) :
    (grow (putRow enc (Sort.ahead w n) g 0 ts.toArray) os).ownsRow base e 1 (.slice (some ⟨g, 0, none⟩) ss.length cap) ss.length (ts.map enc) :=
  ⟨by simp [hl], .inr ⟨g, cap, _, rfl, hbase, heap_gen _ hb, h1, h2, by simp [putCells, h3], by rw [Nat.mul_one, ← hl]; exact take_gen cur ts (by omega)⟩⟩
end
end Go.Proofs.Ytnenheaijacphaa.PAlarm
