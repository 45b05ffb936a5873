/- What a table is with an inode more, with one less: itab.Make, itab.Drop; one case, asked by the kernel; and what is made of tables that a machine can hold is again such a table. -/
import Derived.Test.YtgepphlkibnhdaaSpecs
import Derived.Test.YtgepphlkibnhdaaOpenItab
import Derived.Test.YtgepphlkibnhdaaPItabx22
import Derived.Test.YtgepphlkibnhdaaPItabx23
import Derived.Test.YtgepphlkibnhdaaPItabx24
import Derived.Test.YtgepphlkibnhdaaPItabx25
import Derived.KernelRfl
namespace Go.Proofs.Ytgepphlkibnhdaa.PItab
open Go Go.RowKit Go.Proofs.YtgepphlkibnhdaaW.PrintWords Go.Proofs.YtgepphlkibnhdaaW.PrintLast Go.Proofs.YtgepphlkibnhdaaW.PrintMore
set_option linter.unusedVariables false
set_option linter.unusedSimpArgs false

def ino (gen kind stamp : Int) : S30 := ⟨gen, ⟨kind, 1, 0, stamp⟩, [], [], 0⟩
/-- May the place be given? -/
def may (x : S30) : Bool := x.f1.f0 == 0 && x.f0 != 1099511627776
/-- The least place from i on that may be given, or the length. -/
def fre (l : List S30) (i : Nat) : Nat := i + (l.drop i).findIdx may
theorem fre_le (l : List S30) (i : Nat) (h : i ≤ l.length) : i ≤ fre l i ∧ fre l i ≤ l.length := by
  have := List.findIdx_le_length (p := may) (xs := l.drop i)
  rw [List.length_drop] at this
  unfold fre; omega
theorem fre_yes {l : List S30} {i : Nat} (h : i < l.length) (hm : may l[i] = true) : fre l i = i := by
  unfold fre
  rw [List.drop_eq_getElem_cons h, List.findIdx_cons, hm]; rfl
theorem fre_no {l : List S30} {i : Nat} (h : i < l.length) (hm : may l[i] = false) : fre l i = fre l (i + 1) := by
  unfold fre
  rw [List.drop_eq_getElem_cons h, List.findIdx_cons, hm]
  simp only [cond_false]; omega
theorem fre_end (l : List S30) : fre l l.length = l.length := by unfold fre; simp
theorem fre_may (l : List S30) (h : fre l 0 < l.length) : may (l[fre l 0]) = true := by
  have h' : l.findIdx may < l.length := by simpa [fre] using h
  have := List.findIdx_getElem (p := may) (xs := l) (w := h')
  have e : fre l 0 = l.findIdx may := by simp [fre]
  simp only [e]; exact this
/-- The table with an inode more, its handle, the error. -/
def mk (l : List S30) (kind stamp : Int) : List S30 × Int × Int × Int :=
  if okT l = true then
    (if (kind = 1 ∨ kind = 2) ∧ 0 ≤ stamp ∧ stamp ≤ 1099511627776 then
      (if fre l 0 = l.length then (if l.length = 24 then ([], 0, 0, 407) else (l ++ [ino 1 kind stamp], (l.length : Int), 1, 0))
       else (l.set (fre l 0) (ino ((rd_T30 l (fre l 0 : Nat)).f0 + 1) kind stamp), ((fre l 0 : Nat) : Int), (rd_T30 l (fre l 0 : Nat)).f0 + 1, 0))
     else ([], 0, 0, 1))
  else ([], 0, 0, 4)
theorem okI_gen {x : S30} (h : okI x = true) : 1 ≤ x.f0 ∧ x.f0 ≤ 1099511627776 := by
  simp only [okI, hd, Bool.and_eq_true, decide_eq_true_eq] at h; exact h.1.1
theorem mk_in (l : List S30) (kind stamp : Int) (hk : okT l = true) (ha : (kind = 1 ∨ kind = 2) ∧ 0 ≤ stamp ∧ stamp ≤ 1099511627776) : mk l kind stamp =
      (if fre l 0 = l.length then (if l.length = 24 then ([], 0, 0, 407) else (l ++ [ino 1 kind stamp], (l.length : Int), 1, 0))
       else (l.set (fre l 0) (ino ((rd_T30 l (fre l 0 : Nat)).f0 + 1) kind stamp), ((fre l 0 : Nat) : Int), (rd_T30 l (fre l 0 : Nat)).f0 + 1, 0)) := by
  rw [mk, if_pos hk, if_pos ha]
theorem make_j2 (l : List S30) (hs : Sm l) (hk : okT l = true) (kind stamp : Int) (n : Nat) (hn : n ≤ l.length) :
    Ev (fun k => itab_Make.j2 k l kind stamp n) (if n = l.length then (if l.length = 24 then ([], 0, 0, 407) else (l ++ [ino 1 kind stamp], (l.length : Int), 1, 0))
       else (l.set n (ino ((rd_T30 l (n : Nat)).f0 + 1) kind stamp), (n : Int), (rd_T30 l (n : Nat)).f0 + 1, 0)) := by
  have hl := okT_len hk
  refine Ev.step (fun k => by simp only [itab_Make.j2, copied_eq hs hl.2, Option.bind_some]; rfl) ?_
  by_cases c : n = l.length
  · subst c
    rw [if_pos rfl]
    simp only [if_true]
    by_cases c24 : l.length = 24
    · rw [if_pos c24]
      simp only [if_pos (show (l.length : Int) = 24 by omega)]
      exact Ev.now _
    · rw [if_neg c24]
      have h1 : (l.length : Int) < ((l ++ [(⟨0, (⟨0, 0, 0, 0⟩ : S26), [], [], 0⟩ : S30)]).length : Int) := by simp; omega
      simp only [if_neg (show ¬ (l.length : Int) = 24 by omega), if_pos (show l.length < 1466015503701 by omega), Option.bind_some, if_pos (show (0 : Int) ≤ (l.length : Int) by omega), if_pos h1]
      have e : rd_T30 (l ++ [(⟨0, (⟨0, 0, 0, 0⟩ : S26), [], [], 0⟩ : S30)]) (l.length : Int) = ⟨0, (⟨0, 0, 0, 0⟩ : S26), [], [], 0⟩ := by
        rw [rd30 _ _ (by simp)]; simp
      have w1 : wrap64 (0 + 1) = 1 := by unfold wrap64; omega
      simp only [e, Int.toNat_natCast, w1]
      have e2 : (l ++ [(⟨0, (⟨0, 0, 0, 0⟩ : S26), [], [], 0⟩ : S30)]).set l.length (⟨1, (⟨kind, 1, 0, stamp⟩ : S26), [], [], 0⟩ : S30) = l ++ [ino 1 kind stamp] := by
        rw [List.set_append_right _ _ (by omega)]
        simp [ino]
      rw [e2]
      exact Ev.now _
  · rw [if_neg c]
    have hlt : n < l.length := by omega
    simp only [if_neg (show ¬ (n : Int) = (l.length : Int) by omega), if_pos (show (0 : Int) ≤ (n : Int) by omega), if_pos (show (n : Int) < (l.length : Int) by omega), Int.toNat_natCast]
    have hg := okI_gen (okT_all hk _ (List.getElem_mem hlt))
    rw [← rd30 l n hlt] at hg
    rw [wrap_id (by omega) (by omega)]
    exact Ev.now _
theorem make_l0 (l : List S30) (hs : Sm l) (hk : okT l = true) (kind stamp : Int) (d : Nat) : ∀ i : Nat, i ≤ l.length → l.length - i = d →
    Ev (fun k => itab_Make.l0 k l kind stamp i) (if fre l i = l.length then (if l.length = 24 then ([], 0, 0, 407) else (l ++ [ino 1 kind stamp], (l.length : Int), 1, 0))
       else (l.set (fre l i) (ino ((rd_T30 l (fre l i : Nat)).f0 + 1) kind stamp), ((fre l i : Nat) : Int), (rd_T30 l (fre l i : Nat)).f0 + 1, 0)) := by
  have hl := okT_len hk
  induction d with
  | zero =>
    intro i h1 h2
    obtain rfl : i = l.length := by omega
    refine Ev.step (fun k => by simp only [itab_Make.l0]; rw [if_neg (by omega)]) ?_
    rw [fre_end]
    exact make_j2 l hs hk kind stamp l.length (Nat.le_refl _)
  | succ d ih =>
    intro i h1 h2
    have hlt : i < l.length := by omega
    by_cases c1 : (rd_T30 l i).f1.f0 = 0
    · by_cases c2 : (rd_T30 l i).f0 = 1099511627776
      · have e : may l[i] = false := by rw [← rd30 l i hlt]; simp [may, c2]
        rw [fre_no hlt e]
        refine Ev.step (fun k => ?_) (ih (i + 1) (by omega) (by omega))
        simp only [itab_Make.l0]; rw [if_pos (by omega), if_pos (by omega), if_pos c1, if_pos c2, wr1 i (by omega)]
      · have e : may l[i] = true := by rw [← rd30 l i hlt]; simp [may, c1, c2]
        rw [fre_yes hlt e]
        refine Ev.step (fun k => ?_) (make_j2 l hs hk kind stamp i (by omega))
        simp only [itab_Make.l0]; rw [if_pos (by omega), if_pos (by omega), if_pos c1, if_neg c2]
    · have e : may l[i] = false := by rw [← rd30 l i hlt]; simp [may, c1]
      rw [fre_no hlt e]
      refine Ev.step (fun k => ?_) (ih (i + 1) (by omega) (by omega))
      simp only [itab_Make.l0]; rw [if_pos (by omega), if_pos (by omega), if_neg c1, wr1 i (by omega)]
theorem make_ev {l : List S30} (hs : Sm l) (kind stamp : Int) : Ev (fun k => itab_Make.f k l kind stamp) (mk l kind stamp) := by
  unfold itab_Make.f
  refine Ev.bind (tab_ev hs) ?_
  cases hk : okT l with
  | false =>
    have e : mk l kind stamp = ([], 0, 0, 4) := by simp [mk, hk]
    rw [e]; exact Ev.now _
  | true =>
    simp only [if_true]
    have bad : ¬ ((kind = 1 ∨ kind = 2) ∧ 0 ≤ stamp ∧ stamp ≤ 1099511627776) → Ev (fun k => itab_Make.j0 k l kind stamp true) (mk l kind stamp) := fun hb => by
      have e : mk l kind stamp = ([], 0, 0, 1) := by rw [mk, if_pos hk, if_neg hb]
      rw [e]
      exact Ev.step (fun k => by simp only [itab_Make.j0, if_true]) (Ev.now _)
    have good : ((kind = 1 ∨ kind = 2) ∧ 0 ≤ stamp) → Ev (fun k => itab_Make.j0 k l kind stamp (decide (stamp > 1099511627776))) (mk l kind stamp) := fun hg => by
      by_cases h3 : stamp > 1099511627776
      · rw [decide_eq_true h3]; exact bad (by omega)
      · rw [decide_eq_false h3, mk_in l kind stamp hk ⟨hg.1, hg.2, by omega⟩]
        refine Ev.step (fun k => by simp only [itab_Make.j0]; rw [if_neg (by decide)]) ?_
        exact make_l0 l hs hk kind stamp l.length 0 (by omega) (by omega)
    by_cases h1 : kind = 1
    · by_cases h2 : stamp < 0
      · simp only [if_pos h1, if_pos h2]; exact bad (by omega)
      · simp only [if_pos h1, if_neg h2]; exact good ⟨.inl h1, by omega⟩
    · by_cases h1' : kind = 2
      · by_cases h2 : stamp < 0
        · simp only [if_neg h1, if_pos h1', if_pos h2]; exact bad (by omega)
        · simp only [if_neg h1, if_pos h1', if_neg h2]; exact good ⟨.inr h1', by omega⟩
      · simp only [if_neg h1, if_neg h1']; exact bad (by omega)
def emp (gen : Int) : S30 := ⟨gen, ⟨0, 0, 0, 0⟩, [], [], 0⟩
def dr (l : List S30) (no gen : Int) : List S30 × Int :=
  if okT l = true then (if nm l no gen = true then (if no = 0 then ([], 1) else (l.set no.toNat (emp gen), 0)) else ([], 401)) else ([], 4)
theorem nm_in {l : List S30} {no gen : Int} (h : nm l no gen = true) : 0 ≤ no ∧ no < l.length ∧ ¬ (rd_T30 l no).f1.f0 = 0 ∧ gen = (rd_T30 l no).f0 := of_decide_eq_true h
theorem drop_ev {l : List S30} (hs : Sm l) (no gen : Int) : Ev (fun k => itab_Drop.f k l no gen) (dr l no gen) := by
  unfold itab_Drop.f
  refine Ev.bind (named_ev hs no gen) ?_
  unfold dr
  cases hk : okT l with
  | false => exact Ev.now _
  | true =>
    simp only [if_true]
    cases hn : nm l no gen with
    | false => exact Ev.now _
    | true =>
      simp only [if_true]
      by_cases h0 : no = 0
      · simp only [if_pos h0]; exact Ev.now _
      · obtain ⟨g1, g2, _, _⟩ := nm_in hn
        simp only [if_neg h0, copied_eq hs (okT_len hk).2, Option.bind_some, if_pos g1, if_pos g2]
        exact Ev.now _
theorem again_ev : Ev (fun k => sextonlaw09_again.f k) true := Ev.of sextonlaw09_again.mono (k := 40) (by kernel_rfl)
theorem Sm_b {l : List S30} (h : ∀ x ∈ l, b30 x) : Sm l := fun x hx => by
  have hb : reachBytes = 0x7ffffffff000 := rfl
  obtain ⟨_, _, ⟨h1, _⟩, ⟨h2, _⟩, _⟩ := h x hx
  omega
theorem Sm_x {x : S30} (h : b30 x) : x.f2.length ≤ 5900000000000 ∧ x.f3.length ≤ 5900000000000 := Sm_b (l := [x]) (by simpa using h) x (by simp)
theorem Sm_nil : Sm [] := fun x hx => by simp at hx
theorem Sm_set {l : List S30} (h : Sm l) (i : Nat) {x : S30} (hx : x.f2.length ≤ 5900000000000 ∧ x.f3.length ≤ 5900000000000) : Sm (l.set i x) := fun y hy => by
  rcases List.mem_or_eq_of_mem_set hy with hy | rfl
  · exact h y hy
  · exact hx
theorem Sm_snoc {l : List S30} (h : Sm l) {x : S30} (hx : x.f2.length ≤ 5900000000000 ∧ x.f3.length ≤ 5900000000000) : Sm (l ++ [x]) := fun y hy => by
  rcases List.mem_append.1 hy with hy | hy
  · exact h y hy
  · rw [List.mem_singleton.1 hy]; exact hx
theorem mk_fine {l : List S30} (h : Sm l) (kind stamp : Int) : Sm (mk l kind stamp).1 ∧ (mk l kind stamp).1.length ≤ 25 := by
  unfold mk
  split
  · rename_i hk
    have := okT_len hk
    split
    · split
      · split
        · exact ⟨Sm_nil, by simp⟩
        · exact ⟨Sm_snoc h (by simp [ino]), by simp; omega⟩
      · exact ⟨Sm_set h _ (by simp [ino]), by simp; omega⟩
    · exact ⟨Sm_nil, by simp⟩
  · exact ⟨Sm_nil, by simp⟩
theorem dr_fine {l : List S30} (h : Sm l) (no gen : Int) : Sm (dr l no gen).1 ∧ (dr l no gen).1.length ≤ 25 := by
  unfold dr
  split
  · rename_i hk
    have := okT_len hk
    split
    · split
      · exact ⟨Sm_nil, by simp⟩
      · exact ⟨Sm_set h _ (by simp [emp]), by simp; omega⟩
    · exact ⟨Sm_nil, by simp⟩
  · exact ⟨Sm_nil, by simp⟩
end Go.Proofs.Ytgepphlkibnhdaa.PItab
