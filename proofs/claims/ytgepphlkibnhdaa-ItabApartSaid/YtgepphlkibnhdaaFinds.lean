/- What itab.Find comes to; what is named in tables with an inode more, with one less. -/
import Derived.Test.YtgepphlkibnhdaaMakes
import Derived.Test.YtgepphlkibnhdaaPItabx15
namespace Go.Proofs.Ytgepphlkibnhdaa.PItab
open Go Go.RowKit Go.Proofs.YtgepphlkibnhdaaW.PrintWords Go.Proofs.YtgepphlkibnhdaaW.PrintLast Go.Proofs.YtgepphlkibnhdaaW.PrintMore
set_option linter.unusedVariables false
set_option linter.unusedSimpArgs false

def fnd (l : List S30) (no gen : Int) : S30 × Int := if okT l = true then (if nm l no gen = true then (rd_T30 l no, 0) else (⟨0, ⟨0, 0, 0, 0⟩, [], [], 0⟩, 401)) else (⟨0, ⟨0, 0, 0, 0⟩, [], [], 0⟩, 4)
def flat (p : S30 × Int) : Int × Int × Int × Int × Int × (List S73) × (List S75) × Int × Int := (p.1.f0, p.1.f1.f0, p.1.f1.f1, p.1.f1.f2, p.1.f1.f3, p.1.f2, p.1.f3, p.1.f4, p.2)
theorem rd30I {l : List S30} {no : Int} (h0 : 0 ≤ no) (h1 : no < l.length) : rd_T30 l no ∈ l := by
  obtain ⟨n, rfl⟩ := Int.eq_ofNat_of_zero_le h0
  rw [rd30 l n (by omega)]
  exact List.getElem_mem _
theorem find_ev {l : List S30} (hs : Sm l) (no gen : Int) : Ev (fun k => itab_Find.f k l no gen) (flat (fnd l no gen)) := by
  unfold itab_Find.f
  refine Ev.bind (named_ev hs no gen) ?_
  unfold fnd
  cases okT l with
  | false => exact Ev.now _
  | true =>
    simp only [if_true]
    cases hn : nm l no gen with
    | false => exact Ev.now _
    | true =>
      obtain ⟨g1, g2, _, _⟩ := nm_in hn
      simp only [if_true, if_pos g1, if_pos g2, owned_eq (hs _ (rd30I g1 g2)), Option.bind_some]
      exact Ev.now _
theorem rd30_set {l : List S30} {n : Nat} {x : S30} {no : Int} (h0 : 0 ≤ no) (h1 : no < l.length) : rd_T30 (l.set n x) no = if no = (n : Int) then x else rd_T30 l no := by
  obtain ⟨m, rfl⟩ := Int.eq_ofNat_of_zero_le h0
  rw [rd30 _ m (by simpa using h1), rd30 l m (by omega), List.getElem_set]
  by_cases c : n = m
  · rw [if_pos c, if_pos (by omega)]
  · rw [if_neg c, if_neg (by omega)]
theorem rd30_snoc {l : List S30} {x : S30} {no : Int} (h0 : 0 ≤ no) (h1 : no ≤ l.length) : rd_T30 (l ++ [x]) no = if no = (l.length : Int) then x else rd_T30 l no := by
  obtain ⟨m, rfl⟩ := Int.eq_ofNat_of_zero_le h0
  rw [rd30 _ m (by simp; omega)]
  by_cases c : m = l.length
  · rw [if_pos (by omega)]; simp [c]
  · rw [if_neg (by omega), rd30 l m (by omega), List.getElem_append_left (by omega)]
theorem okI_ino {gen kind stamp : Int} (hg : 1 ≤ gen ∧ gen ≤ 1099511627776) (hk : kind = 1 ∨ kind = 2) (hs : 0 ≤ stamp ∧ stamp ≤ 1099511627776) : okI (ino gen kind stamp) = true := by
  have h1 : hd gen kind 1 0 stamp = true := decide_eq_true ⟨hg, .inr ⟨by omega, hs, by omega⟩⟩
  have h2 : rst kind 0 [] [] 0 = true := by rcases hk with rfl | rfl <;> simp [rst, chk, fin]
  show (hd gen kind 1 0 stamp && rst kind 0 [] [] 0) = true
  rw [h1, h2]; rfl
theorem okI_emp {gen : Int} (hg : 1 ≤ gen ∧ gen ≤ 1099511627776) : okI (emp gen) = true := by
  have h1 : hd gen 0 0 0 0 = true := decide_eq_true ⟨hg, .inl ⟨rfl, rfl, rfl, rfl⟩⟩
  show (hd gen 0 0 0 0 && rst 0 0 [] [] 0) = true
  rw [h1]; simp [rst]
theorem okT_mk {l : List S30} (h1 : 1 ≤ l.length) (h2 : l.length ≤ 24) (h3 : (rd_T30 l 0).f1.f0 = 2) (h4 : ∀ x ∈ l, okI x = true) : okT l = true := by
  simp only [okT, Bool.and_eq_true, decide_eq_true_eq, List.all_eq_true]
  exact ⟨⟨⟨h1, h2⟩, h3⟩, h4⟩
theorem okT_set {l : List S30} (hk : okT l = true) {n : Nat} {x : S30} (h0 : 0 < n) (hx : okI x = true) : okT (l.set n x) = true := by
  have hl := okT_len hk
  refine okT_mk (by simp; omega) (by simp; omega) ?_ fun y hy => ?_
  · rw [rd30_set (by omega) (by omega), if_neg (by omega)]; exact okT_root hk
  · rcases List.mem_or_eq_of_mem_set hy with hy | rfl
    · exact okT_all hk y hy
    · exact hx
theorem okT_snoc {l : List S30} (hk : okT l = true) (h24 : l.length ≠ 24) {x : S30} (hx : okI x = true) : okT (l ++ [x]) = true := by
  have hl := okT_len hk
  refine okT_mk (by simp) (by simp; omega) ?_ fun y hy => ?_
  · rw [rd30_snoc (by omega) (by omega), if_neg (by omega)]; exact okT_root hk
  · rcases List.mem_append.1 hy with hy | hy
    · exact okT_all hk y hy
    · rw [List.mem_singleton.1 hy]; exact hx
theorem fre_pos {l : List S30} (hk : okT l = true) : 0 < fre l 0 := by
  have hl := okT_len hk
  have h0 := okT_root hk
  rw [show (0 : Int) = ((0 : Nat) : Int) by rfl, rd30 l 0 (by omega)] at h0
  rw [fre_no (by omega) (by simp [may, h0])]
  have := fre_le l (0 + 1) (by omega)
  omega
/-- What a table is with an inode more: none if there is no room, and else another one at a place n, one generation on. -/
theorem mk_cases {l : List S30} (hk : okT l = true) (hs : Sm l) {kind stamp : Int} (ha : (kind = 1 ∨ kind = 2) ∧ 0 ≤ stamp ∧ stamp ≤ 1099511627776) :
    (mk l kind stamp = ([], 0, 0, 407) ∧ l.length = 24) ∨ ∃ (n : Nat) (g : Int) (t : List S30), mk l kind stamp = (t, (n : Int), g, 0) ∧ 1 ≤ n ∧ n < t.length ∧ okT t = true ∧ Sm t ∧ l.length ≤ t.length ∧ n ≤ l.length ∧
      (∀ no : Int, 0 ≤ no → no < t.length → rd_T30 t no = if no = (n : Int) then ino g kind stamp else rd_T30 l no) ∧ t.length ≤ l.length + 1 ∧ (n = l.length ∨ t.length = l.length) ∧
      (n < l.length → (rd_T30 l n).f1.f0 = 0 ∧ g = (rd_T30 l n).f0 + 1) := by
  have hl := okT_len hk
  have hp := fre_pos hk
  have hf := mk_fine hs kind stamp
  rw [mk_in l kind stamp hk ha] at hf ⊢
  by_cases c : fre l 0 = l.length
  · rw [if_pos c] at hf ⊢
    by_cases c24 : l.length = 24
    · exact .inl ⟨if_pos c24, c24⟩
    · rw [if_neg c24] at hf ⊢
      refine .inr ⟨l.length, 1, _, rfl, by omega, by simp, okT_snoc hk c24 (okI_ino (by decide) ha.1 ha.2), hf.1, by simp, Nat.le_refl _, fun no h0 h1 => rd30_snoc h0 (by simp at h1; omega), by simp, .inl rfl, fun h => by omega⟩
  · rw [if_neg c] at hf ⊢
    have hle := fre_le l 0 (by omega)
    have hm := fre_may l (by omega)
    have hr := rd30 l (fre l 0) (by omega)
    rw [← hr] at hm
    simp only [may, Bool.and_eq_true, beq_iff_eq, bne_iff_ne, ne_eq] at hm
    have hg := okI_gen (okT_all hk _ (List.getElem_mem (show fre l 0 < l.length by omega)))
    rw [← hr] at hg
    refine .inr ⟨fre l 0, _, _, rfl, hp, by simp; omega, okT_set hk hp (okI_ino (by omega) ha.1 ha.2), hf.1, by simp, by omega, fun no h0 h1 => rd30_set h0 (by simpa using h1), by simp, .inr (by simp), fun _ => ⟨hm.1, rfl⟩⟩
theorem dr_yes {l : List S30} (hk : okT l = true) (hs : Sm l) {no gen : Int} (hn : nm l no gen = true) (h0 : no ≠ 0) : dr l no gen = (l.set no.toNat (emp gen), 0) ∧ okT (l.set no.toNat (emp gen)) = true ∧ Sm (l.set no.toNat (emp gen)) := by
  have e : dr l no gen = (l.set no.toNat (emp gen), 0) := by rw [dr, if_pos hk, if_pos hn, if_neg h0]
  have hf := dr_fine hs no gen
  rw [e] at hf
  obtain ⟨g1, g2, g3, g4⟩ := nm_in hn
  have hg := okI_gen (okT_all hk _ (rd30I g1 g2))
  exact ⟨e, okT_set hk (by omega) (okI_emp (by omega)), hf.1⟩
end Go.Proofs.Ytgepphlkibnhdaa.PItab
