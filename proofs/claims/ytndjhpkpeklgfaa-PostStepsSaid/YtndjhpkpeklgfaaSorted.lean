/- Letters in the order of their numbers: plain Lean, no program. -/
import Derived.Test.YtndjhpkpeklgfaaTurns
namespace Go.Proofs.Ytndjhpkpeklgfaa.PPost
open Go Go.RowKit Go.Proofs.YtndjhpkpeklgfaaW.PrintWords Go.Proofs.YtndjhpkpeklgfaaW.PrintLast Go.Proofs.YtndjhpkpeklgfaaW.PrintMore Go.Proofs.Ytndjhpkpeklgfaa.Sl
set_option linter.unusedVariables false

theorem rd_get {l : List S52} {i : Nat} (h : i < l.length) : rd_T52 l (i : Int) = l[i] := by simp [rd_T52, List.getD_eq_getElem?_getD, List.getElem?_eq_getElem h]
def Up (l : List S52) : Prop := ∀ i j, i < j → j < l.length → (rd_T52 l (i : Int)).f0 < (rd_T52 l (j : Int)).f0
theorem bs_spec {l : List S52} {who : Int} (U : Up l) : ∀ (f i j : Nat), i ≤ j → j ≤ l.length → j - i ≤ f → (∀ m, m < i → (rd_T52 l (m : Int)).f0 < who) → (∀ m, j ≤ m → m < l.length → who ≤ (rd_T52 l (m : Int)).f0) →
    (∀ m, m < bs l who f i j → (rd_T52 l (m : Int)).f0 < who) ∧ (∀ m, bs l who f i j ≤ m → m < l.length → who ≤ (rd_T52 l (m : Int)).f0)
  | 0, i, j, h, hj, hf, h1, h2 => ⟨h1, fun m hm => h2 m (by have : bs l who 0 i j = i := rfl; omega)⟩
  | f + 1, i, j, h, hj, hf, h1, h2 => by
    rw [bs]
    split
    · rename_i hlt
      have U1 : ∀ m, m < (i + j) / 2 → (rd_T52 l (m : Int)).f0 < (rd_T52 l (((i + j) / 2 : Nat) : Int)).f0 := fun m hm => U m _ hm (by omega)
      have U2 : ∀ m, (i + j) / 2 < m → m < l.length → (rd_T52 l (((i + j) / 2 : Nat) : Int)).f0 < (rd_T52 l (m : Int)).f0 := fun m hm hl => U _ m hm hl
      split
      · rename_i hb
        refine bs_spec U f ((i + j) / 2 + 1) j (by omega) hj (by omega) (fun m hm => ?_) h2
        by_cases e : m = (i + j) / 2
        · rw [e]; exact hb
        · have := U1 m (by omega); omega
      · rename_i hb
        refine bs_spec U f i ((i + j) / 2) (by omega) (by omega) (by omega) h1 (fun m hm hl => ?_)
        by_cases e : m = (i + j) / 2
        · rw [e]; omega
        · have := U2 m (by omega) hl; omega
    · exact ⟨h1, fun m hm hl => h2 m (by omega) hl⟩
theorem place_spec {l : List S52} {who : Int} (U : Up l) : (∀ m, m < place l who → (rd_T52 l (m : Int)).f0 < who) ∧ (∀ m, place l who ≤ m → m < l.length → who ≤ (rd_T52 l (m : Int)).f0) :=
  bs_spec U l.length 0 l.length (Nat.zero_le _) (Nat.le_refl _) (by omega) (fun m hm => absurd hm (by omega)) (fun m h1 h2 => absurd h1 (by omega))
theorem place_at {l : List S52} (U : Up l) {i : Nat} (h : i < l.length) : place l (rd_T52 l (i : Int)).f0 = i := by
  obtain ⟨h1, h2⟩ := place_spec (who := (rd_T52 l (i : Int)).f0) U
  generalize place l (rd_T52 l (i : Int)).f0 = p at h1 h2
  by_cases a : i < p
  · have := h1 i a; omega
  · by_cases b : p < i
    · have := h2 p (Nat.le_refl _) (by omega); have := U p i b h; omega
    · omega
theorem there_at {l : List S52} (U : Up l) {i : Nat} (h : i < l.length) : there l (rd_T52 l (i : Int)).f0 = true := by
  simp [there, place_at U h, h]
/-- Where a number is not there. -/
theorem there_ex {l : List S52} {n : Int} (h : there l n = true) : place l n < l.length ∧ (rd_T52 l ((place l n : Nat) : Int)).f0 = n := by
  simpa [there, and_comm] using h
theorem there_no {l : List S52} {n : Int} (h : ∀ i, i < l.length → (rd_T52 l (i : Int)).f0 ≠ n) : there l n = false := by
  cases e : there l n with
  | false => rfl
  | true => obtain ⟨a, b⟩ := there_ex e; exact absurd b (h _ a)
theorem see_at {l : List S52} (U : Up l) {i : Nat} (h : i < l.length) : see l (rd_T52 l (i : Int)).f0 = (rd_T52 l (i : Int), 0) := by
  rw [see, if_pos (there_at U h), place_at U h]
theorem see_not {l : List S52} {n : Int} (h : there l n = false) : see l n = (z52, 6) := by simp [see, h]

/-- A post's letters: in order, their numbers at most the last one, no more than k of them, none too long. -/
structure Fit (l : List S52) (last : Int) (k : Nat) : Prop where
  up : Up l
  bound : ∀ i, i < l.length → 1 ≤ (rd_T52 l (i : Int)).f0 ∧ (rd_T52 l (i : Int)).f0 ≤ last
  body : ∀ x ∈ l, x.f3.size ≤ 65535
  len : l.length ≤ k
  last0 : 0 ≤ last
  lastk : last ≤ k
theorem Fit.nil : Fit [] 0 0 := ⟨fun i j _ h => absurd h (by simp), fun i h => absurd h (by simp), fun x h => by simp at h, by simp, by decide, by decide⟩
theorem Fit.mono {l : List S52} {last : Int} {k k' : Nat} (h : Fit l last k) (hk : k ≤ k') : Fit l last k' := ⟨h.up, h.bound, h.body, Nat.le_trans h.len hk, h.last0, by have := h.lastk; omega⟩
theorem rd_snoc (l : List S52) (x : S52) (i : Nat) : rd_T52 (l ++ [x]) (i : Int) = if i < l.length then rd_T52 l (i : Int) else if i = l.length then x else z52 := by
  simp only [rd_T52, Int.toNat_natCast, List.getD_eq_getElem?_getD]
  split
  · rename_i h; rw [List.getElem?_append_left h]
  · rename_i h
    rw [List.getElem?_append_right (by omega)]
    split
    · rename_i e; subst e; simp
    · rename_i e; rw [List.getElem?_eq_none (by simp; omega)]; rfl
theorem Fit.snoc {l : List S52} {last : Int} {k : Nat} (h : Fit l last k) (a b : Int) (s : ByteArray) (hs : s.size ≤ 65535) : Fit (l ++ [⟨last + 1, a, b, s⟩]) (last + 1) (k + 1) := by
  have h0 := h.last0; have h1 := h.lastk; have h2 := h.len
  refine ⟨fun i j hij hj => ?_, fun i hi => ?_, fun x hx => ?_, by simp; exact h.len, by omega, by omega⟩
  · rw [rd_snoc, rd_snoc]
    simp at hj
    rw [if_pos (by omega)]
    by_cases e : j < l.length
    · rw [if_pos e]; exact h.up i j hij e
    · rw [if_neg e, if_pos (by omega)]; have := (h.bound i (by omega)).2; show _ < last + 1; omega
  · rw [rd_snoc]
    simp at hi
    by_cases e : i < l.length
    · rw [if_pos e]; have := h.bound i e; omega
    · rw [if_neg e, if_pos (by omega)]; show 1 ≤ last + 1 ∧ last + 1 ≤ last + 1; omega
  · rcases List.mem_append.1 hx with hx | hx
    · exact h.body x hx
    · rw [List.mem_singleton.1 hx]; exact hs
/-- A letter that is sent, or not. -/
theorem snd_cases {l : List S52} {last : Int} {k : Nat} (h : Fit l last k) (hk : k < 2048) (nodes f t : Int) (s : ByteArray) :
    (∃ c, c ≠ 0 ∧ snd nodes last l f t s = (0, c, last, l)) ∨ (snd nodes last l f t s = (last + 1, 0, last + 1, l ++ [⟨last + 1, f, t, s⟩]) ∧ s.size ≤ 65535) := by
  unfold snd
  split
  · exact .inl ⟨1, by decide, rfl⟩
  · split
    · exact .inl ⟨2, by decide, rfl⟩
    · rw [if_neg (by have := h.len; omega)]
      exact .inr ⟨rfl, by omega⟩
theorem Fit.snd {l : List S52} {last : Int} {k : Nat} (h : Fit l last k) (hk : k < 2048) (nodes f t : Int) (s : ByteArray) : Fit (snd nodes last l f t s).2.2.2 (PPost.snd nodes last l f t s).2.2.1 (k + 1) := by
  rcases snd_cases h hk nodes f t s with ⟨c, _, e⟩ | ⟨e, hs⟩
  · rw [e]; exact h.mono (by omega)
  · rw [e]; exact h.snoc f t s hs
theorem rd_mem {l : List S52} {i : Nat} (h : i < l.length) : rd_T52 l (i : Int) ∈ l := by rw [rd_get h]; exact List.getElem_mem h
theorem agn_cases {l : List S52} {last : Int} {k : Nat} (h : Fit l last k) (hk : k < 2048) (n : Int) :
    (there l n = false ∧ agn last l n = (0, 6, last, l)) ∨ (there l n = true ∧ agn last l n = (last + 1, 0, last + 1, l ++ [⟨last + 1, (rd_T52 l ((place l n : Nat) : Int)).f1, (rd_T52 l ((place l n : Nat) : Int)).f2, (rd_T52 l ((place l n : Nat) : Int)).f3⟩])) := by
  cases e : there l n with
  | false => left; simp [agn, e]
  | true => right; refine ⟨rfl, ?_⟩; rw [agn, if_pos e, if_neg (by have := h.len; omega), see, if_pos e]
theorem Fit.agn {l : List S52} {last : Int} {k : Nat} (h : Fit l last k) (hk : k < 2048) (n : Int) : Fit (agn last l n).2.2.2 (PPost.agn last l n).2.2.1 (k + 1) := by
  rcases agn_cases h hk n with ⟨_, e⟩ | ⟨ht, e⟩
  · rw [e]; exact h.mono (by omega)
  · rw [e]; exact h.snoc _ _ _ (h.body _ (rd_mem (there_ex ht).1))
theorem rd_erase (l : List S52) (p i : Nat) : rd_T52 (l.eraseIdx p) (i : Int) = if i < p then rd_T52 l (i : Int) else rd_T52 l ((i + 1 : Nat) : Int) := by
  simp only [rd_T52, Int.toNat_natCast, List.getD_eq_getElem?_getD, List.getElem?_eraseIdx]
  split <;> rfl
theorem Fit.erase {l : List S52} {last : Int} {k p : Nat} (h : Fit l last k) (hp : p < l.length) : Fit (l.eraseIdx p) last k := by
  have hlen := List.length_eraseIdx_of_lt hp
  refine ⟨fun i j hij hj => ?_, fun i hi => ?_, fun x hx => h.body x (List.mem_of_mem_eraseIdx hx), by rw [hlen]; have := h.len; omega, h.last0, h.lastk⟩
  · rw [rd_erase, rd_erase]
    rw [hlen] at hj
    split
    · split
      · exact h.up i j hij (by omega)
      · exact h.up i (j + 1) (by omega) (by omega)
    · rw [if_neg (by omega)]
      exact h.up (i + 1) (j + 1) (by omega) (by omega)
  · rw [rd_erase]
    rw [hlen] at hi
    split
    · exact h.bound i (by omega)
    · exact h.bound (i + 1) (by omega)
theorem Fit.tak {l : List S52} {last : Int} {k : Nat} (h : Fit l last k) (n : Int) : Fit (tak l n) last k := by
  unfold PPost.tak
  split
  · rename_i ht; exact h.erase (there_ex ht).1
  · exact h
theorem rd_set (l : List S52) (p i : Nat) (x : S52) (hp : p < l.length) : rd_T52 (l.set p x) (i : Int) = if i = p then x else rd_T52 l (i : Int) := by
  simp only [rd_T52, Int.toNat_natCast, List.getD_eq_getElem?_getD, List.getElem?_set]
  by_cases e : p = i
  · subst e; rw [if_pos rfl, if_pos rfl, if_pos hp]; rfl
  · rw [if_neg e, if_neg (fun h => e h.symm)]
theorem flipL_f0 (l : List S52) (q i : Nat) (bit : Int) (hq : q < l.length) : (rd_T52 (flipL l q bit) (i : Int)).f0 = (rd_T52 l (i : Int)).f0 := by
  unfold flipL
  rw [rd_set _ _ _ _ hq]
  split
  · rename_i e; rw [e]
  · rfl
theorem Fit.flipL {l : List S52} {last : Int} {k q : Nat} (h : Fit l last k) (hq : q < l.length) (bit : Int) : Fit (flipL l q bit) last k := by
  have hlen : (PPost.flipL l q bit).length = l.length := by simp [PPost.flipL]
  refine ⟨fun i j hij hj => ?_, fun i hi => ?_, fun x hx => ?_, by rw [hlen]; exact h.len, h.last0, h.lastk⟩
  · rw [flipL_f0 _ _ _ _ hq, flipL_f0 _ _ _ _ hq]; exact h.up i j hij (by omega)
  · rw [flipL_f0 _ _ _ _ hq]; exact h.bound i (by omega)
  · rcases List.mem_or_eq_of_mem_set hx with hx | rfl
    · exact h.body x hx
    · show (flipB _ bit).size ≤ 65535
      rw [size_flip]; exact h.body _ (rd_mem hq)
theorem Fit.flp {l : List S52} {last : Int} {k : Nat} (h : Fit l last k) (n bit : Int) : Fit (flp l n bit).2 last k := by
  unfold PPost.flp
  split
  · rename_i ht
    split
    · exact h
    · exact h.flipL (there_ex ht).1 bit
  · exact h
end Go.Proofs.Ytndjhpkpeklgfaa.PPost
