/- In what order alarms are set says nothing: the alarms are those of the steps, in their own order. -/
import Derived.Test.YtnenheaijacphaaThree
namespace Go.Proofs.Ytnenheaijacphaa.PAlarm
open Go Go.RowKit Go.Maps Go.Proofs.YtnenheaijacphaaW.PrintWords Go.Proofs.YtnenheaijacphaaW.PrintLast Go.Proofs.YtnenheaijacphaaW.PrintMore Go.Proofs.Ytnenheaijacphaa.Sl
set_option linter.unusedVariables false
set_option linter.unusedSimpArgs false

def seen (K : List S28) (n : Int) : Bool := K.any (fun s => s.f1 == n)
def addS (K : List S28) (s : S28) : List S28 := if seen K s.f1 = true then K else K ++ [s]
def keptOf (l : List S28) : List S28 := l.foldl addS []
theorem kept_snoc (l : List S28) (s : S28) : keptOf (l ++ [s]) = addS (keptOf l) s := by simp [keptOf, List.foldl_append]
theorem addS_one {K : List S28} (h : K.Pairwise (fun a b => a.f1 ≠ b.f1)) (s : S28) : (addS K s).Pairwise (fun a b => a.f1 ≠ b.f1) := by
  unfold addS
  split
  · exact h
  · rename_i c
    rw [List.pairwise_append]
    refine ⟨h, List.pairwise_singleton _ _, fun a ha b hb => ?_⟩
    simp at hb
    subst hb
    intro e
    exact c (List.any_eq_true.2 ⟨a, ha, by simp [e]⟩)
theorem addS_len (K : List S28) (s : S28) : (addS K s).length ≤ K.length + 1 := by unfold addS; split <;> simp
theorem kept_all (l : List S28) : ∀ K : List S28, K.Pairwise (fun a b => a.f1 ≠ b.f1) → (l.foldl addS K).Pairwise (fun a b => a.f1 ≠ b.f1) ∧ (l.foldl addS K).length ≤ K.length + l.length := by
  induction l with
  | nil => exact fun K h => ⟨h, by simp⟩
  | cons s r ih =>
    intro K h
    obtain ⟨h1, h2⟩ := ih (addS K s) (addS_one h s)
    have := addS_len K s
    exact ⟨h1, by simp only [List.foldl_cons, List.length_cons] at h2 ⊢; omega⟩
theorem kept_one (l : List S28) : (keptOf l).Pairwise (fun a b => a.f1 ≠ b.f1) := (kept_all l [] .nil).1
theorem kept_len (l : List S28) : (keptOf l).length ≤ l.length := by have := (kept_all l [] .nil).2; simpa [keptOf] using this
def setS (L : List S53) (s : S28) : List S53 := (set L s.f1 s.f2).2
def setAll (L : List S53) (K : List S28) : List S53 := K.foldl setS L
theorem setAll_snoc (L : List S53) (K : List S28) (s : S28) : setAll L (K ++ [s]) = setS (setAll L K) s := by simp [setAll, List.foldl_append]
theorem set_mem {L : List S53} (h : Ok L) (hl : L.length < 256) (s : S28) (hd : ∀ a ∈ L, a.f0 ≠ s.f1) : Ok (setS L s) ∧ (setS L s).length ≤ L.length + 1 ∧ ∀ a, a ∈ setS L s ↔ a ∈ L ∨ (big s.f1 = true ∧ big s.f2 = true ∧ a = ⟨s.f1, s.f2⟩) := by
  unfold setS set
  by_cases c : (big s.f1 && big s.f2) = false
  · rw [if_pos c]
    refine ⟨h, Nat.le_succ _, fun a => ⟨fun h => .inl h, fun h => ?_⟩⟩
    rcases h with h | ⟨h1, h2, _⟩
    · exact h
    · rw [h1, h2] at c; cases c
  · rw [if_neg c, if_neg (fun h => by omega)]
    have c' : big s.f1 = true ∧ big s.f2 = true := by cases h1 : big s.f1 <;> cases h2 : big s.f2 <;> simp [h1, h2] at c ⊢
    refine ⟨h.put c'.1 c'.2 (.inr hl), ?_, fun a => ?_⟩
    · show (put L s.f1 s.f2).length ≤ _
      rw [put_len h.one]; split <;> omega
    · show a ∈ put L s.f1 s.f2 ↔ _
      rw [mem_put]
      constructor
      · rintro (e | ⟨e, _⟩)
        · exact .inr ⟨c'.1, c'.2, e⟩
        · exact .inl e
      · rintro (e | ⟨_, _, e⟩)
        · exact .inr ⟨e, hd a e⟩
        · exact .inl e
theorem setAll_mem : ∀ (K : List S28) (L : List S53), Ok L → L.length + K.length ≤ 256 → K.Pairwise (fun a b => a.f1 ≠ b.f1) → (∀ a ∈ L, ∀ s ∈ K, a.f0 ≠ s.f1) →
    Ok (setAll L K) ∧ ∀ a, a ∈ setAll L K ↔ a ∈ L ∨ ∃ s ∈ K, big s.f1 = true ∧ big s.f2 = true ∧ a = ⟨s.f1, s.f2⟩
  | [], L, h, _, _, _ => ⟨h, fun a => ⟨fun h => .inl h, fun h => by rcases h with h | ⟨s, hs, _⟩; exact h; cases hs⟩⟩
  | s :: r, L, h, hl, hp, hd => by
    obtain ⟨p1, p2⟩ := List.pairwise_cons.1 hp
    simp only [List.length_cons] at hl
    obtain ⟨q1, q2, q3⟩ := set_mem h (by omega) s (fun a ha => hd a ha s (by simp))
    have ih := setAll_mem r (setS L s) q1 (by omega) p2 (fun a ha t ht => by
      rcases (q3 a).1 ha with ha | ⟨_, _, rfl⟩
      · exact hd a ha t (by simp [ht])
      · exact p1 t ht)
    refine ⟨ih.1, fun a => ?_⟩
    show a ∈ setAll (setS L s) r ↔ _
    rw [ih.2, q3]
    constructor
    · rintro ((h | h) | ⟨t, ht, h⟩)
      · exact .inl h
      · exact .inr ⟨s, by simp, h⟩
      · exact .inr ⟨t, by simp [ht], h⟩
    · rintro (h | ⟨t, ht, h⟩)
      · exact .inl (.inl h)
      · rcases List.mem_cons.1 ht with rfl | ht
        · exact .inl (.inr h)
        · exact .inr ⟨t, ht, h⟩
theorem ok_ext {L M : List S53} (h : Ok L) (k : Ok M) (e : ∀ a, a ∈ L ↔ a ∈ M) : L = M := by
  have nd : ∀ {L : List S53}, Ok L → L.Nodup := fun h => h.one.imp (fun {a b} hab e => hab (by rw [e]))
  exact List.Perm.eq_of_pairwise (le := Lt) (fun a b _ _ h1 h2 => by unfold Lt at h1 h2; omega) h.up k.up ((List.perm_ext_iff_of_nodup (nd h) (nd k)).2 e)
theorem order_same (K : List S28) (hd : K.Pairwise (fun a b => a.f1 ≠ b.f1)) (hl : K.length ≤ 200) : setAll [] K.reverse = setAll [] K ∧ Ok (setAll [] K) := by
  have h1 := setAll_mem K [] Ok.nil (by simp; omega) hd (by simp)
  have h2 := setAll_mem K.reverse [] Ok.nil (by simp; omega) (List.pairwise_reverse.2 (hd.imp (fun {a b} h => h.symm))) (by simp)
  refine ⟨ok_ext h2.1 h1.1 (fun a => ?_), h1.1⟩
  rw [h1.2, h2.2]
  simp
/-! ### two clocks -/
def Two (w W : World) (p b p' b' : Nat) (L M : List S53) : Prop := Cl W w.heap.size p b L ∧ Cl W w.heap.size p' b' M ∧ b ≠ b' ∧ Below w.heap.size w W
theorem Cl.map_ne {w : World} {B B' p b p' b' : Nat} {L M : List S53} (h : Cl w B p b L) (k : Cl w B' p' b' M) : p' ≠ b := by
  obtain ⟨_, _, h1, _⟩ := k
  obtain ⟨_, _, _, _, D, ⟨es, clock, h2, _⟩, _⟩ := h
  intro e
  subst e
  rw [h1] at h2
  cases h2
theorem Two.below {w W V : World} {p b p' b' : Nat} {L M : List S53} (h : Two w W p b p' b' L M) (k : Below W.heap.size W V) : Two w V p b p' b' L M :=
  ⟨h.1.below k, h.2.1.below k, h.2.2.1, h.2.2.2.trans (k.mono h.2.2.2.size)⟩
theorem Two.one {w W V : World} {p b p' b' : Nat} {L L' M : List S53} (h : Two w W p b p' b' L M) (c : Cl V w.heap.size p b L') (k : Kp (fun k => k = b) W V) : Two w V p b p' b' L' M :=
  ⟨c, h.2.1.move k (h.1.map_ne h.2.1) (fun e => h.2.2.1 e.symm), h.2.2.1, below_kp h.2.2.2 (Nat.le_refl _) k (fun j e => by subst e; exact h.1.2.1)⟩
theorem Two.two {w W V : World} {p b p' b' : Nat} {L M M' : List S53} (h : Two w W p b p' b' L M) (c : Cl V w.heap.size p' b' M') (k : Kp (fun k => k = b') W V) : Two w V p b p' b' L M' :=
  ⟨h.1.move k (h.2.1.map_ne h.1) h.2.2.1, c, h.2.2.1, below_kp h.2.2.2 (Nat.le_refl _) k (fun j e => by subst e; exact h.2.1.2.1)⟩
theorem Two.base {w W V : World} {p b p' b' base : Nat} {L M : List S53} (h : Two w W p b p' b' L M) (k : Below base W V) (h0 : w.heap.size ≤ base) (h1 : p < base) (h2 : b < base) (h3 : p' < base) (h4 : b' < base) : Two w V p b p' b' L M :=
  ⟨h.1.move (kp_base k) (by omega) (by omega), h.2.1.move (kp_base k) (by omega) (by omega), h.2.2.1, below_kp h.2.2.2 (Nat.le_refl _) (kp_base k) (fun j hj => Nat.le_trans h0 hj)⟩
section
variable {w W : World} {p b p' b' : Nat} {L M : List S53}
theorem two_set1 (H : Two w W p b p' b' L M) (n t : Int) : Calls Try.prog 10 #[.pointer (some ⟨p, 0, none⟩), .int .i64 n, .int .i64 t] W fun e w' => e = .returned (.int .i64 (set L n t).1) ∧ Two w w' p b p' b' (set L n t).2 M ∧ Kp (fun k => k = b) W w' :=
  (set_calls _ p b L n t W H.1).mono fun e w' ⟨h1, h2, h3⟩ => ⟨h1, H.one h2 h3, h3⟩
theorem two_set2 (H : Two w W p b p' b' L M) (n t : Int) : Calls Try.prog 10 #[.pointer (some ⟨p', 0, none⟩), .int .i64 n, .int .i64 t] W fun e w' => e = .returned (.int .i64 (set M n t).1) ∧ Two w w' p b p' b' L (set M n t).2 ∧ Kp (fun k => k = b') W w' :=
  (set_calls _ p' b' M n t W H.2.1).mono fun e w' ⟨h1, h2, h3⟩ => ⟨h1, H.two h2 h3, h3⟩
theorem two_due1 (H : Two w W p b p' b' L M) (t : Int) : Calls Try.prog 11 #[.pointer (some ⟨p, 0, none⟩), .int .i64 t] W fun e w' => ∃ v, e = .returned (.tuple #[v, .int .i64 (due L t).2.1]) ∧ Row w' W.heap.size v (due L t).1 ∧ Two w w' p b p' b' (due L t).2.2 M :=
  (due_calls _ p b L t W H.1).mono fun e w' ⟨v, h1, h2, h3, h4⟩ => ⟨v, h1, h2, H.one h3 h4⟩
theorem two_due2 (H : Two w W p b p' b' L M) (t : Int) {u : Value} {xs : List Int} {base : Nat} (hu : Row W base u xs) (h2 : b' < base) : Calls Try.prog 11 #[.pointer (some ⟨p', 0, none⟩), .int .i64 t] W fun e w' => ∃ v, e = .returned (.tuple #[v, .int .i64 (due M t).2.1]) ∧ Row w' W.heap.size v (due M t).1 ∧ Two w w' p b p' b' L (due M t).2.2 ∧ Row w' base u xs :=
  (due_calls _ p' b' M t W H.2.1).mono fun e w' ⟨v, h1, h2', h3, h4⟩ => ⟨v, h1, h2', H.two h3 h4, R_kpb hu h4 (fun j hj e => by omega)⟩
theorem two_len1 (H : Two w W p b p' b' L M) : Calls Try.prog 13 #[.pointer (some ⟨p, 0, none⟩)] W fun e w' => e = .returned (.int .i64 L.length) ∧ W = w' := len_calls _ p b L W H.1
theorem two_len2 (H : Two w W p b p' b' L M) : Calls Try.prog 13 #[.pointer (some ⟨p', 0, none⟩)] W fun e w' => e = .returned (.int .i64 M.length) ∧ W = w' := len_calls _ p' b' M W H.2.1
theorem two_new (H : Own w W p b []) : Calls Try.prog 9 #[] W fun e w' => ∃ p' b', e = .returned (.pointer (some ⟨p', 0, none⟩)) ∧ Two w w' p b p' b' [] [] :=
  (new_calls W).mono fun e w' ⟨p', b', h1, h2, h3⟩ => ⟨p', b', h1, H.1.below h3, ⟨Nat.le_trans H.2.size h2.1, Nat.le_trans H.2.size h2.2.1, h2.2.2⟩, (fun e => by have := h2.2.1; have := H.1.lt.2; omega), H.2.trans (h3.mono H.2.size)⟩
end
end Go.Proofs.Ytnenheaijacphaa.PAlarm
