/- A post, with rows beside it that no method of it turns; what is done with one letter. -/
import Derived.Test.YtndjhpkpeklgfaaTwice
import Derived.Test.YtndjhpkpeklgfaaSorted
namespace Go.Proofs.Ytndjhpkpeklgfaa.PPost
open Go Go.RowKit Go.Proofs.YtndjhpkpeklgfaaW.PrintWords Go.Proofs.YtndjhpkpeklgfaaW.PrintLast Go.Proofs.YtndjhpkpeklgfaaW.PrintMore Go.Proofs.Ytndjhpkpeklgfaa.Sl
set_option linter.unusedVariables false
set_option linter.unusedSimpArgs false

/-- A post of one's own; of the world wr all blocks from lo on are as they were. -/
structure Kep (w0 w : World) (B p : Nat) (nodes last : Int) (l : List S52) (wr : World) (lo : Nat) : Prop where
  size0 : B ≤ w.heap.size
  below : Below B w0 w
  po : ∃ o, Po 58 35 w B p o nodes last l ∧ ∀ k, Its p o k → k < lo ∨ wr.heap.size ≤ k
  size1 : wr.heap.size ≤ w.heap.size
  kept : ∀ k, lo ≤ k → k < wr.heap.size → w.heap[k]? = wr.heap[k]?
theorem Own.kep {w0 w wr : World} {B p : Nat} {nodes last : Int} {l : List S52} (h : Own w0 w B p nodes last l) (hb : Below w.heap.size w wr) : Kep w0 wr B p nodes last l wr w.heap.size := by
  have h1 := h.step hb
  obtain ⟨o, H⟩ := h.po
  exact ⟨h1.size0, h1.below, ⟨o, H.below hb, fun k hk => .inl (H.its k hk).2⟩, Nat.le_refl _, fun _ _ _ => rfl⟩
theorem Kep.own {w0 w wr : World} {B p lo : Nat} {nodes last : Int} {l : List S52} (h : Kep w0 w B p nodes last l wr lo) : Own w0 w B p nodes last l := by
  obtain ⟨o, H, _⟩ := h.po
  exact ⟨h.size0, h.below, o, H⟩
theorem Kep.then_ {w0 w w' wr : World} {B p lo : Nat} {o : Option Nat} {nodes last last' : Int} {l l' : List S52} (h : Kep w0 w B p nodes last l wr lo) (H : Po 58 35 w B p o nodes last l) (hi : ∀ k, Its p o k → k < lo ∨ wr.heap.size ≤ k) (k : Then 58 35 w w' B p o nodes last' l') : Kep w0 w' B p nodes last' l' wr lo := by
  have h1 := Own.then_ h.own H k
  obtain ⟨o', k1, k2, k3⟩ := k
  refine ⟨h1.size0, h1.below, ⟨o', k1, fun b hb => ?_⟩, Nat.le_trans h.size1 k2.size, fun b hb1 hb2 => ?_⟩
  · rcases hb with rfl | hb
    · exact hi b (.inl rfl)
    · rcases k3 with e | ⟨c, e, hc⟩
      · exact hi b (.inr (by rw [← e]; exact hb))
      · rw [e] at hb
        obtain rfl := Option.some.inj hb
        exact .inr (Nat.le_trans h.size1 hc)
  · rw [k2.block b (Nat.lt_of_lt_of_le hb2 h.size1) (fun hs => by rcases hi b hs with a | a <;> omega), h.kept b hb1 hb2]
theorem Kep.step {w0 w w' wr : World} {B p lo : Nat} {nodes last : Int} {l : List S52} (h : Kep w0 w B p nodes last l wr lo) (hb : Below w.heap.size w w') : Kep w0 w' B p nodes last l wr lo := by
  obtain ⟨o, H, hi⟩ := h.po
  exact h.then_ H hi (Then.same H hb)
/-- A row that was there is as it was. -/
theorem Kep.row {α : Type} {d : Kd α} {e : Nat} {v : Value} {xs : List α} {w0 w wr : World} {B p lo : Nat} {nodes last : Int} {l : List S52} (h : Kep w0 w B p nodes last l wr lo) (r : Kd.R d e wr lo (fun _ => True) v xs) : Kd.R d e w lo (fun _ => True) v xs :=
  Kd.R_mono (Kd.R_move (Kd.R_bound r) (fun k hk => h.kept k hk.2.1 hk.2.2.1)) (fun _ hk => trivial)
theorem kep_flip {w0 w wr : World} {B p lo : Nat} {nodes last : Int} {l : List S52} (h : Kep w0 w B p nodes last l wr lo) (hl : l.length ≤ 2048) (hs : ∀ x ∈ l, x.f3.size ≤ 65535) (n bit : Int) :
    Calls Try.prog 13 #[.pointer (some ⟨p, 0, none⟩), .int .i64 n, .int .i64 bit] w fun e w' => e = .returned (.int .i64 (flp l n bit).1) ∧ Kep w0 w' B p nodes last (flp l n bit).2 wr lo := by
  obtain ⟨o, H, hi⟩ := h.po
  exact (flip_calls B p o nodes last l n bit w H (by omega) hs).mono fun e w' ⟨a, b⟩ => ⟨a, h.then_ H hi b⟩
theorem kep_again {w0 w wr : World} {B p lo : Nat} {nodes last : Int} {l : List S52} (h : Kep w0 w B p nodes last l wr lo) (hl : l.length ≤ 2048) (h0 : 0 ≤ last) (hm : last < 1000000000000000000) (n : Int) :
    Calls Try.prog 11 #[.pointer (some ⟨p, 0, none⟩), .int .i64 n] w fun e w' => e = .returned (.tuple #[.int .i64 (agn last l n).1, .int .i64 (agn last l n).2.1]) ∧ Kep w0 w' B p nodes (agn last l n).2.2.1 (agn last l n).2.2.2 wr lo := by
  obtain ⟨o, H, hi⟩ := h.po
  exact (again_calls B p o nodes last l n w H h.size0 hl h0 hm).mono fun e w' ⟨a, b⟩ => ⟨a, h.then_ H hi b⟩
theorem kep_take {w0 w wr : World} {B p lo : Nat} {nodes last : Int} {l : List S52} (h : Kep w0 w B p nodes last l wr lo) (hl : l.length ≤ 2048) (n : Int) :
    Calls Try.prog 12 #[.pointer (some ⟨p, 0, none⟩), .int .i64 n] w fun e w' => e = .returned (.tuple #[.agg #[.int .i64 (see l n).1.f0, .int .i64 (see l n).1.f1, .int .i64 (see l n).1.f2, .string (see l n).1.f3], .int .i64 (see l n).2]) ∧ Kep w0 w' B p nodes last (tak l n) wr lo := by
  obtain ⟨o, H, hi⟩ := h.po
  exact (take_calls B p o nodes last l n w H (by omega)).mono fun e w' ⟨a, b⟩ => ⟨a, h.then_ H hi b⟩
theorem kep_see {w0 w wr : World} {B p lo : Nat} {nodes last : Int} {l : List S52} (h : Kep w0 w B p nodes last l wr lo) (hl : l.length ≤ 2048) (n : Int) :
    Calls Try.prog 14 #[.pointer (some ⟨p, 0, none⟩), .int .i64 n] w fun e w' => e = .returned (.tuple #[.agg #[.int .i64 (see l n).1.f0, .int .i64 (see l n).1.f1, .int .i64 (see l n).1.f2, .string (see l n).1.f3], .int .i64 (see l n).2]) ∧ Kep w0 w' B p nodes last l wr lo ∧ Below w.heap.size w w' := by
  obtain ⟨o, H, hi⟩ := h.po
  exact (see_calls B p o nodes last l n w H (by omega)).mono fun e w' ⟨a, b⟩ => ⟨a, h.step b, b⟩
theorem Kep.row' {α : Type} {d : Kd α} {e b : Nat} {v : Value} {xs : List α} {w0 w wr : World} {B p lo : Nat} {nodes last : Int} {l : List S52} (h : Kep w0 w B p nodes last l wr lo) (hb : lo ≤ b) (r : Kd.R d e wr b (fun _ => True) v xs) : Kd.R d e w b (fun _ => True) v xs :=
  Kd.R_mono (Kd.R_move (Kd.R_bound r) (fun k hk => h.kept k (Nat.le_trans hb hk.2.1) hk.2.2.1)) (fun _ hk => trivial)
/-- A post of one's own that lies below lo. -/
structure Lay (w0 w : World) (B p : Nat) (nodes last : Int) (l : List S52) (lo : Nat) : Prop where
  size0 : B ≤ w.heap.size
  below : Below B w0 w
  po : ∃ o, Po 58 35 w B p o nodes last l ∧ ∀ k, Its p o k → k < lo
theorem Lay.own {w0 w : World} {B p lo : Nat} {nodes last : Int} {l : List S52} (h : Lay w0 w B p nodes last l lo) : Own w0 w B p nodes last l := by
  obtain ⟨o, H, _⟩ := h.po
  exact ⟨h.size0, h.below, o, H⟩
theorem Lay.step {w0 w w' : World} {B p lo : Nat} {nodes last : Int} {l : List S52} (h : Lay w0 w B p nodes last l lo) (hb : Below w.heap.size w w') : Lay w0 w' B p nodes last l lo := by
  have h1 := h.own.step hb
  obtain ⟨o, H, hi⟩ := h.po
  exact ⟨h1.size0, h1.below, o, H.below hb, hi⟩
theorem Lay.kep {w0 w : World} {B p lo : Nat} {nodes last : Int} {l : List S52} (h : Lay w0 w B p nodes last l lo) : Kep w0 w B p nodes last l w lo := by
  obtain ⟨o, H, hi⟩ := h.po
  exact ⟨h.size0, h.below, ⟨o, H, fun k hk => .inl (hi k hk)⟩, Nat.le_refl _, fun _ _ _ => rfl⟩
theorem lay_waiting {w0 w : World} {B p : Nat} {nodes last : Int} {l : List S52} (h : Own w0 w B p nodes last l) (hl : l.length ≤ 2048) :
    Calls Try.prog 15 #[.pointer (some ⟨p, 0, none⟩)] w fun e w' => ∃ A c lo, e = .returned (.slice A (nums l).length c) ∧ Kd.R (Kd.int .i64) 3 w' lo (fun _ => True) (.slice A (nums l).length c) (nums l) ∧ Lay w0 w' B p nodes last l lo ∧ lo ≤ w'.heap.size := by
  obtain ⟨o, H⟩ := h.po
  refine (waiting_calls B p o nodes last l w H hl).mono fun e w' ⟨v, a, b, c⟩ => ?_
  obtain ⟨A, cp, rfl⟩ := Kd.R_slice b
  have h1 := h.step c
  exact ⟨A, cp, w.heap.size, a, b, ⟨h1.size0, h1.below, o, H.below c, fun k hk => (H.its k hk).2⟩, c.size⟩
theorem keep_all {w0 w : World} {B p lo hi : Nat} {nodes last : Int} {l l2 : List S52} {v v2 : Value} {ns : List Int} (h : Lay w0 w B p nodes last l lo) (hb : lo ≤ hi) (r1 : Kd.R (Kd.int .i64) 3 w lo (fun _ => True) v ns) (r2 : Kd.R k35 35 w hi (fun _ => True) v2 l2) :
    ∃ w8, Kep w0 w B p nodes last l w8 lo ∧ lo ≤ hi ∧ Kd.R (Kd.int .i64) 3 w8 lo (fun _ => True) v ns ∧ ∃ A c, v2 = .slice A l2.length c ∧ Kd.R k35 35 w8 hi (fun _ => True) (.slice A l2.length c) l2 ∧ ∀ ad, A = some ad → ad.block < w8.heap.size := by
  refine ⟨w, h.kep, hb, r1, ?_⟩
  obtain ⟨A, c, rfl⟩ := Kd.R_slice r2
  refine ⟨A, c, rfl, r2, fun ad e => ?_⟩
  obtain ⟨_, inner, ho, _⟩ := r2
  rcases ho.2 with ⟨e2, _⟩ | ⟨g, cap, cur, e2, _, hh, _⟩
  · subst e; simp at e2
  · subst e
    obtain ⟨e3, _, _⟩ := Value.slice.inj e2
    obtain rfl := Option.some.inj e3
    exact (Array.getElem?_eq_some_iff.1 hh).1

/-! ### what is done with one letter -/
theorem flp_f0 (l : List S52) (n bit : Int) : (flp l n bit).2.length = l.length ∧ ∀ i : Nat, (rd_T52 (flp l n bit).2 (i : Int)).f0 = (rd_T52 l (i : Int)).f0 ∧ ((rd_T52 l (i : Int)).f0 ≠ n → rd_T52 (flp l n bit).2 (i : Int) = rd_T52 l (i : Int)) := by
  unfold flp
  split
  · rename_i ht
    obtain ⟨a, b⟩ := there_ex ht
    split
    · exact ⟨rfl, fun i => ⟨rfl, fun _ => rfl⟩⟩
    · refine ⟨by simp [flipL], fun i => ⟨flipL_f0 l _ i bit a, fun hne => ?_⟩⟩
      show rd_T52 (flipL l (place l n) bit) (i : Int) = _
      unfold flipL
      rw [rd_set _ _ _ _ a, if_neg (fun e => hne (by rw [e]; exact b))]
  · exact ⟨rfl, fun i => ⟨rfl, fun _ => rfl⟩⟩
/-- The letters behind Flip, Again. -/
def aft (last : Int) (l : List S52) (n bit : Int) : List S52 := (agn last (flp l n bit).2 n).2.2.2
theorem others {l : List S52} {last : Int} {k : Nat} (h : Fit l last k) (hk : k < 2047) (n bit : Int) :
    (see (aft last l n bit) n).2 = (if there l n = true then 0 else 6) ∧ ∀ i, i < l.length →
      ((rd_T52 l (i : Int)).f0 = n → (see (tak (aft last l n bit) n) (rd_T52 l (i : Int)).f0).2 = 6 ∧ there l n = true ∧ place l n = i) ∧
      ((rd_T52 l (i : Int)).f0 ≠ n → see (tak (aft last l n bit) n) (rd_T52 l (i : Int)).f0 = (rd_T52 l (i : Int), 0)) := by
  obtain ⟨hl1, hf⟩ := flp_f0 l n bit
  have F1 := h.flp n bit
  have F2 : Fit (aft last l n bit) (agn last (flp l n bit).2 n).2.2.1 (k + 1) := F1.agn (by omega) n
  have F3 := F2.tak n
  -- of all places of l, what stands there behind
  have A : ∀ i, i < l.length → i < (aft last l n bit).length ∧ (rd_T52 (aft last l n bit) (i : Int)).f0 = (rd_T52 l (i : Int)).f0 ∧ ((rd_T52 l (i : Int)).f0 ≠ n → rd_T52 (aft last l n bit) (i : Int) = rd_T52 l (i : Int)) := by
    intro i hi
    unfold aft
    rcases agn_cases F1 (by omega) n with ⟨_, e⟩ | ⟨_, e⟩
    · rw [e]; exact ⟨by show i < (flp l n bit).2.length; omega, hf i⟩
    · rw [e]
      refine ⟨by simp [hl1]; omega, ?_⟩
      show (rd_T52 ((flp l n bit).2 ++ [_]) (i : Int)).f0 = _ ∧ _
      rw [rd_snoc, if_pos (by omega)]
      exact hf i
  have tl : there (aft last l n bit) n = there l n := by
    cases e : there l n with
    | true =>
      obtain ⟨a, b⟩ := there_ex e
      have c := there_at F2.up (A _ a).1
      rw [(A _ a).2.1, b] at c
      exact c
    | false =>
      have e1 : flp l n bit = (6, l) := by simp [flp, e]
      have e2 : agn last l n = (0, 6, last, l) := by simp [agn, e]
      unfold aft
      rw [e1, e2]; exact e
  have pl : there l n = true → place (aft last l n bit) n = place l n := fun e => by
    obtain ⟨a, b⟩ := there_ex e
    have c := place_at F2.up (A _ a).1
    rw [(A _ a).2.1, b] at c
    exact c
  refine ⟨?_, fun i hi => ⟨fun he => ?_, fun hne => ?_⟩⟩
  · unfold see
    rw [tl]
    split <;> rfl
  · subst he
    have t1 := there_at h.up hi
    have p1 := place_at h.up hi
    refine ⟨?_, t1, p1⟩
    have t2 : there (tak (aft last l (rd_T52 l (i : Int)).f0 bit) (rd_T52 l (i : Int)).f0) (rd_T52 l (i : Int)).f0 = false := by
      refine there_no (fun j hj he => ?_)
      rw [tak, if_pos (tl.trans t1), pl t1, p1] at he hj
      rw [rd_erase] at he
      rw [List.length_eraseIdx_of_lt (A i hi).1] at hj
      replace he := he.trans (A i hi).2.1.symm
      split at he
      · have := F2.up j i (by omega) (A i hi).1; omega
      · have := F2.up i (j + 1) (by omega) (by omega); omega
    rw [see_not t2]
  · by_cases ht : there l n = true
    · obtain ⟨a, b⟩ := there_ex ht
      have hq : place l n ≠ i := fun e => hne (by rw [← e]; exact b)
      have e3 : tak (aft last l n bit) n = (aft last l n bit).eraseIdx (place l n) := by rw [tak, if_pos (tl.trans ht), pl ht]
      rw [e3] at F3 ⊢
      have hlen := List.length_eraseIdx_of_lt (A _ a).1
      have hA := (A i hi).2.2 hne
      by_cases hlt : i < place l n
      · have r1 : rd_T52 ((aft last l n bit).eraseIdx (place l n)) (i : Int) = rd_T52 l (i : Int) := by rw [rd_erase, if_pos hlt, hA]
        have := see_at F3.up (i := i) (by rw [hlen]; have := (A _ a).1; omega)
        rwa [r1] at this
      · have r1 : rd_T52 ((aft last l n bit).eraseIdx (place l n)) ((i - 1 : Nat) : Int) = rd_T52 l (i : Int) := by
          rw [rd_erase, if_neg (by omega), show i - 1 + 1 = i by omega, hA]
        have := see_at F3.up (i := i - 1) (by rw [hlen]; have := (A _ hi).1; omega)
        rwa [r1] at this
    · have hf2 : there (aft last l n bit) n = false := by rw [tl]; simpa using ht
      have e3 : tak (aft last l n bit) n = aft last l n bit := by simp [tak, hf2]
      rw [e3]
      have := see_at F2.up (A i hi).1
      rwa [(A i hi).2.2 hne] at this
/-- How many of the first k letters have the number n. -/
def got (l : List S52) (n : Int) (k : Nat) : Int := if there l n = true ∧ place l n < k then 1 else 0
theorem got_at {l : List S52} (U : Up l) {k : Nat} (hk : k < l.length) : got l (rd_T52 l (k : Int)).f0 k = 0 ∧ got l (rd_T52 l (k : Int)).f0 (k + 1) = 1 := by
  unfold got
  rw [place_at U hk]
  exact ⟨if_neg (by omega), if_pos ⟨there_at U hk, by omega⟩⟩
theorem got_ne {l : List S52} {k : Nat} {n : Int} (hk : k < l.length) (hne : (rd_T52 l (k : Int)).f0 ≠ n) : got l n (k + 1) = got l n k := by
  unfold got
  by_cases ht : there l n = true
  · obtain ⟨a, b⟩ := there_ex ht
    have : place l n ≠ k := fun e => hne (by rw [← e]; exact b)
    by_cases hlt : place l n < k
    · rw [if_pos ⟨ht, by omega⟩, if_pos ⟨ht, hlt⟩]
    · rw [if_neg (by omega), if_neg (by omega)]
  · rw [if_neg (fun h => ht h.1), if_neg (fun h => ht h.1)]
theorem got_all (l : List S52) (n : Int) : got l n l.length = if there l n = true then 1 else 0 := by
  unfold got
  by_cases ht : there l n = true
  · rw [if_pos ⟨ht, (there_ex ht).1⟩, if_pos ht]
  · rw [if_neg (fun h => ht h.1), if_neg ht]
theorem rd_nums {l : List S52} {k : Nat} (hk : k < l.length) : rd (nums l) (k : Int) = (rd_T52 l (k : Int)).f0 := by
  rw [rd_get hk]
  simp [rd, nums, List.getD_eq_getElem?_getD, List.getElem?_eq_getElem hk]
theorem take_snoc (l : List S52) (k : Nat) (h : k < l.length) : l.take (k + 1) = l.take k ++ [rd_T52 l (k : Int)] := by
  rw [rd_get h, List.take_append_getElem]
theorem ne_same (x : S52) (w : World) : (binOp .neq 35 (.agg #[.int .i64 x.f0, .int .i64 x.f1, .int .i64 x.f2, .string x.f3]) (.agg #[.int .i64 x.f0, .int .i64 x.f1, .int .i64 x.f2, .string x.f3])).run Try.prog w = .ok (.bool false) w := by
  have hu35 := Try.underlying35
  go_simp
end Go.Proofs.Ytndjhpkpeklgfaa.PPost
