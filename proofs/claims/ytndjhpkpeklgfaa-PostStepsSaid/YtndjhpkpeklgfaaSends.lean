/- post.Send, at, See: what is answered, what the post is behind it. -/
import Derived.Test.YtndjhpkpeklgfaaAdds
import Derived.Test.YtndjhpkpeklgfaaHalve
namespace Go.Proofs.Ytndjhpkpeklgfaa.PPost
open Go Go.RowKit Go.Proofs.YtndjhpkpeklgfaaW.PrintWords Go.Proofs.YtndjhpkpeklgfaaW.PrintLast Go.Proofs.YtndjhpkpeklgfaaW.PrintMore Go.Proofs.Ytndjhpkpeklgfaa.Sl
attribute [local go_sem] max2_int min2_int max_two min_two
set_option linter.unusedVariables false
set_option linter.unusedSimpArgs false

/-- Behind a method: the post is (last, l) now; nothing else that was there has turned. -/
def Then (T E : Nat) (w w' : World) (B p : Nat) (o : Option Nat) (nodes last : Int) (l : List S52) : Prop :=
  ∃ o', Po T E w' B p o' nodes last l ∧ Kp (Its p o) w w' ∧ (o' = o ∨ ∃ b, o' = some b ∧ w.heap.size ≤ b)
theorem Then.same {T E : Nat} {w w' : World} {B p : Nat} {o : Option Nat} {nodes last : Int} {l : List S52} (h : Po T E w B p o nodes last l) (k : Below w.heap.size w w') : Then T E w w' B p o nodes last l :=
  ⟨o, h.below k, Kp.of_below k, .inl rfl⟩
theorem Then.after {T E : Nat} {w w1 w2 : World} {B p : Nat} {o : Option Nat} {nodes last : Int} {l : List S52} (k : Below w.heap.size w w1) (h : Then T E w1 w2 B p o nodes last l) : Then T E w w2 B p o nodes last l := by
  obtain ⟨o', h1, h2, h3⟩ := h
  exact ⟨o', h1, (Kp.of_below k).step h2 (fun b hb => .inl hb), h3.imp_right (fun ⟨b, e, hb⟩ => ⟨b, e, Nat.le_trans k.size hb⟩)⟩
theorem Then.before {T E : Nat} {w w1 w2 : World} {B p : Nat} {o : Option Nat} {nodes last : Int} {l : List S52} (h : Then T E w w1 B p o nodes last l) (k : Below w1.heap.size w1 w2) : Then T E w w2 B p o nodes last l := by
  obtain ⟨o', h1, h2, h3⟩ := h
  exact ⟨o', h1.below k, h2.below k, h3⟩

def snd (nodes last : Int) (l : List S52) (from_ to_ : Int) (body : ByteArray) : Int × Int × Int × List S52 :=
  if from_ < 0 ∨ to_ < 0 ∨ nodes ≤ from_ ∨ nodes ≤ to_ then (0, 1, last, l) else if 65535 < body.size then (0, 2, last, l) else if l.length = 2048 then (0, 5, last, l) else (last + 1, 0, last + 1, l ++ [⟨last + 1, from_, to_, body⟩])

theorem send_bad (B p : Nat) (o : Option Nat) (nodes last : Int) (l : List S52) (f t : Int) (s : ByteArray) (w : World) (H : Po 58 35 w B p o nodes last l) (h : f < 0 ∨ t < 0 ∨ nodes ≤ f ∨ nodes ≤ t) :
    Calls Try.prog 10 #[.pointer (some ⟨p, 0, none⟩), .int .i64 f, .int .i64 t, .string s] w fun e w' => e = .returned (.tuple #[.int .i64 0, .int .i64 1]) ∧ Below w.heap.size w w' := by
  obtain ⟨v, h1, h2, h3, h4, h5⟩ := H
  have c0 : w.cell? ⟨p, 0, none⟩ = some (.int .i64 nodes) := (blk_cell h2 0).trans rfl
  clear h1 h2 h3 h4 h5
  go_enter Try.func10, Try.ntmps10
  go_wp2
  all_goals first | (go_ret2; exact ⟨rfl, Below.refl _ _⟩) | (exfalso; omega)
theorem send_long (B p : Nat) (o : Option Nat) (nodes last : Int) (l : List S52) (f t : Int) (s : ByteArray) (w : World) (H : Po 58 35 w B p o nodes last l) (h0 : 0 ≤ f) (h1 : 0 ≤ t) (h2 : f < nodes) (h3 : t < nodes) (hs : 65535 < s.size) :
    Calls Try.prog 10 #[.pointer (some ⟨p, 0, none⟩), .int .i64 f, .int .i64 t, .string s] w fun e w' => e = .returned (.tuple #[.int .i64 0, .int .i64 2]) ∧ Below w.heap.size w w' := by
  obtain ⟨v, g1, g2, g3, g4, g5⟩ := H
  have c0 : w.cell? ⟨p, 0, none⟩ = some (.int .i64 nodes) := (blk_cell g2 0).trans rfl
  have hs' : (65535 : Int) < (s.size : Int) := by omega
  clear g1 g2 g3 g4 g5
  go_enter Try.func10, Try.ntmps10
  go_wp2
  all_goals first | (go_ret2; exact ⟨rfl, Below.refl _ _⟩) | (exfalso; omega)
set_option maxHeartbeats 4000000 in
theorem send_full (B p : Nat) (o : Option Nat) (nodes last : Int) (l : List S52) (f t : Int) (s : ByteArray) (w : World) (H : Po 58 35 w B p o nodes last l) (h0 : 0 ≤ f) (h1 : 0 ≤ t) (h2 : f < nodes) (h3 : t < nodes) (hs : s.size ≤ 65535) (hl : l.length = 2048) :
    Calls Try.prog 10 #[.pointer (some ⟨p, 0, none⟩), .int .i64 f, .int .i64 t, .string s] w fun e w' => e = .returned (.tuple #[.int .i64 0, .int .i64 5]) ∧ Below w.heap.size w w' := by
  have HH := Aside0.mk H
  obtain ⟨v, g1, g2, g3, g4, g5⟩ := H
  have c0 : w.cell? ⟨p, 0, none⟩ = some (.int .i64 nodes) := (blk_cell g2 0).trans rfl
  have hs' : (s.size : Int) ≤ 65535 := by omega
  have HL := Aside0.mk hl
  clear g1 g2 g3 g4 g5 hl
  go_enter Try.func10, Try.ntmps10
  go_wp2_with (go_at_call 20; refine (add_full B p o nodes last l ⟨0, f, t, s⟩ _ HH.out HL.out).mono ?_; rintro e w' ⟨rfl, hb⟩)
  all_goals first | (go_ret2; exact ⟨rfl, hb⟩) | (exfalso; omega)
set_option maxHeartbeats 4000000 in
theorem send_room (B p : Nat) (o : Option Nat) (nodes last : Int) (l : List S52) (f t : Int) (s : ByteArray) (w : World) (H : Po 58 35 w B p o nodes last l) (hB : B ≤ w.heap.size) (h0 : 0 ≤ f) (h1 : 0 ≤ t) (h2 : f < nodes) (h3 : t < nodes) (hs : s.size ≤ 65535) (hl : l.length < 2048) (hl0 : 0 ≤ last) (hm : last < 1000000000000000000) :
    Calls Try.prog 10 #[.pointer (some ⟨p, 0, none⟩), .int .i64 f, .int .i64 t, .string s] w fun e w' => e = .returned (.tuple #[.int .i64 (last + 1), .int .i64 0]) ∧ Then 58 35 w w' B p o nodes (last + 1) (l ++ [⟨last + 1, f, t, s⟩]) := by
  have HH := Aside0.mk H
  obtain ⟨v, g1, g2, g3, g4, g5⟩ := H
  have c0 : w.cell? ⟨p, 0, none⟩ = some (.int .i64 nodes) := (blk_cell g2 0).trans rfl
  have hs' : (s.size : Int) ≤ 65535 := by omega
  have HL := Aside0.mk (And.intro hB (And.intro hl (And.intro hl0 hm)))
  clear g1 g2 g3 g4 g5 hl hB hl0 hm
  go_enter Try.func10, Try.ntmps10
  go_wp2_with (go_at_call 20; refine (add_room B p o nodes last l ⟨0, f, t, s⟩ _ HH.out HL.out.1 HL.out.2.1 HL.out.2.2.1 HL.out.2.2.2).mono ?_; rintro e w' ⟨rfl, hb⟩; have HB := Aside0.mk hb; clear hb)
  all_goals first | (go_ret2; exact ⟨rfl, HB.out⟩) | (exfalso; omega)
/-- post.Send. -/
theorem send_calls (B p : Nat) (o : Option Nat) (nodes last : Int) (l : List S52) (f t : Int) (s : ByteArray) (w : World) (H : Po 58 35 w B p o nodes last l) (hB : B ≤ w.heap.size) (hl : l.length ≤ 2048) (hl0 : 0 ≤ last) (hm : last < 1000000000000000000) :
    Calls Try.prog 10 #[.pointer (some ⟨p, 0, none⟩), .int .i64 f, .int .i64 t, .string s] w fun e w' => e = .returned (.tuple #[.int .i64 (snd nodes last l f t s).1, .int .i64 (snd nodes last l f t s).2.1]) ∧ Then 58 35 w w' B p o nodes (snd nodes last l f t s).2.2.1 (snd nodes last l f t s).2.2.2 := by
  unfold snd
  by_cases c1 : f < 0 ∨ t < 0 ∨ nodes ≤ f ∨ nodes ≤ t
  · simp only [if_pos c1]
    exact (send_bad B p o nodes last l f t s w H c1).mono fun e w' ⟨h, hb⟩ => ⟨h, .same H hb⟩
  · simp only [if_neg c1]
    by_cases c2 : 65535 < s.size
    · simp only [if_pos c2]
      exact (send_long B p o nodes last l f t s w H (by omega) (by omega) (by omega) (by omega) c2).mono fun e w' ⟨h, hb⟩ => ⟨h, .same H hb⟩
    · simp only [if_neg c2]
      by_cases c3 : l.length = 2048
      · simp only [if_pos c3]
        exact (send_full B p o nodes last l f t s w H (by omega) (by omega) (by omega) (by omega) (by omega) c3).mono fun e w' ⟨h, hb⟩ => ⟨h, .same H hb⟩
      · simp only [if_neg c3]
        exact send_room B p o nodes last l f t s w H hB (by omega) (by omega) (by omega) (by omega) (by omega) (by omega) hl0 hm
theorem send_nil (f t : Int) (s : ByteArray) (w : World) : Calls Try.prog 10 #[.pointer none, .int .i64 f, .int .i64 t, .string s] w fun e w' => e = .returned (.tuple #[.int .i64 0, .int .i64 1]) ∧ Below w.heap.size w w' := by
  go_enter Try.func10, Try.ntmps10
  go_wp2
  go_ret2
  exact ⟨rfl, Below.refl _ _⟩

/-! ### at -/
/-- The place of a letter, by halving; and whether it is there. -/
def there (l : List S52) (n : Int) : Bool := decide (place l n < l.length) && decide ((rd_T52 l ((place l n : Nat) : Int)).f0 = n)
theorem at_calls (B p : Nat) (o : Option Nat) (nodes last : Int) (l : List S52) (n : Int) (w : World) (H : Po 58 35 w B p o nodes last l) (hl : l.length ≤ 1000000000000) :
    Calls Try.prog 21 #[.pointer (some ⟨p, 0, none⟩), .int .i64 n] w fun e w' => e = .returned (.tuple #[.int .i64 (if there l n = true then (place l n : Nat) else 0), .int .i64 (if there l n = true then 0 else 6)]) ∧ Below w.heap.size w w' := by
  obtain ⟨v, h1, h2, h3, h4, h5⟩ := H
  obtain ⟨A, c, rfl⟩ := Kd.R_slice h5
  have c2 : w.cell? ⟨p, 2, none⟩ = some (.slice A l.length c) := (blk_cell h2 2).trans rfl
  obtain ⟨_, hlc, hC⟩ := Kd.R_reads' h5
  have HC := Aside0.mk (And.intro hC (And.intro hlc hl))
  clear h1 h2 h3 h4 h5 hC hlc hl
  cases ht : there l n with
  | true =>
    have ht' := Aside0.mk ht
    unfold there at ht
    clear ht
    go_enter Try.func21, Try.ntmps21
    go_wp2_with (go_at_call 29; refine (search_calls A c l n _ HC.out.1 HC.out.2.1 HC.out.2.2).mono ?_; rintro e w' ⟨rfl, hb⟩; have HB := Aside0.mk hb; clear hb; have hb' : (decide (place l n < l.length) && decide ((rd_T52 l ((place l n : Nat) : Int)).f0 = n)) = true := ht'.out; rw [hb'])
    go_ret2
    exact ⟨rfl, HB.out⟩
  | false =>
    have ht' := Aside0.mk ht
    clear ht
    go_enter Try.func21, Try.ntmps21
    go_wp2_with (go_at_call 29; refine (search_calls A c l n _ HC.out.1 HC.out.2.1 HC.out.2.2).mono ?_; rintro e w' ⟨rfl, hb⟩; have HB := Aside0.mk hb; clear hb; have hb' : (decide (place l n < l.length) && decide ((rd_T52 l ((place l n : Nat) : Int)).f0 = n)) = false := ht'.out; rw [hb'])
    go_ret2
    exact ⟨rfl, HB.out⟩
theorem at_yes (B p : Nat) (o : Option Nat) (nodes last : Int) (l : List S52) (n : Int) (w : World) (H : Po 58 35 w B p o nodes last l) (hl : l.length ≤ 1000000000000) (ht : there l n = true) :
    Calls Try.prog 21 #[.pointer (some ⟨p, 0, none⟩), .int .i64 n] w fun e w' => e = .returned (.tuple #[.int .i64 (place l n : Nat), .int .i64 0]) ∧ Below w.heap.size w w' := by
  have := at_calls B p o nodes last l n w H hl
  simp only [ht, if_true] at this
  exact this
theorem at_no (B p : Nat) (o : Option Nat) (nodes last : Int) (l : List S52) (n : Int) (w : World) (H : Po 58 35 w B p o nodes last l) (hl : l.length ≤ 1000000000000) (ht : there l n = false) :
    Calls Try.prog 21 #[.pointer (some ⟨p, 0, none⟩), .int .i64 n] w fun e w' => e = .returned (.tuple #[.int .i64 0, .int .i64 6]) ∧ Below w.heap.size w w' := by
  have := at_calls B p o nodes last l n w H hl
  simp only [ht] at this
  exact this
theorem there_lt {l : List S52} {n : Int} (h : there l n = true) : place l n < l.length := by
  unfold there at h
  rw [Bool.and_eq_true] at h
  exact of_decide_eq_true h.1
theorem at_nil (n : Int) (w : World) : Calls Try.prog 21 #[.pointer none, .int .i64 n] w fun e w' => e = .returned (.tuple #[.int .i64 0, .int .i64 6]) ∧ Below w.heap.size w w' := by
  go_enter Try.func21, Try.ntmps21
  go_wp2
  go_ret2
  exact ⟨rfl, Below.refl _ _⟩
end Go.Proofs.Ytndjhpkpeklgfaa.PPost
