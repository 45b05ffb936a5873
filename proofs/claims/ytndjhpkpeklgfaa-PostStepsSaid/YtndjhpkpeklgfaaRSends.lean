/- The reference's Send and Again: the post's. -/
import Derived.Test.YtndjhpkpeklgfaaRSees
namespace Go.Proofs.Ytndjhpkpeklgfaa.PPost
open Go Go.RowKit Go.Proofs.YtndjhpkpeklgfaaW.PrintWords Go.Proofs.YtndjhpkpeklgfaaW.PrintLast Go.Proofs.YtndjhpkpeklgfaaW.PrintMore Go.Proofs.Ytndjhpkpeklgfaa.Sl
set_option linter.unusedVariables false
set_option linter.unusedSimpArgs false
theorem rsee_no (B p : Nat) (o : Option Nat) (nodes last : Int) (l : List S52) (n : Int) (w : World) (H : Po 51 52 w B p o nodes last l) (U : Up l) (hl : l.length ≤ 2048) (ht : there l n = false) :
    Calls Try.prog 28 #[.pointer (some ⟨p, 0, none⟩), .int .i64 n] w fun e w' => e = .returned (.tuple #[.agg #[.int .i64 0, .int .i64 0, .int .i64 0, .string ⟨#[]⟩], .int .i64 6]) ∧ Below w.heap.size w w' := by
  have h := rsee_calls B p o nodes last l n w H U hl
  rw [see_not ht] at h
  exact h
theorem rsee_yes (B p : Nat) (o : Option Nat) (nodes last : Int) (l : List S52) (n : Int) (w : World) (H : Po 51 52 w B p o nodes last l) (U : Up l) (hl : l.length ≤ 2048) (ht : there l n = true) :
    Calls Try.prog 28 #[.pointer (some ⟨p, 0, none⟩), .int .i64 n] w fun e w' => e = .returned (.tuple #[.agg (let4 (rd_T52 l ((place l n : Nat) : Int))), .int .i64 0]) ∧ Below w.heap.size w w' := by
  have h := rsee_calls B p o nodes last l n w H U hl
  rw [show see l n = (rd_T52 l ((place l n : Nat) : Int), 0) by rw [see, if_pos ht]] at h
  exact h
def nd (nodes i : Int) : Bool := decide (0 ≤ i ∧ i < nodes)
theorem nd_yes {nodes i : Int} (h0 : 0 ≤ i) (h1 : i < nodes) : nd nodes i = true := by simp [nd, h0, h1]
theorem nd_no {nodes i : Int} (h : i < 0 ∨ nodes ≤ i) : nd nodes i = false := by unfold nd; simp; omega
theorem rnode_calls (B p : Nat) (o : Option Nat) (nodes last : Int) (l : List S52) (i : Int) (w : World) (H : Po 51 52 w B p o nodes last l) :
    Calls Try.prog 32 #[.pointer (some ⟨p, 0, none⟩), .int .i64 i] w fun e w' => e = .returned (.bool (nd nodes i)) ∧ w' = w := by
  obtain ⟨v, g1, g2, g3, g4, g5⟩ := H
  have c0 : w.cell? ⟨p, 0, none⟩ = some (.int .i64 nodes) := (blk_cell g2 0).trans rfl
  clear g1 g2 g3 g4 g5
  by_cases h0 : 0 ≤ i
  · by_cases h1 : i < nodes
    · rw [nd_yes h0 h1]
      go_enter Try.func32, Try.ntmps32
      go_wp2
      all_goals first | (go_ret; exact ⟨by simp [h0, h1], rfl⟩) | (exfalso; omega)
    · rw [nd_no (by omega)]
      go_enter Try.func32, Try.ntmps32
      go_wp2
      all_goals first | (go_ret; exact ⟨by simp [h1], rfl⟩) | (exfalso; omega)
  · rw [nd_no (by omega)]
    go_enter Try.func32, Try.ntmps32
    go_wp2
    all_goals first | (go_ret; exact ⟨by simp [h0], rfl⟩) | (exfalso; omega)
set_option maxHeartbeats 1000000 in
theorem rsend_bad (B p : Nat) (o : Option Nat) (nodes last : Int) (l : List S52) (f t : Int) (s : ByteArray) (w : World) (H : Po 51 52 w B p o nodes last l) (h : f < 0 ∨ t < 0 ∨ nodes ≤ f ∨ nodes ≤ t) :
    Calls Try.prog 23 #[.pointer (some ⟨p, 0, none⟩), .int .i64 f, .int .i64 t, .string s] w fun e w' => e = .returned (.tuple #[.int .i64 0, .int .i64 1]) ∧ Below w.heap.size w w' := by
  have HH := Aside0.mk H
  clear H
  by_cases hf : f < 0 ∨ nodes ≤ f
  · have hnf := nd_no hf
    have hnt := hnf
    clear hf h
    go_enter Try.func23, Try.ntmps23
    go_wp2_with (first | (go_at_call 32; refine (rnode_calls B p o nodes last l _ _ HH.out).mono ?_; rintro e w9 ⟨rfl, rfl⟩; first | rw [hnf] | rw [hnt]))
    go_ret2
    exact ⟨rfl, Below.refl _ _⟩
  · have hnf := nd_yes (nodes := nodes) (i := f) (by omega) (by omega)
    have hnt := nd_no (nodes := nodes) (i := t) (by omega)
    clear h hf
    go_enter Try.func23, Try.ntmps23
    go_wp2_with (first | (go_at_call 32; refine (rnode_calls B p o nodes last l _ _ HH.out).mono ?_; rintro e w9 ⟨rfl, rfl⟩; first | rw [hnf] | rw [hnt]))
    go_ret2
    exact ⟨rfl, Below.refl _ _⟩
set_option maxHeartbeats 1000000 in
theorem rsend_long (B p : Nat) (o : Option Nat) (nodes last : Int) (l : List S52) (f t : Int) (s : ByteArray) (w : World) (H : Po 51 52 w B p o nodes last l) (h0 : 0 ≤ f) (h1 : 0 ≤ t) (h2 : f < nodes) (h3 : t < nodes) (hs : 65535 < s.size) :
    Calls Try.prog 23 #[.pointer (some ⟨p, 0, none⟩), .int .i64 f, .int .i64 t, .string s] w fun e w' => e = .returned (.tuple #[.int .i64 0, .int .i64 2]) ∧ Below w.heap.size w w' := by
  have HH := Aside0.mk H
  clear H
  have hnf := nd_yes h0 h2
  have hnt := nd_yes h1 h3
  have hs' : (65535 : Int) < (s.size : Int) := by omega
  go_enter Try.func23, Try.ntmps23
  go_wp2_with (first | (go_at_call 32; refine (rnode_calls B p o nodes last l _ _ HH.out).mono ?_; rintro e w9 ⟨rfl, rfl⟩; first | rw [hnf] | rw [hnt]))
  all_goals first | (go_ret2; exact ⟨rfl, Below.refl _ _⟩) | (exfalso; omega)
set_option maxHeartbeats 1000000 in
theorem rsend_full (B p : Nat) (o : Option Nat) (nodes last : Int) (l : List S52) (f t : Int) (s : ByteArray) (w : World) (H : Po 51 52 w B p o nodes last l) (h0 : 0 ≤ f) (h1 : 0 ≤ t) (h2 : f < nodes) (h3 : t < nodes) (hs : s.size ≤ 65535) (hl : l.length = 2048) :
    Calls Try.prog 23 #[.pointer (some ⟨p, 0, none⟩), .int .i64 f, .int .i64 t, .string s] w fun e w' => e = .returned (.tuple #[.int .i64 0, .int .i64 5]) ∧ Below w.heap.size w w' := by
  have HH := Aside0.mk H
  obtain ⟨v, g1, g2, g3, g4, g5⟩ := H
  have hnf := nd_yes h0 h2
  have hnt := nd_yes h1 h3
  have c0 : w.cell? ⟨p, 0, none⟩ = some (.int .i64 nodes) := (blk_cell g2 0).trans rfl
  have hs' : (s.size : Int) ≤ 65535 := by omega
  have HL := Aside0.mk hl
  clear g1 g2 g3 g4 g5 hl
  go_enter Try.func23, Try.ntmps23
  go_wp2_with (first | (go_at_call 32; refine (rnode_calls B p o nodes last l _ _ HH.out).mono ?_; rintro e w9 ⟨rfl, rfl⟩; first | rw [hnf] | rw [hnt]) | (go_at_call 33; refine (radd_full B p o nodes last l ⟨0, f, t, s⟩ _ HH.out HL.out).mono ?_; rintro e w' ⟨rfl, hb⟩))
  all_goals first | (go_ret2; exact ⟨rfl, hb⟩) | (exfalso; omega)
set_option maxHeartbeats 4000000 in
theorem rsend_room (B p : Nat) (o : Option Nat) (nodes last : Int) (l : List S52) (f t : Int) (s : ByteArray) (w : World) (H : Po 51 52 w B p o nodes last l) (hB : B ≤ w.heap.size) (h0 : 0 ≤ f) (h1 : 0 ≤ t) (h2 : f < nodes) (h3 : t < nodes) (hs : s.size ≤ 65535) (hl : l.length < 2048) (hl0 : 0 ≤ last) (hm : last < 1000000000000000000) :
    Calls Try.prog 23 #[.pointer (some ⟨p, 0, none⟩), .int .i64 f, .int .i64 t, .string s] w fun e w' => e = .returned (.tuple #[.int .i64 (last + 1), .int .i64 0]) ∧ Then 51 52 w w' B p o nodes (last + 1) (l ++ [⟨last + 1, f, t, s⟩]) := by
  have HH := Aside0.mk H
  obtain ⟨v, g1, g2, g3, g4, g5⟩ := H
  have hnf := nd_yes h0 h2
  have hnt := nd_yes h1 h3
  have c0 : w.cell? ⟨p, 0, none⟩ = some (.int .i64 nodes) := (blk_cell g2 0).trans rfl
  have hs' : (s.size : Int) ≤ 65535 := by omega
  have HL := Aside0.mk (And.intro hB (And.intro hl (And.intro hl0 hm)))
  clear g1 g2 g3 g4 g5 hl hB hl0 hm
  go_enter Try.func23, Try.ntmps23
  go_wp2_with (first | (go_at_call 32; refine (rnode_calls B p o nodes last l _ _ HH.out).mono ?_; rintro e w9 ⟨rfl, rfl⟩; first | rw [hnf] | rw [hnt]) | (go_at_call 33; refine (radd_room B p o nodes last l ⟨0, f, t, s⟩ _ HH.out HL.out.1 HL.out.2.1 HL.out.2.2.1 HL.out.2.2.2).mono ?_; rintro e w' ⟨rfl, hb⟩; have HB := Aside0.mk hb; clear hb))
  all_goals first | (go_ret2; exact ⟨rfl, HB.out⟩) | (exfalso; omega)
/-- post.Send. -/
theorem rsend_calls (B p : Nat) (o : Option Nat) (nodes last : Int) (l : List S52) (f t : Int) (s : ByteArray) (w : World) (H : Po 51 52 w B p o nodes last l) (hB : B ≤ w.heap.size) (hl : l.length ≤ 2048) (hl0 : 0 ≤ last) (hm : last < 1000000000000000000) :
    Calls Try.prog 23 #[.pointer (some ⟨p, 0, none⟩), .int .i64 f, .int .i64 t, .string s] w fun e w' => e = .returned (.tuple #[.int .i64 (snd nodes last l f t s).1, .int .i64 (snd nodes last l f t s).2.1]) ∧ Then 51 52 w w' B p o nodes (snd nodes last l f t s).2.2.1 (snd nodes last l f t s).2.2.2 := by
  unfold snd
  by_cases c1 : f < 0 ∨ t < 0 ∨ nodes ≤ f ∨ nodes ≤ t
  · simp only [if_pos c1]
    exact (rsend_bad B p o nodes last l f t s w H c1).mono fun e w' ⟨h, hb⟩ => ⟨h, .same H hb⟩
  · simp only [if_neg c1]
    by_cases c2 : 65535 < s.size
    · simp only [if_pos c2]
      exact (rsend_long B p o nodes last l f t s w H (by omega) (by omega) (by omega) (by omega) c2).mono fun e w' ⟨h, hb⟩ => ⟨h, .same H hb⟩
    · simp only [if_neg c2]
      by_cases c3 : l.length = 2048
      · simp only [if_pos c3]
        exact (rsend_full B p o nodes last l f t s w H (by omega) (by omega) (by omega) (by omega) (by omega) c3).mono fun e w' ⟨h, hb⟩ => ⟨h, .same H hb⟩
      · simp only [if_neg c3]
        exact rsend_room B p o nodes last l f t s w H hB (by omega) (by omega) (by omega) (by omega) (by omega) (by omega) hl0 hm
set_option maxHeartbeats 1000000 in
theorem ragain_no (B p : Nat) (o : Option Nat) (nodes last : Int) (l : List S52) (n : Int) (w : World) (H : Po 51 52 w B p o nodes last l) (U : Up l) (hl : l.length ≤ 2048) (ht : there l n = false) :
    Calls Try.prog 26 #[.pointer (some ⟨p, 0, none⟩), .int .i64 n] w fun e w' => e = .returned (.tuple #[.int .i64 0, .int .i64 6]) ∧ Below w.heap.size w w' := by
  have hu52 := Try.underlying52
  have HH := Aside0.mk (And.intro H (And.intro (And.intro U (show l.length ≤ 2048 by omega)) ht))
  clear H U hl ht
  go_enter Try.func26, Try.ntmps26
  go_wp2_with (first | ((with_reducible refine gate_dst (N := 6) rfl ?_); (try (refine gate_guard (by rfl) ?_; dsimp only)); refine box_event ?hg (N := 6) ?hd (cs := #[.int .i64 0, .int .i64 0, .int .i64 0, .string ⟨#[]⟩]) (t := 52) ?hr ?_; (case hd => rfl); (case hg => rfl); (case hr => first | (go_simp; done) | (go_simp; rfl)); intro gb hg w3 hbox hb; obtain ⟨g0, g1, g2, g3, e0, e1, e2, e3⟩ := box_cells hbox; have HX := Aside0.mk (And.intro hg (And.intro hb hbox)); clear hb hg hbox) | (go_at_call 28; refine (rsee_no B p o nodes last l n _ HH.out.1 HH.out.2.1.1 HH.out.2.1.2 HH.out.2.2).mono ?_; rintro e w' ⟨rfl, hb⟩; have HB := Aside0.mk hb; clear hb))
  go_ret2
  exact ⟨rfl, HB.out.trans (below4 (HX.out.2.1.mono HB.out.size) (by have := HX.out.1; have := HB.out.size; omega) _ _ _ _)⟩
set_option maxHeartbeats 4000000 in
theorem ragain_full (B p : Nat) (o : Option Nat) (nodes last : Int) (l : List S52) (n : Int) (w : World) (H : Po 51 52 w B p o nodes last l) (U : Up l) (hl : l.length = 2048) (ht : there l n = true) :
    Calls Try.prog 26 #[.pointer (some ⟨p, 0, none⟩), .int .i64 n] w fun e w' => e = .returned (.tuple #[.int .i64 0, .int .i64 5]) ∧ Below w.heap.size w w' := by
  have hu52 := Try.underlying52
  obtain ⟨x, hx⟩ : ∃ x, x = rd_T52 l ((place l n : Nat) : Int) := ⟨_, rfl⟩
  have HH := Aside0.mk (And.intro H (And.intro (And.intro U (show l.length ≤ 2048 by omega)) (And.intro ht (And.intro hl hx))))
  clear H U hl ht hx
  go_enter Try.func26, Try.ntmps26
  go_wp2_with (first | ((with_reducible refine gate_dst (N := 6) rfl ?_); (try (refine gate_guard (by rfl) ?_; dsimp only)); refine box_event ?hg (N := 6) ?hd (cs := #[.int .i64 0, .int .i64 0, .int .i64 0, .string ⟨#[]⟩]) (t := 52) ?hr ?_; (case hd => rfl); (case hg => rfl); (case hr => first | (go_simp; done) | (go_simp; rfl)); intro gb hg w3 hbox hb; obtain ⟨g0, g1, g2, g3, e0, e1, e2, e3⟩ := box_cells hbox; have HX := Aside0.mk (And.intro hg (And.intro hb hbox)); clear hb hg hbox) | (go_at_call 28; refine (rsee_yes B p o nodes last l n _ HH.out.1 HH.out.2.1.1 HH.out.2.1.2 HH.out.2.2.1).mono ?_; rintro e w' ⟨rfl, hb⟩; have HB := Aside0.mk hb; clear hb; unfold let4; rw [← HH.out.2.2.2.2]) | (go_at_call 33; refine (radd_full B p o nodes last l x _ ?sP HH.out.2.2.2.1).mono ?_; (case sP => exact HH.out.1.below (HB.out.trans (below4 (HX.out.2.1.mono HB.out.size) (by have := HX.out.1; have := HB.out.size; omega) _ _ _ _))); rintro e w7 ⟨rfl, h7⟩; have H7 := Aside0.mk h7; clear h7))
  go_ret2
  have q := HB.out.trans (below4 (g := gb) (HX.out.2.1.mono HB.out.size) (by have := HX.out.1; have := HB.out.size; omega) (.int .i64 x.f0) (.int .i64 x.f1) (.int .i64 x.f2) (.string x.f3))
  exact ⟨rfl, q.trans (H7.out.mono q.size)⟩
set_option maxHeartbeats 4000000 in
theorem ragain_room (B p : Nat) (o : Option Nat) (nodes last : Int) (l : List S52) (n : Int) (w : World) (H : Po 51 52 w B p o nodes last l) (U : Up l) (hB : B ≤ w.heap.size) (hl : l.length < 2048) (ht : there l n = true) (h0 : 0 ≤ last) (hm : last < 1000000000000000000) :
    Calls Try.prog 26 #[.pointer (some ⟨p, 0, none⟩), .int .i64 n] w fun e w' => e = .returned (.tuple #[.int .i64 (last + 1), .int .i64 0]) ∧ Then 51 52 w w' B p o nodes (last + 1) (l ++ [⟨last + 1, (rd_T52 l ((place l n : Nat) : Int)).f1, (rd_T52 l ((place l n : Nat) : Int)).f2, (rd_T52 l ((place l n : Nat) : Int)).f3⟩]) := by
  have hu52 := Try.underlying52
  obtain ⟨x, hx⟩ : ∃ x, x = rd_T52 l ((place l n : Nat) : Int) := ⟨_, rfl⟩
  rw [← hx]
  have HH := Aside0.mk (And.intro H (And.intro (And.intro U (show l.length ≤ 2048 by omega)) (And.intro ht (And.intro hl (And.intro hx (And.intro hB (And.intro h0 hm)))))))
  clear H U hl ht hx hB h0 hm
  go_enter Try.func26, Try.ntmps26
  go_wp2_with (first | ((with_reducible refine gate_dst (N := 6) rfl ?_); (try (refine gate_guard (by rfl) ?_; dsimp only)); refine box_event ?hg (N := 6) ?hd (cs := #[.int .i64 0, .int .i64 0, .int .i64 0, .string ⟨#[]⟩]) (t := 52) ?hr ?_; (case hd => rfl); (case hg => rfl); (case hr => first | (go_simp; done) | (go_simp; rfl)); intro gb hg w3 hbox hb; obtain ⟨g0, g1, g2, g3, e0, e1, e2, e3⟩ := box_cells hbox; have HX := Aside0.mk (And.intro hg (And.intro hb hbox)); clear hb hg hbox) | (go_at_call 28; refine (rsee_yes B p o nodes last l n _ HH.out.1 HH.out.2.1.1 HH.out.2.1.2 HH.out.2.2.1).mono ?_; rintro e w' ⟨rfl, hb⟩; have HB := Aside0.mk hb; clear hb; unfold let4; rw [← HH.out.2.2.2.2.1]) | (go_at_call 33; refine (radd_room B p o nodes last l x _ ?sP ?sB HH.out.2.2.2.1 HH.out.2.2.2.2.2.2.1 HH.out.2.2.2.2.2.2.2).mono ?_; (case sP => exact HH.out.1.below (HB.out.trans (below4 (HX.out.2.1.mono HB.out.size) (by have := HX.out.1; have := HB.out.size; omega) _ _ _ _))); (case sB => exact Nat.le_trans HH.out.2.2.2.2.2.1 (HB.out.trans (below4 (HX.out.2.1.mono HB.out.size) (by have := HX.out.1; have := HB.out.size; omega) _ _ _ _)).size); rintro e w7 ⟨rfl, h7⟩; have H7 := Aside0.mk h7; clear h7))
  go_ret2
  have q := HB.out.trans (below4 (g := gb) (HX.out.2.1.mono HB.out.size) (by have := HX.out.1; have := HB.out.size; omega) (.int .i64 x.f0) (.int .i64 x.f1) (.int .i64 x.f2) (.string x.f3))
  exact ⟨rfl, Then.after q H7.out⟩
theorem ragain_calls (B p : Nat) (o : Option Nat) (nodes last : Int) (l : List S52) (n : Int) (w : World) (H : Po 51 52 w B p o nodes last l) (U : Up l) (hB : B ≤ w.heap.size) (hl : l.length ≤ 2048) (h0 : 0 ≤ last) (hm : last < 1000000000000000000) :
    Calls Try.prog 26 #[.pointer (some ⟨p, 0, none⟩), .int .i64 n] w fun e w' => e = .returned (.tuple #[.int .i64 (agn last l n).1, .int .i64 (agn last l n).2.1]) ∧ Then 51 52 w w' B p o nodes (agn last l n).2.2.1 (agn last l n).2.2.2 := by
  unfold agn
  cases ht : there l n with
  | false => exact (ragain_no B p o nodes last l n w H U hl ht).mono fun e w' ⟨h, hb⟩ => ⟨h, .same H hb⟩
  | true =>
    simp only [if_true, see, ht]
    by_cases c : l.length = 2048
    · simp only [if_pos c]
      exact (ragain_full B p o nodes last l n w H U c ht).mono fun e w' ⟨h, hb⟩ => ⟨h, .same H hb⟩
    · simp only [if_neg c]
      exact ragain_room B p o nodes last l n w H U hB (by omega) ht h0 hm
end Go.Proofs.Ytndjhpkpeklgfaa.PPost
