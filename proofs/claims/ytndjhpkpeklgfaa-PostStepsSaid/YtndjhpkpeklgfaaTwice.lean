/- sextonlaw04.twice: it answers true; and PostNil. -/
import Derived.Test.YtndjhpkpeklgfaaTakes
import Derived.Test.YtndjhpkpeklgfaaFlips
import Derived.Test.YtndjhpkpeklgfaaWaits
import Derived.Test.YtndjhpkpeklgfaaPPostx1
namespace Go.Proofs.Ytndjhpkpeklgfaa.PPost
open Go Go.RowKit Go.Proofs.YtndjhpkpeklgfaaW.PrintWords Go.Proofs.YtndjhpkpeklgfaaW.PrintLast Go.Proofs.YtndjhpkpeklgfaaW.PrintMore Go.Proofs.Ytndjhpkpeklgfaa.Sl
set_option linter.unusedVariables false
set_option linter.unusedSimpArgs false

theorem Then.toBelow {T E : Nat} {w0 w w' : World} {B p : Nat} {o : Option Nat} {nodes last last' : Int} {l l' : List S52} (H : Po T E w B p o nodes last l) (hB : Below B w0 w) (hs : B ≤ w.heap.size) (h : Then T E w w' B p o nodes last' l') : Below B w0 w' := by
  obtain ⟨_, _, k, _⟩ := h
  exact hB.trans (k.toBelow (fun b hb => (H.its b hb).1) hs)
theorem Then.size {T E : Nat} {w w' : World} {B p : Nat} {o : Option Nat} {nodes last : Int} {l : List S52} (h : Then T E w w' B p o nodes last l) : w.heap.size ≤ w'.heap.size := by
  obtain ⟨_, _, k, _⟩ := h
  exact k.size
/-- A post that the call has made: it lies from B on, where the world is as it was. -/
structure Own (w0 w : World) (B p : Nat) (nodes last : Int) (l : List S52) : Prop where
  size0 : B ≤ w.heap.size
  below : Below B w0 w
  po : ∃ o, Po 58 35 w B p o nodes last l
theorem Own.made {w0 w w' : World} {p : Nat} {n : Int} (h : Po 58 35 w' w.heap.size p none n 0 []) (hb : Below w.heap.size w w') (h0 : Below w.heap.size w0 w) : Own w0 w' w.heap.size p n 0 [] := ⟨hb.size, h0.trans hb, none, h⟩
theorem Own.then_ {w0 w w' : World} {B p : Nat} {o : Option Nat} {nodes last last' : Int} {l l' : List S52} (h : Own w0 w B p nodes last l) (H : Po 58 35 w B p o nodes last l) (k : Then 58 35 w w' B p o nodes last' l') : Own w0 w' B p nodes last' l' := by
  refine ⟨Nat.le_trans h.size0 k.size, Then.toBelow H h.below h.size0 k, ?_⟩
  obtain ⟨o', h1, _⟩ := k
  exact ⟨o', h1⟩
theorem Own.step {w0 w w' : World} {B p : Nat} {nodes last : Int} {l : List S52} (h : Own w0 w B p nodes last l) (hb : Below w.heap.size w w') : Own w0 w' B p nodes last l := by
  obtain ⟨o, H⟩ := h.po
  exact ⟨Nat.le_trans h.size0 hb.size, h.below.trans (hb.mono h.size0), o, H.below hb⟩

/-! ### the methods, at a post of one's own -/
theorem own_send {w0 w : World} {B p : Nat} {nodes last : Int} {l : List S52} (h : Own w0 w B p nodes last l) (hl : l.length ≤ 2048) (h0 : 0 ≤ last) (hm : last < 1000000000000000000) (f t : Int) (s : ByteArray) :
    Calls Try.prog 10 #[.pointer (some ⟨p, 0, none⟩), .int .i64 f, .int .i64 t, .string s] w fun e w' => e = .returned (.tuple #[.int .i64 (snd nodes last l f t s).1, .int .i64 (snd nodes last l f t s).2.1]) ∧ Own w0 w' B p nodes (snd nodes last l f t s).2.2.1 (snd nodes last l f t s).2.2.2 := by
  obtain ⟨o, H⟩ := h.po
  exact (send_calls B p o nodes last l f t s w H h.size0 hl h0 hm).mono fun e w' ⟨a, b⟩ => ⟨a, h.then_ H b⟩
theorem own_again {w0 w : World} {B p : Nat} {nodes last : Int} {l : List S52} (h : Own w0 w B p nodes last l) (hl : l.length ≤ 2048) (h0 : 0 ≤ last) (hm : last < 1000000000000000000) (n : Int) :
    Calls Try.prog 11 #[.pointer (some ⟨p, 0, none⟩), .int .i64 n] w fun e w' => e = .returned (.tuple #[.int .i64 (agn last l n).1, .int .i64 (agn last l n).2.1]) ∧ Own w0 w' B p nodes (agn last l n).2.2.1 (agn last l n).2.2.2 := by
  obtain ⟨o, H⟩ := h.po
  exact (again_calls B p o nodes last l n w H h.size0 hl h0 hm).mono fun e w' ⟨a, b⟩ => ⟨a, h.then_ H b⟩
theorem own_take {w0 w : World} {B p : Nat} {nodes last : Int} {l : List S52} (h : Own w0 w B p nodes last l) (hl : l.length ≤ 2048) (n : Int) :
    Calls Try.prog 12 #[.pointer (some ⟨p, 0, none⟩), .int .i64 n] w fun e w' => e = .returned (.tuple #[.agg #[.int .i64 (see l n).1.f0, .int .i64 (see l n).1.f1, .int .i64 (see l n).1.f2, .string (see l n).1.f3], .int .i64 (see l n).2]) ∧ Own w0 w' B p nodes last (tak l n) := by
  obtain ⟨o, H⟩ := h.po
  exact (take_calls B p o nodes last l n w H (by omega)).mono fun e w' ⟨a, b⟩ => ⟨a, h.then_ H b⟩
theorem own_lose {w0 w : World} {B p : Nat} {nodes last : Int} {l : List S52} (h : Own w0 w B p nodes last l) (hl : l.length ≤ 2048) (n : Int) :
    Calls Try.prog 19 #[.pointer (some ⟨p, 0, none⟩), .int .i64 n] w fun e w' => e = .returned (.int .i64 (see l n).2) ∧ Own w0 w' B p nodes last (tak l n) := by
  obtain ⟨o, H⟩ := h.po
  exact (lose_calls B p o nodes last l n w H (by omega)).mono fun e w' ⟨a, b⟩ => ⟨a, h.then_ H b⟩
theorem own_see {w0 w : World} {B p : Nat} {nodes last : Int} {l : List S52} (h : Own w0 w B p nodes last l) (hl : l.length ≤ 2048) (n : Int) :
    Calls Try.prog 14 #[.pointer (some ⟨p, 0, none⟩), .int .i64 n] w fun e w' => e = .returned (.tuple #[.agg #[.int .i64 (see l n).1.f0, .int .i64 (see l n).1.f1, .int .i64 (see l n).1.f2, .string (see l n).1.f3], .int .i64 (see l n).2]) ∧ Own w0 w' B p nodes last l ∧ Below w.heap.size w w' := by
  obtain ⟨o, H⟩ := h.po
  exact (see_calls B p o nodes last l n w H (by omega)).mono fun e w' ⟨a, b⟩ => ⟨a, h.step b, b⟩
theorem own_flip {w0 w : World} {B p : Nat} {nodes last : Int} {l : List S52} (h : Own w0 w B p nodes last l) (hl : l.length ≤ 2048) (hs : ∀ x ∈ l, x.f3.size ≤ 65535) (n bit : Int) :
    Calls Try.prog 13 #[.pointer (some ⟨p, 0, none⟩), .int .i64 n, .int .i64 bit] w fun e w' => e = .returned (.int .i64 (flp l n bit).1) ∧ Own w0 w' B p nodes last (flp l n bit).2 := by
  obtain ⟨o, H⟩ := h.po
  exact (flip_calls B p o nodes last l n bit w H (by omega) hs).mono fun e w' ⟨a, b⟩ => ⟨a, h.then_ H b⟩
theorem own_waiting {w0 w : World} {B p : Nat} {nodes last : Int} {l : List S52} (h : Own w0 w B p nodes last l) (hl : l.length ≤ 2048) :
    Calls Try.prog 15 #[.pointer (some ⟨p, 0, none⟩)] w fun e w' => ∃ v, e = .returned v ∧ Kd.R (Kd.int .i64) 3 w' w.heap.size (fun _ => True) v (nums l) ∧ Own w0 w' B p nodes last l ∧ Below w.heap.size w w' := by
  obtain ⟨o, H⟩ := h.po
  exact (waiting_calls B p o nodes last l w H hl).mono fun e w' ⟨v, a, b, c⟩ => ⟨v, a, b, h.step c, c⟩

def lA : ByteArray := ⟨#[97]⟩
theorem t1 : snd 2 0 [] 0 1 ⟨#[97]⟩ = (1, 0, 1, [⟨1, 0, 1, ⟨#[97]⟩⟩]) := by kernel_rfl
theorem t2 : agn 1 [⟨1, 0, 1, ⟨#[97]⟩⟩] 1 = (2, 0, 2, [⟨1, 0, 1, ⟨#[97]⟩⟩, ⟨2, 0, 1, ⟨#[97]⟩⟩]) := by kernel_rfl
theorem t3 : see [⟨1, 0, 1, ⟨#[97]⟩⟩, ⟨2, 0, 1, ⟨#[97]⟩⟩] 1 = (⟨1, 0, 1, ⟨#[97]⟩⟩, 0) := by kernel_rfl
theorem t4 : tak [⟨1, 0, 1, ⟨#[97]⟩⟩, ⟨2, 0, 1, ⟨#[97]⟩⟩] 1 = [⟨2, 0, 1, ⟨#[97]⟩⟩] := by kernel_rfl
theorem tEq (w : World) : (binOp .eql 35 (.agg #[.int .i64 1, .int .i64 0, .int .i64 1, .string ⟨#[97]⟩]) (.agg #[.int .i64 1, .int .i64 0, .int .i64 1, .string ⟨#[97]⟩])).run Try.prog w = .ok (.bool true) w := by kernel_rfl
theorem int_lit (w : World) (a : Int) : Kd.C (Kd.int .i64) (w.alloc (.cells #[.int .i64 a] 3)) (some ⟨w.heap.size, 0, none⟩) 1 [a] :=
  ⟨rfl, by decide, fun _ => ⟨_, rfl, fun j p hj => by
    cases j with
    | zero =>
      obtain rfl := Option.some.inj hj
      refine ⟨[.int .i64 a], rfl, rfl, fun i u hu => ?_⟩
      cases i with
      | zero => obtain rfl := Option.some.inj hu; simp [add_plain]
      | succ i => simp at hu
    | succ j => simp at hj⟩⟩
theorem t5 : nums [⟨2, 0, 1, ⟨#[97]⟩⟩] = [2] := rfl
theorem ints_two : sextonplain_Ints.f 3 [2] [2] = some true := by kernel_rfl
set_option maxHeartbeats 4000000 in
set_option maxRecDepth 100000 in
theorem twice_calls (w : World) : Calls Try.prog 9 #[] w fun e w' => e = .returned (.bool true) ∧ Below w.heap.size w w' := by
  have hu35 := Try.underlying35
  have teq := tEq
  go_enter Try.func9, Try.ntmps9
  go_wp2_with (first | (go_at_call 8; refine (new_ok 2 _ (by decide) (by decide)).mono ?_; rintro e w1 ⟨p, rfl, hp, hb⟩; have HO1 := Aside0.mk (Own.made hp hb (Below.refl _ _)); clear hp hb) | (go_at_call 10; refine (own_send HO1.out (by decide) (by decide) (by decide) 0 1 ⟨#[97]⟩).mono ?_; rw [t1]; rintro e w2 ⟨rfl, ho⟩; have HO2 := Aside0.mk ho; clear ho) | (go_at_call 11; refine (own_again HO2.out (by decide) (by decide) (by decide) 1).mono ?_; rw [t2]; rintro e w3 ⟨rfl, ho⟩; have HO3 := Aside0.mk ho; clear ho) | (go_at_call 12; refine (own_take HO3.out (by decide) 1).mono ?_; rw [t3, t4]; rintro e w4 ⟨rfl, ho⟩; have HO4 := Aside0.mk ho; clear ho) | ((with_reducible refine gate_dst (N := 7) rfl ?_); (try (refine gate_guard (by rfl) ?_; dsimp only)); refine box_event ?hg (N := 7) ?hd (cs := #[.int .i64 0, .int .i64 0, .int .i64 0, .string ⟨#[]⟩]) (t := 35) ?hr ?_; (case hd => rfl); (case hg => rfl); (case hr => first | (go_simp; done) | (go_simp; rfl)); intro gb hg w5 hbox hb; obtain ⟨g0, g1, g2, g3, e0, e1, e2, e3⟩ := box_cells hbox; have HX := Aside0.mk (And.intro hg (And.intro hb hbox)); clear hb hg hbox) | (go_at_call 15; refine (own_waiting (w0 := w) (B := w.heap.size) (nodes := 2) (last := 2) (l := [⟨2, 0, 1, ⟨#[97]⟩⟩]) ?sO (by decide)).mono ?_; (case sO => exact HO4.out.step (below4 HX.out.2.1 (by have := HX.out.1; omega) _ _ _ _)); rintro e w6 ⟨v, rfl, hR, ho, hb⟩; rw [t5] at hR; obtain ⟨A1, c1, rfl, hc1, hC1⟩ := Kd.R_reads hR; have HW := Aside0.mk (And.intro hc1 (And.intro hC1 ho)); clear hR ho hb hc1 hC1) | (go_at_call 18; refine (sextonplain_Ints.calls 3 A1 c1 [2] (some ⟨w6.heap.size, 0, none⟩) 1 [2] true _ (Kd.C_below HW.out.2.1 (below_alloc (Below.refl _ _) _)) HW.out.1 (int_lit w6 2) (by decide) ints_two).mono ?_; rintro e w7 ⟨rfl, hd⟩; have HD := Aside0.mk hd.below; clear hd))
  go_ret
  exact ⟨rfl, HW.out.2.2.below.trans ((below_alloc (Below.refl _ _) _).mono HW.out.2.2.below.size |>.trans (HD.out.mono (by have := HW.out.2.2.below.size; simp; omega)))⟩
end Go.Proofs.Ytndjhpkpeklgfaa.PPost
