/- A post in memory: its letters in a row of its own; what stays as it was. -/
import Derived.WalkKit
import Derived.Lib.Hide
import Derived.Lib.Walk
import Derived.KernelRfl
import Derived.Test.YtndjhpkpeklgfaaSl
import Derived.Test.YtndjhpkpeklgfaaPPostx0
import Derived.Test.YtndjhpkpeklgfaaWInvWords
namespace Go.Proofs.Ytndjhpkpeklgfaa.PPost
open Go Go.RowKit Go.Proofs.YtndjhpkpeklgfaaW.PrintWords Go.Proofs.YtndjhpkpeklgfaaW.PrintLast Go.Proofs.YtndjhpkpeklgfaaW.PrintMore Go.Proofs.Ytndjhpkpeklgfaa.Sl
set_option linter.unusedVariables false
set_option linter.unusedSimpArgs false

abbrev S35 := S52
abbrev k35 : Kd S35 := k52
theorem k35_open {w : World} {x : S35} {cs : List Value} (h : k35.K w x cs) : cs = [.int .i64 x.f0, .int .i64 x.f1, .int .i64 x.f2, .string x.f3] := k52_open h
theorem k35_openM {w : World} {base : Nat} {ok : Nat → Prop} {x : S35} {cs : List Value} (h : k35.M w base ok x cs) : cs = [.int .i64 x.f0, .int .i64 x.f1, .int .i64 x.f2, .string x.f3] := k52_openM h
theorem k35_mk (w : World) (x : S35) : k35.K w x [.int .i64 x.f0, .int .i64 x.f1, .int .i64 x.f2, .string x.f3] := k52_mk w x
theorem k35_mkM (w : World) (base : Nat) (ok : Nat → Prop) (x : S35) : k35.M w base ok x [.int .i64 x.f0, .int .i64 x.f1, .int .i64 x.f2, .string x.f3] := k52_mkM w base ok x
theorem info35 : (Try.prog.info? 35).map (fun i => (i.zero, i.size, i.bytes)) = some (some (.agg #[(.int .i64 0), (.int .i64 0), (.int .i64 0), (.string ⟨#[]⟩)]), 4, 40) := by kernel_rfl
theorem info52 : (Try.prog.info? 52).map (fun i => (i.zero, i.size, i.bytes)) = some (some (.agg #[(.int .i64 0), (.int .i64 0), (.int .i64 0), (.string ⟨#[]⟩)]), 4, 40) := by kernel_rfl

/-- Of all blocks that there were, those of S alone may have turned. -/
structure Kp (S : Nat → Prop) (w W : World) : Prop where
  os : W.os = w.os
  tape : W.tape = w.tape
  output : W.output = w.output
  size : w.heap.size ≤ W.heap.size
  block : ∀ k, k < w.heap.size → ¬ S k → W.heap[k]? = w.heap[k]?
theorem Kp.refl (S : Nat → Prop) (w : World) : Kp S w w := ⟨rfl, rfl, rfl, Nat.le_refl _, fun _ _ _ => rfl⟩
theorem Kp.step {S S' : Nat → Prop} {w W V : World} (h : Kp S w W) (k : Kp S' W V) (hs : ∀ b, S' b → S b ∨ w.heap.size ≤ b) : Kp S w V :=
  ⟨k.os.trans h.os, k.tape.trans h.tape, k.output.trans h.output, Nat.le_trans h.size k.size, fun b hb hn =>
    (k.block b (Nat.lt_of_lt_of_le hb h.size) (fun hS => by rcases hs b hS with h1 | h1; exact hn h1; omega)).trans (h.block b hb hn)⟩
theorem Kp.below {S : Nat → Prop} {w W V : World} (h : Kp S w W) (k : Below W.heap.size W V) : Kp S w V :=
  h.step (S' := fun _ => False) ⟨k.os, k.tape, k.output, k.size, fun b hb _ => k.block b hb⟩ (fun _ h => h.elim)
theorem Kp.alloc {S : Nat → Prop} {w W : World} (h : Kp S w W) (o : Obj) : Kp S w (W.alloc o) := h.below ((Below.refl _ W).alloc (Nat.le_refl _) o)
theorem Kp.drew {S : Nat → Prop} {w W : World} (h : Kp S w W) : Kp S w W.drew := ⟨h.os, h.tape, h.output, h.size, h.block⟩
theorem Kp.drewN {S : Nat → Prop} {w W : World} (h : Kp S w W) (n : Nat) : Kp S w (W.drewN n) := ⟨h.os, h.tape, h.output, h.size, h.block⟩
theorem Kp.set {S : Nat → Prop} {w W : World} (h : Kp S w W) {p : Addr} (hp : S p.block ∨ w.heap.size ≤ p.block) (u : Value) : Kp S w (W.setCell p u) :=
  h.step (S' := fun b => b = p.block) ⟨rfl, rfl, rfl, by simp [World.setCell], fun b hb hn => Below.heap_setCell _ _ _ _ hn⟩ (fun b e => by rw [e]; exact hp)
theorem Kp.grown {S : Nat → Prop} {w W V : World} (h : Kp S w W) {row : Option Nat} (g : W.grownBy V row) (hr : ∀ k, row = some k → S k ∨ w.heap.size ≤ k) : Kp S w V :=
  h.step (S' := fun b => some b = row) ⟨g.os, g.tape, g.output, g.size, fun b hb hn => g.block b hb hn⟩ (fun b e => hr b e.symm)
theorem Kp.toBelow {S : Nat → Prop} {w W : World} {B : Nat} (h : Kp S w W) (hS : ∀ k, S k → B ≤ k) (hB : B ≤ w.heap.size) : Below B w W :=
  ⟨h.os, h.tape, h.output, h.size, fun k hk => h.block k (by omega) (fun hs => by have := hS k hs; omega)⟩
theorem Kp.of_below {S : Nat → Prop} {w W : World} (h : Below w.heap.size w W) : Kp S w W := (Kp.refl S w).below h
theorem Kp.mono {S S' : Nat → Prop} {w W : World} (h : Kp S w W) (hs : ∀ k, S k → S' k) : Kp S' w W := ⟨h.os, h.tape, h.output, h.size, fun b hb hn => h.block b hb (fun x => hn (hs b x))⟩
theorem Kp.blk {S : Nat → Prop} {w W : World} (h : Kp S w W) {b : Nat} {o : Obj} (hb : w.heap[b]? = some o) (hn : ¬ S b) : W.heap[b]? = some o := (h.block b (Array.getElem?_eq_some_iff.1 hb).1 hn).trans hb
theorem R_kp {α : Type} {d : Kd α} {e : Nat} {S : Nat → Prop} {w W : World} {base : Nat} {ok : Nat → Prop} {v : Value} {l : List α} (h : Kd.R d e w base ok v l) (k : Kp S w W) (hn : ∀ b, ok b → ¬ S b) : Kd.R d e W base ok v l := Kd.R_step h (fun b hb hlt => k.block b hlt (hn b hb))

/-- A row of letters: its blocks are that of its value alone. -/
theorem R_tight {e base : Nat} {ok : Nat → Prop} {w : World} {v : Value} {l : List S52} (h : Kd.R k52 e w base ok v l) : Kd.R k52 e w base (fun k => some k = v.ownBlock) v l :=
  Kd.R_flat (fun hx => by obtain rfl := k52_openM hx; exact k52_mkM _ _ _ _) h (fun k hk _ => hk.symm)

/-- A post (type T, its letters of type E) at block p: its nodes, its last number, its letters, which lie in the block o. -/
def Po (T E : Nat) (w : World) (B p : Nat) (o : Option Nat) (nodes last : Int) (l : List S52) : Prop :=
  ∃ v, B ≤ p ∧ w.heap[p]? = some (.cells #[.int .i64 nodes, .int .i64 last, v] T (0, 0)) ∧ v.ownBlock = o ∧ some p ≠ o ∧ Kd.R k52 E w B (fun k => some k = o) v l
/-- What a method of the post may turn. -/
def Its (p : Nat) (o : Option Nat) (k : Nat) : Prop := k = p ∨ some k = o
theorem Po.move {T E : Nat} {S : Nat → Prop} {w W : World} {B p : Nat} {o : Option Nat} {nodes last : Int} {l : List S52} (h : Po T E w B p o nodes last l) (k : Kp S w W) (hn : ∀ b, Its p o b → ¬ S b) : Po T E W B p o nodes last l := by
  obtain ⟨v, h1, h2, h3, h4, h5⟩ := h
  exact ⟨v, h1, k.blk h2 (hn p (.inl rfl)), h3, h4, R_kp h5 k (fun b hb => hn b (.inr hb))⟩
theorem Po.below {T E : Nat} {w W : World} {B p : Nat} {o : Option Nat} {nodes last : Int} {l : List S52} (h : Po T E w B p o nodes last l) (k : Below w.heap.size w W) : Po T E W B p o nodes last l :=
  h.move (Kp.of_below (S := fun _ => False) k) (fun _ _ h => h)
/-- Its blocks lie from B on, and below the heap's end. -/
theorem Po.its {T E : Nat} {w : World} {B p : Nat} {o : Option Nat} {nodes last : Int} {l : List S52} (h : Po T E w B p o nodes last l) : ∀ k, Its p o k → B ≤ k ∧ k < w.heap.size := by
  obtain ⟨v, h1, h2, h3, h4, h5⟩ := h
  intro k hk
  rcases hk with rfl | hk
  · exact ⟨h1, (Array.getElem?_eq_some_iff.1 h2).1⟩
  · obtain ⟨_, inner, ho, _⟩ := h5
    rw [← h3] at hk
    exact ⟨own_base ho k hk.symm, own_lt ho k hk.symm⟩
end Go.Proofs.Ytndjhpkpeklgfaa.PPost
