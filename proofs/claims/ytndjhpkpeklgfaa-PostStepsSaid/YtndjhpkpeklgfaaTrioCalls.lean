/- The post's methods beside two rows and boxes. -/
import Derived.Test.YtndjhpkpeklgfaaTrio
namespace Go.Proofs.Ytndjhpkpeklgfaa.PPost
open Go Go.RowKit Go.Proofs.YtndjhpkpeklgfaaW.PrintWords Go.Proofs.YtndjhpkpeklgfaaW.PrintLast Go.Proofs.YtndjhpkpeklgfaaW.PrintMore Go.Proofs.Ytndjhpkpeklgfaa.Sl
set_option linter.unusedVariables false
theorem info29 : (Try.prog.info? 29).map (fun i => (i.zero, i.size, i.bytes)) = some (some (.agg #[(.int .i64 0), (.int .i64 0), (.int .i64 0), (.int .i64 0), (.string ⟨#[]⟩)]), 5, 48) := by kernel_rfl
theorem put5 {w : World} {g t : Nat} {a b c d f : Value} (h : w.heap[g]? = some (.cells #[a, b, c, d, f] t (0, 0))) (x y z u v : Value) :
    (((((w.setCell ⟨g, 0, none⟩ x).setCell ⟨g, 1, none⟩ y).setCell ⟨g, 2, none⟩ z).setCell ⟨g, 3, none⟩ u).setCell ⟨g, 4, none⟩ v).heap[g]? = some (.cells #[x, y, z, u, v] t (0, 0)) :=
  Go.Joins.block_setCell (i := 4) (Go.Joins.block_setCell (i := 3) (Go.Joins.block_setCell (i := 2) (Go.Joins.block_setCell (i := 1) (Go.Joins.block_setCell (i := 0) h x) y) z) u) v
theorem kp4 {S : Nat → Prop} {w : World} {g : Nat} (h : S g) (x y z u : Value) : Kp S w ((((w.setCell ⟨g, 0, none⟩ x).setCell ⟨g, 1, none⟩ y).setCell ⟨g, 2, none⟩ z).setCell ⟨g, 3, none⟩ u) :=
  ((((Kp.refl S w).set (p := ⟨g, 0, none⟩) (.inl h) x).set (p := ⟨g, 1, none⟩) (.inl h) y).set (p := ⟨g, 2, none⟩) (.inl h) z).set (p := ⟨g, 3, none⟩) (.inl h) u
theorem kp5 {S : Nat → Prop} {w : World} {g : Nat} (h : S g) (x y z u v : Value) : Kp S w (((((w.setCell ⟨g, 0, none⟩ x).setCell ⟨g, 1, none⟩ y).setCell ⟨g, 2, none⟩ z).setCell ⟨g, 3, none⟩ u).setCell ⟨g, 4, none⟩ v) :=
  (kp4 h x y z u).set (p := ⟨g, 4, none⟩) (.inl h) v
theorem lit29 (W : World) (B : Nat) (hB : B ≤ W.heap.size) : Kd.R k29 29 (W.alloc (.cells #[.int .i64 0, .int .i64 0, .int .i64 0, .int .i64 0, .string ⟨#[]⟩] 29)) B (fun _ => True) (.slice (some ⟨W.heap.size, 0, none⟩) 1 1) [z29] := by
  refine ⟨fun _ _ => trivial, [.int .i64 0, .int .i64 0, .int .i64 0, .int .i64 0, .string ⟨#[]⟩], ?_, Reps.c5 (k29_mkM _ _ _ z29) ⟨rfl, fun j q h => by simp at h⟩⟩
  have h2 := World.ownsRow_lit (base := B) (e := 29) (size := 5) W #[.int .i64 0, .int .i64 0, .int .i64 0, .int .i64 0, .string ⟨#[]⟩] 1 hB (by decide) (by decide)
  show World.ownsRow _ B 29 5 (.slice (some ⟨W.heap.size, 0, none⟩) 1 1) 1 _
  simpa using h2
variable {G : Nat → Prop} {w0 w w' : World} {B p : Nat} {o : Option Nat} {last : Int} {L : List S52} {bv : Value} {bodies : List S29} {tv : Value} {taken : List Int}
theorem Trio.start {v1 : Value} (H : Po 58 35 w w0.heap.size p o 4 0 []) (hs : w0.heap.size ≤ w.heap.size) (r : Kd.R k29 29 w' w0.heap.size (fun _ => True) v1 [z29]) (g : w.grownBy w' none) (hb : Below w0.heap.size w0 w') (hv : ∃ b, v1.ownBlock = some b ∧ w.heap.size ≤ b) : Trio (fun _ => False) w0 w' w0.heap.size p o 0 [] v1 [z29] (.slice none 0 0) [] := by
  have k : Kp (fun _ => False) w w' := (Kp.refl _ w).grown g (fun k hk => by simp at hk)
  obtain ⟨b, e, hlt⟩ := hv
  refine ⟨Nat.le_trans hs k.size, hb, H.move k (fun _ _ h => h), r, Kd.R_nil _ _ _ _ _, ⟨fun h => ?_, by simp [Value.ownBlock]⟩, fun c hc => ⟨fun h => ?_, by simp [Value.ownBlock]⟩, fun c hc => by simp [Value.ownBlock] at hc, fun _ h => h.elim⟩
  · rw [e] at h; obtain rfl := Option.some.inj h; have := (H.its b (.inl rfl)).2; omega
  · rw [e] at hc; obtain rfl := Option.some.inj hc; have := (H.its b (.inr h.symm)).2; omega
theorem far4 (w : World) {g k : Nat} (h : k ≠ g) (x y z u : Value) : ((((w.setCell ⟨g, 0, none⟩ x).setCell ⟨g, 1, none⟩ y).setCell ⟨g, 2, none⟩ z).setCell ⟨g, 3, none⟩ u).heap[k]? = w.heap[k]? :=
  (Below.heap_setCell _ ⟨g, 3, none⟩ _ k h).trans ((Below.heap_setCell _ ⟨g, 2, none⟩ _ k h).trans ((Below.heap_setCell _ ⟨g, 1, none⟩ _ k h).trans (Below.heap_setCell _ ⟨g, 0, none⟩ _ k h)))
theorem far5 (w : World) {g k : Nat} (h : k ≠ g) (x y z u v : Value) : (((((w.setCell ⟨g, 0, none⟩ x).setCell ⟨g, 1, none⟩ y).setCell ⟨g, 2, none⟩ z).setCell ⟨g, 3, none⟩ u).setCell ⟨g, 4, none⟩ v).heap[k]? = w.heap[k]? :=
  (Below.heap_setCell _ ⟨g, 4, none⟩ _ k h).trans (far4 w h x y z u)
theorem rd_taken {l : List Int} {i : Nat} (h : i < l.length) : rd l (i : Int) = l[i] := by
  simp [rd, List.getD_eq_getElem?_getD, List.getElem?_eq_getElem h]
theorem row_block {α : Type} {d : Kd α} {e base n c : Nat} {ok : Nat → Prop} {w : World} {ad : Addr} {xs : List α} (h : Kd.R d e w base ok (.slice (some ad) n c) xs) (hp : 0 < xs.length) : (Value.slice (some ad) n c).ownBlock = some ad.block := by
  obtain ⟨g, cap, he, _⟩ := Kd.R_form h hp
  obtain ⟨h1, _, _⟩ := Value.slice.inj he
  obtain rfl := Option.some.inj h1
  simp [Value.ownBlock]
theorem trio_send (h : Trio G w0 w B p o last L bv bodies tv taken) (hl : L.length ≤ 2048) (h0 : 0 ≤ last) (hm : last < 1000000000000000000) (f t : Int) (s : ByteArray) :
    Calls Try.prog 10 #[.pointer (some ⟨p, 0, none⟩), .int .i64 f, .int .i64 t, .string s] w fun e w' => e = .returned (.tuple #[.int .i64 (snd 4 last L f t s).1, .int .i64 (snd 4 last L f t s).2.1]) ∧ ∃ o', Trio G w0 w' B p o' (snd 4 last L f t s).2.2.1 (snd 4 last L f t s).2.2.2 bv bodies tv taken ∧ ∀ g, G g → w'.heap[g]? = w.heap[g]? :=
  (send_calls B p o 4 last L f t s w h.po h.size0 hl h0 hm).mono fun e w' ⟨a, b⟩ => ⟨a, h.then_ b⟩
theorem trio_again (h : Trio G w0 w B p o last L bv bodies tv taken) (hl : L.length ≤ 2048) (h0 : 0 ≤ last) (hm : last < 1000000000000000000) (n : Int) :
    Calls Try.prog 11 #[.pointer (some ⟨p, 0, none⟩), .int .i64 n] w fun e w' => e = .returned (.tuple #[.int .i64 (agn last L n).1, .int .i64 (agn last L n).2.1]) ∧ ∃ o', Trio G w0 w' B p o' (agn last L n).2.2.1 (agn last L n).2.2.2 bv bodies tv taken ∧ ∀ g, G g → w'.heap[g]? = w.heap[g]? :=
  (again_calls B p o 4 last L n w h.po h.size0 hl h0 hm).mono fun e w' ⟨a, b⟩ => ⟨a, h.then_ b⟩
theorem trio_take (h : Trio G w0 w B p o last L bv bodies tv taken) (hl : L.length ≤ 2048) (h0 : 0 ≤ last) (hm : last < 1000000000000000000) (n : Int) :
    Calls Try.prog 12 #[.pointer (some ⟨p, 0, none⟩), .int .i64 n] w fun e w' => e = .returned (.tuple #[.agg #[.int .i64 (see L n).1.f0, .int .i64 (see L n).1.f1, .int .i64 (see L n).1.f2, .string (see L n).1.f3], .int .i64 (see L n).2]) ∧ ∃ o', Trio G w0 w' B p o' last (tak L n) bv bodies tv taken ∧ ∀ g, G g → w'.heap[g]? = w.heap[g]? :=
  (take_calls B p o 4 last L n w h.po (by omega)).mono fun e w' ⟨a, b⟩ => ⟨a, h.then_ b⟩
end Go.Proofs.Ytndjhpkpeklgfaa.PPost
