/- A map of whole numbers as a list of alarms; a clock in memory. -/
import Derived.Test.YtnenheaijacphaaPlain
import Derived.Test.YtnenheaijacphaaSl
import Derived.Test.YtnenheaijacphaaWInvWords
import Derived.Maps.OwnSet
import Derived.Maps.RangeWalk
import Derived.Maps.Ext
import Derived.Lib.Hide
import Derived.Lib.Walk
namespace Go.Proofs.Ytnenheaijacphaa.PAlarm
open Go Go.RowKit Go.Maps Go.Proofs.YtnenheaijacphaaW.PrintWords Go.Proofs.YtnenheaijacphaaW.PrintLast Go.Proofs.YtnenheaijacphaaW.PrintMore Go.Proofs.Ytnenheaijacphaa.Sl
set_option linter.unusedVariables false
set_option linter.unusedSimpArgs false

theorem info53 : (Try.prog.info? 53).map (fun i => (i.zero, i.size, i.bytes)) = some (some (.agg #[(.int .i64 0), (.int .i64 0)]), 2, 16) := by kernel_rfl
theorem info3i : (Try.prog.info? 3).map (fun i => (i.zero, i.size, i.bytes)) = some (some (.int .i64 0), 1, 8) := by kernel_rfl

/-- Of all blocks that there were, those of S alone may have turned. -/
structure Kp (S : Nat → Prop) (w W : World) : Prop where
  os : W.os = w.os
  tape : W.tape = w.tape
  output : W.output = w.output
  size : w.heap.size ≤ W.heap.size
  block : ∀ k, k < w.heap.size → ¬ S k → W.heap[k]? = w.heap[k]?
theorem Kp.refl (S : Nat → Prop) (w : World) : Kp S w w := ⟨rfl, rfl, rfl, Nat.le_refl _, fun _ _ _ => rfl⟩
theorem Kp.step {S S' : Nat → Prop} {w W V : World} (h : Kp S w W) (k : Kp S' W V) (hs : ∀ b, S' b → S b ∨ w.heap.size ≤ b) : Kp S w V :=
  ⟨k.os.trans h.os, k.tape.trans h.tape, k.output.trans h.output, Nat.le_trans h.size k.size, fun b hb hn =>
    (k.block b (Nat.lt_of_lt_of_le hb h.size) (fun hS => by rcases hs b hS with h1 | h1; exact hn h1; omega)).trans (h.block b hb hn)⟩
theorem Kp.below {S : Nat → Prop} {w W V : World} (h : Kp S w W) (k : Below W.heap.size W V) : Kp S w V :=
  h.step (S' := fun _ => False) ⟨k.os, k.tape, k.output, k.size, fun b hb _ => k.block b hb⟩ (fun _ h => h.elim)
theorem Kp.alloc {S : Nat → Prop} {w W : World} (h : Kp S w W) (o : Obj) : Kp S w (W.alloc o) := h.below ((Below.refl _ W).alloc (Nat.le_refl _) o)
theorem Kp.drew {S : Nat → Prop} {w W : World} (h : Kp S w W) : Kp S w W.drew := ⟨h.os, h.tape, h.output, h.size, h.block⟩
theorem Kp.drewN {S : Nat → Prop} {w W : World} (h : Kp S w W) (n : Nat) : Kp S w (W.drewN n) := ⟨h.os, h.tape, h.output, h.size, h.block⟩
theorem Kp.set {S : Nat → Prop} {w W : World} (h : Kp S w W) {p : Addr} (hp : S p.block ∨ w.heap.size ≤ p.block) (u : Value) : Kp S w (W.setCell p u) :=
  h.step (S' := fun b => b = p.block) ⟨rfl, rfl, rfl, by simp [World.setCell], fun b hb hn => Below.heap_setCell _ _ _ _ hn⟩ (fun b e => by rw [e]; exact hp)
theorem Kp.grown {S : Nat → Prop} {w W V : World} (h : Kp S w W) {row : Option Nat} (g : W.grownBy V row) (hr : ∀ k, row = some k → S k ∨ w.heap.size ≤ k) : Kp S w V :=
  h.step (S' := fun b => some b = row) ⟨g.os, g.tape, g.output, g.size, fun b hb hn => g.block b hb hn⟩ (fun b e => hr b e.symm)
theorem Kp.toBelow {S : Nat → Prop} {w W : World} {B : Nat} (h : Kp S w W) (hS : ∀ k, S k → B ≤ k) (hB : B ≤ w.heap.size) : Below B w W :=
  ⟨h.os, h.tape, h.output, h.size, fun k hk => h.block k (by omega) (fun hs => by have := hS k hs; omega)⟩
theorem Kp.of_below {S : Nat → Prop} {w W : World} (h : Below w.heap.size w W) : Kp S w W := (Kp.refl S w).below h
theorem Kp.mono {S S' : Nat → Prop} {w W : World} (h : Kp S w W) (hs : ∀ k, S k → S' k) : Kp S' w W := ⟨h.os, h.tape, h.output, h.size, fun b hb hn => h.block b hb (fun x => hn (hs b x))⟩
theorem Kp.blk {S : Nat → Prop} {w W : World} (h : Kp S w W) {b : Nat} {o : Obj} (hb : w.heap[b]? = some o) (hn : ¬ S b) : W.heap[b]? = some o := (h.block b (Array.getElem?_eq_some_iff.1 hb).1 hn).trans hb
theorem Kp.of_grown {w W : World} {b : Nat} (g : w.grownBy W (some b)) : Kp (fun k => k = b) w W := (Kp.refl _ w).grown g (fun k e => .inl (by injection e with e; exact e.symm))
theorem R_kp {α : Type} {d : Kd α} {e : Nat} {S : Nat → Prop} {w W : World} {base : Nat} {ok : Nat → Prop} {v : Value} {l : List α} (h : Kd.R d e w base ok v l) (k : Kp S w W) (hn : ∀ b, ok b → ¬ S b) : Kd.R d e W base ok v l := Kd.R_step h (fun b hb hlt => k.block b hlt (hn b hb))
theorem R_tight {e base : Nat} {ok : Nat → Prop} {w : World} {v : Value} {l : List S53} (h : Kd.R k53 e w base ok v l) : Kd.R k53 e w base (fun k => some k = v.ownBlock) v l :=
  Kd.R_flat (fun hx => by obtain rfl := k53_openM hx; exact k53_mkM _ _ _ _) h (fun k hk _ => hk.symm)
theorem R_lt {α : Type} {d : Kd α} {e base : Nat} {ok : Nat → Prop} {w : World} {v : Value} {l : List α} (h : Kd.R d e w base ok v l) : ∀ k, v.ownBlock = some k → base ≤ k ∧ k < w.heap.size := by
  obtain ⟨_, inner, ho, _⟩ := h
  exact fun k hk => ⟨own_base ho k hk, own_lt ho k hk⟩

/-! ### a map of whole numbers -/
theorem law3 : Keyed Try.prog 3 := int_keyed Try.underlying3
theorem zero3 (w : World) : (zeroValue 3).run Try.prog w = .ok (.int .i64 0) w := by kernel_rfl
abbrev DU := DataW Unit
structure Same (D : DU) (L : List S53) : Prop where
  has : ∀ x, Maps.has D (.int .i64 x) = (at_ L x).isSome
  key : ∀ x c z, at_ L x = some c → D.atKey (.int .i64 x) z = .lit (.int .i64 c)
  size : Maps.size D = L.length
theorem lit_ne {x n : Int} (h : x ≠ n) : (Lit.int .i64 x) ≠ Lit.int .i64 n := fun e => h (by cases e; rfl)
theorem Same.nil : Same (.map []) [] := ⟨fun _ => rfl, fun x c z h => by simp [at_] at h, rfl⟩
theorem Same.put {D : DU} {L : List S53} (h : Same D L) (hm : Tidy D) (k : Ok L) {n t : Int} (hn : big n = true) (ht : big t = true) (hl : (at_ L n).isSome = true ∨ L.length < 256) : Same (D.put (.int .i64 n) (.lit (.int .i64 t))) (put L n t) := by
  have ha := at_put k hn ht hl
  refine ⟨fun x => ?_, fun x c z e => ?_, ?_⟩
  · rw [ha]
    by_cases e : x = n
    · subst e; rw [if_pos rfl, has_put_same (k := .int .i64 x) hm.isMap trivial]; rfl
    · rw [if_neg e, has_put_other (lit_ne e), h.has]
  · rw [ha] at e
    by_cases e' : x = n
    · subst e'
      rw [if_pos rfl] at e
      obtain rfl := Option.some.inj e
      exact atKey_put_same (k := .int .i64 x) hm.isMap trivial _ _
    · rw [if_neg e'] at e
      rw [atKey_put_other (lit_ne e')]
      exact h.key x c z e
  · rw [size_put hm, h.has, put_len k.one, h.size]
theorem Same.del {D : DU} {L : List S53} (h : Same D L) (hm : Tidy D) (k : Ok L) (n : Int) : Same (D.del (.int .i64 n)) (drp L n) := by
  refine ⟨fun x => ?_, fun x c z e => ?_, ?_⟩
  · rw [at_drp]
    by_cases e : x = n
    · subst e; rw [if_pos rfl, has_del_same]; rfl
    · rw [if_neg e, has_del_other (lit_ne e), h.has]
  · rw [at_drp] at e
    by_cases e' : x = n
    · rw [if_pos e'] at e; cases e
    · rw [if_neg e'] at e
      rw [atKey_del_other (lit_ne e')]
      exact h.key x c z e
  · have h1 := size_del (k := .int .i64 n) hm
    have h2 := drp_len k.one n
    rw [h.has, h.size] at h1
    omega
theorem tight {w : World} {b n : Nat} {D : DU} (h : w.ownsMap Try.prog 3 (plainElem Try.prog 3) b n D) : w.ownsMap Try.prog 3 (plainElem Try.prog 3) b (Maps.size D) D := by
  obtain ⟨es, clock, h1, h2, h3, h4⟩ := h
  refine ⟨es, clock, h1, h2, ?_, h4⟩
  rw [h4]
  simp [Maps.size, length_sorted]
/-- Block b is the map of the alarms L. -/
def Ma (w : World) (b : Nat) (L : List S53) : Prop := Ok L ∧ ∃ D : DU, w.ownsMap Try.prog 3 (plainElem Try.prog 3) b (Maps.size D) D ∧ Same D L
theorem Ma.move {S : Nat → Prop} {w W : World} {b : Nat} {L : List S53} (h : Ma w b L) (k : Kp S w W) (hn : ¬ S b) : Ma W b L := by
  obtain ⟨ho, D, ⟨es, clock, h1, h2, h3, h4⟩, hs⟩ := h
  exact ⟨ho, D, ⟨es, clock, k.blk h1 hn, h2, h3, h4⟩, hs⟩
theorem Ma.below {w W : World} {b : Nat} {L : List S53} (h : Ma w b L) (k : Below w.heap.size w W) : Ma W b L := h.move (Kp.of_below (S := fun _ => False) k) (fun h => h)
theorem Ma.lt {w : World} {b : Nat} {L : List S53} (h : Ma w b L) : b < w.heap.size := by
  obtain ⟨ho, D, h1, _⟩ := h
  exact h1.lt
theorem wf_big {n : Int} (h0 : -9223372036854775808 ≤ n) (h1 : n ≤ 9223372036854775807) : (Lit.int .i64 n).wf = true := WalkArith.wf_i64 (by omega)
theorem Ma.look {w : World} {b : Nat} {L : List S53} (h : Ma w b L) (n : Int) (hw : (Lit.int .i64 n).wf = true) : (Instr.lookup 58 (.map (some b)) (.int .i64 n) false).run Try.prog w = .ok (.int .i64 ((at_ L n).getD 0)) w := by
  obtain ⟨ho, D, h1, hs⟩ := h
  obtain ⟨c, hrun, hat, _⟩ := h1.lookup_int law3 Try.underlying58 Try.underlying3 (zero3 w) (keyOf_int_mk Try.underlying3 hw)
  rw [hrun]
  cases he : at_ L n with
  | none =>
    have h2 := hs.has n
    rw [he] at h2
    rw [atKey_of_not_has h2] at hat
    cases hat
    rfl
  | some c' =>
    rw [hs.key n c' _ he] at hat
    cases hat
    rfl
theorem Ma.look_ok {w : World} {b : Nat} {L : List S53} (h : Ma w b L) (n : Int) (hw : (Lit.int .i64 n).wf = true) : (Instr.lookup 58 (.map (some b)) (.int .i64 n) true).run Try.prog w = .ok (.tuple #[.int .i64 ((at_ L n).getD 0), .bool (at_ L n).isSome]) w := by
  obtain ⟨ho, D, h1, hs⟩ := h
  obtain ⟨v, ps, hrun, hat⟩ := h1.look_ok law3 Try.underlying58 (zero3 w) (plainElem_int (H := Unit) (q := .i64) (a := 0) Try.underlying3 (by decide)) (keyOf_int_mk Try.underlying3 hw)
  obtain ⟨c, rfl, hc, _⟩ := plainElem_int_inv Try.underlying3 hat
  rw [hrun, hs.has]
  simp only [Prod.mk.injEq] at hc
  have hc := hc.1
  cases he : at_ L n with
  | none =>
    have h2 := hs.has n
    rw [he] at h2
    rw [atKey_of_not_has h2] at hc
    cases hc
    rfl
  | some c' =>
    rw [hs.key n c' _ he] at hc
    cases hc
    rfl
theorem Ma.len {w : World} {b : Nat} {L : List S53} (h : Ma w b L) (ty : TypeId) : (Builtin.len_ #[58] ty #[.map (some b)]).run Try.prog w = .ok (.int .i64 L.length) w := by
  obtain ⟨ho, D, h1, hs⟩ := h
  rw [h1.len Try.underlying58 ty, hs.size]
theorem Ma.upd {w : World} {b : Nat} {L : List S53} (h : Ma w b L) {n t : Int} (hn : big n = true) (ht : big t = true) (hl : (at_ L n).isSome = true ∨ L.length < 256) :
    ∃ w', (Instr.mapUpdate 58 (.map (some b)) (.int .i64 n) (.int .i64 t)).run Try.prog w = .ok () w' ∧ Ma w' b (put L n t) ∧ Kp (fun k => k = b) w w' := by
  obtain ⟨ho, D, h1, hs⟩ := h
  have hb := big_iff.1 hn
  have hb' := big_iff.1 ht
  have h3 := ho.len
  obtain ⟨w', hrun, h2, hg⟩ := h1.update law3 Try.underlying58 (by rw [hs.size]; unfold maxLen; omega) (keyOf_int_mk Try.underlying3 (wf_big (n := n) (by omega) (by omega))) (plainElem_int (H := Unit) (a := t) Try.underlying3 (wf_big (n := t) (by omega) (by omega)))
  exact ⟨w', hrun, ⟨ho.put hn ht hl, _, tight h2, hs.put (h1.tidy law3) ho hn ht hl⟩, Kp.of_grown hg⟩
theorem Ma.del {w : World} {b : Nat} {L : List S53} (h : Ma w b L) (n : Int) (hw : (Lit.int .i64 n).wf = true) (ty : TypeId) :
    ∃ w', (Builtin.delete_ #[58, 3] ty #[.map (some b), .int .i64 n]).run Try.prog w = .ok (.tuple #[]) w' ∧ Ma w' b (drp L n) ∧ Kp (fun k => k = b) w w' := by
  obtain ⟨ho, D, h1, hs⟩ := h
  obtain ⟨w', hrun, h2, hg⟩ := h1.drop law3 Try.underlying58 (keyOf_int_mk Try.underlying3 hw) ty
  exact ⟨w', hrun, ⟨ho.drp n, _, tight h2, hs.del (h1.tidy law3) ho n⟩, Kp.of_grown hg.grown⟩

/-- A clock at block p, its map at block b. -/
def Cl (w : World) (B p b : Nat) (L : List S53) : Prop := B ≤ p ∧ B ≤ b ∧ w.heap[p]? = some (.cells #[.map (some b)] 60 (0, 0)) ∧ Ma w b L
theorem Cl.ne {w : World} {B p b : Nat} {L : List S53} (h : Cl w B p b L) : p ≠ b := by
  obtain ⟨_, _, h1, _, D, ⟨es, clock, h2, _⟩, _⟩ := h
  intro e
  subst e
  rw [h1] at h2
  cases h2
theorem Cl.move {S : Nat → Prop} {w W : World} {B p b : Nat} {L : List S53} (h : Cl w B p b L) (k : Kp S w W) (h1 : ¬ S p) (h2 : ¬ S b) : Cl W B p b L :=
  ⟨h.1, h.2.1, k.blk h.2.2.1 h1, h.2.2.2.move k h2⟩
theorem Cl.below {w W : World} {B p b : Nat} {L : List S53} (h : Cl w B p b L) (k : Below w.heap.size w W) : Cl W B p b L := h.move (Kp.of_below (S := fun _ => False) k) (fun h => h) (fun h => h)
theorem Cl.ok {w : World} {B p b : Nat} {L : List S53} (h : Cl w B p b L) : Ok L := h.2.2.2.1
theorem Cl.cell {w : World} {B p b : Nat} {L : List S53} (h : Cl w B p b L) : w.cell? ⟨p, 0, none⟩ = some (.map (some b)) := (blk_cell h.2.2.1 0).trans rfl
theorem Cl.lt {w : World} {B p b : Nat} {L : List S53} (h : Cl w B p b L) : p < w.heap.size ∧ b < w.heap.size := ⟨blk_lt h.2.2.1, h.2.2.2.lt⟩
/-- Behind a method: the alarms are L now; nothing but the map has turned. -/
theorem Cl.turn {w W : World} {B p b : Nat} {L M : List S53} (h : Cl w B p b L) (k : Kp (fun k => k = b) w W) (m : Ma W b M) : Cl W B p b M :=
  ⟨h.1, h.2.1, k.blk h.2.2.1 h.ne, m⟩
end Go.Proofs.Ytnenheaijacphaa.PAlarm
