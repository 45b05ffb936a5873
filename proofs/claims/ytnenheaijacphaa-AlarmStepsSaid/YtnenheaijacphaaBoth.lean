/- A clock and the reference's clock side by side. -/
import Derived.Test.YtnenheaijacphaaRDues
import Derived.Test.YtnenheaijacphaaThree
namespace Go.Proofs.Ytnenheaijacphaa.PAlarm
open Go Go.RowKit Go.Maps Go.Proofs.YtnenheaijacphaaW.PrintWords Go.Proofs.YtnenheaijacphaaW.PrintLast Go.Proofs.YtnenheaijacphaaW.PrintMore Go.Proofs.Ytnenheaijacphaa.Sl
set_option linter.unusedVariables false
set_option linter.unusedSimpArgs false

theorem own_typed53 {w : World} {B q : Nat} {o : Option Nat} {L : List S53} (h : RC w B q o L) {k : Nat} (hk : some k = o) : ∃ cells, w.heap[k]? = some (.cells cells 53 (0, 0)) := by
  obtain ⟨v, h1, h2, h3, h4, h5⟩ := h
  obtain ⟨_, inner, ho, _⟩ := h5
  exact own_typed ho k (by rw [h3]; exact hk.symm)
theorem apart_its {w : World} {B B' p b q : Nat} {o : Option Nat} {L M : List S53} (C : Cl w B p b L) (R : RC w B' q o M) : ¬ Its q o p ∧ ¬ Its q o b := by
  have hp := C.2.2.1
  obtain ⟨_, D, ⟨es, clock, hb, _⟩, _⟩ := C.2.2.2
  have hq : ∃ v, w.heap[q]? = some (.cells #[v] 44 (0, 0)) := by obtain ⟨v, _, h, _⟩ := R; exact ⟨v, h⟩
  obtain ⟨v, hq⟩ := hq
  refine ⟨fun h => ?_, fun h => ?_⟩
  · rcases h with h | h
    · subst h; rw [hp] at hq; cases hq
    · obtain ⟨cs, hc⟩ := own_typed53 R h; rw [hp] at hc; cases hc
  · rcases h with h | h
    · subst h; rw [hb] at hq; cases hq
    · obtain ⟨cs, hc⟩ := own_typed53 R h; rw [hb] at hc; cases hc
/-- Blocks of other types than the clocks' stay. -/
def Keeps (W w' : World) : Prop := ∀ (g t : Nat) (cs : Array Value), t ≠ 44 → t ≠ 53 → t ≠ 60 → W.heap[g]? = some (.cells cs t (0, 0)) → w'.heap[g]? = some (.cells cs t (0, 0))
theorem Keeps.of_below {W w' : World} (h : Below W.heap.size W w') : Keeps W w' := fun g t cs _ _ _ hg => (h.block g (blk_lt hg)).trans hg
theorem Keeps.trans {W w' w'' : World} (h : Keeps W w') (k : Keeps w' w'') : Keeps W w'' := fun g t cs a b c hg => k g t cs a b c (h g t cs a b c hg)
theorem Keeps.clock {W w' : World} {B p b : Nat} {L : List S53} (C : Cl W B p b L) (k : Kp (fun k => k = b) W w') : Keeps W w' := by
  intro g t cs _ _ _ hg
  refine k.blk hg (fun e => ?_)
  obtain ⟨_, D, ⟨es, clock, hb, _⟩, _⟩ := C.2.2.2
  rw [e, hb] at hg; cases hg
theorem Keeps.ref {W w' : World} {B q : Nat} {o : Option Nat} {M : List S53} (R : RC W B q o M) (k : Kp (Its q o) W w') : Keeps W w' := by
  intro g t cs h1 h2 _ hg
  refine k.blk hg (fun e => ?_)
  rcases e with e | e
  · obtain ⟨v, _, h, _⟩ := R
    rw [e, h] at hg; cases hg; exact h1 rfl
  · obtain ⟨cs', hc⟩ := own_typed53 R e
    rw [hc] at hg; cases hg; exact h2 rfl
/-- The clock has the alarms L, the reference's M. -/
def St (w W : World) (p b q : Nat) (L M : List S53) : Prop := Cl W w.heap.size p b L ∧ (∃ o, RC W w.heap.size q o M) ∧ Below w.heap.size w W
theorem St.below {w W V : World} {p b q : Nat} {L M : List S53} (h : St w W p b q L M) (k : Below W.heap.size W V) : St w V p b q L M :=
  ⟨h.1.below k, (let ⟨o, r⟩ := h.2.1; ⟨o, r.below k⟩), h.2.2.trans (k.mono h.2.2.size)⟩
theorem St.clock {w W V : World} {p b q : Nat} {L L' M : List S53} (h : St w W p b q L M) (c : Cl V w.heap.size p b L') (k : Kp (fun k => k = b) W V) : St w V p b q L' M := by
  obtain ⟨o, r⟩ := h.2.1
  have hn := apart_its h.1 r
  exact ⟨c, ⟨o, r.move k (fun j hj e => hn.2 (e ▸ hj))⟩, below_kp h.2.2 (Nat.le_refl _) k (fun j e => by subst e; exact h.1.2.1)⟩
theorem St.ref {w W V : World} {p b q : Nat} {o : Option Nat} {L M M' : List S53} (h : St w W p b q L M) (r : RC W w.heap.size q o M) (t : Thn W V w.heap.size q o M') : St w V p b q L M' := by
  obtain ⟨o', r', k, _⟩ := t
  have hn := apart_its h.1 r
  exact ⟨h.1.move k hn.1 hn.2, ⟨o', r'⟩, below_kp h.2.2 (Nat.le_refl _) k (fun j hj => (r.its j hj).1)⟩
section
variable {w W : World} {p b q : Nat} {L M : List S53}
theorem st_set (H : St w W p b q L M) (n t : Int) : Calls Try.prog 10 #[.pointer (some ⟨p, 0, none⟩), .int .i64 n, .int .i64 t] W fun e w' => e = .returned (.int .i64 (set L n t).1) ∧ St w w' p b q (set L n t).2 M ∧ Keeps W w' :=
  (set_calls _ p b L n t W H.1).mono fun e w' ⟨h1, h2, h3⟩ => ⟨h1, H.clock h2 h3, Keeps.clock H.1 h3⟩
theorem st_rset (H : St w W p b q L M) (hM : Ok M) (n t : Int) : Calls Try.prog 16 #[.pointer (some ⟨q, 0, none⟩), .int .i64 n, .int .i64 t] W fun e w' => e = .returned (.int .i64 (set M n t).1) ∧ St w w' p b q L (set M n t).2 ∧ Keeps W w' := by
  obtain ⟨o, r⟩ := H.2.1
  exact (rset_calls _ q o M n t W r H.2.2.size hM).mono fun e w' ⟨h1, h2⟩ => ⟨h1, H.ref r h2, (let ⟨_, _, k, _⟩ := h2; Keeps.ref r k)⟩
theorem st_stop (H : St w W p b q L M) (n : Int) : Calls Try.prog 15 #[.pointer (some ⟨p, 0, none⟩), .int .i64 n] W fun e w' => e = .returned (.tuple #[.bool (stop L n).1, .int .i64 (stop L n).2.1]) ∧ St w w' p b q (stop L n).2.2 M ∧ Keeps W w' :=
  (stop_calls _ p b L n W H.1).mono fun e w' ⟨h1, h2, h3⟩ => ⟨h1, H.clock h2 h3, Keeps.clock H.1 h3⟩
theorem st_rstop (H : St w W p b q L M) (hM : Ok M) (n : Int) : Calls Try.prog 17 #[.pointer (some ⟨q, 0, none⟩), .int .i64 n] W fun e w' => e = .returned (.tuple #[.bool (stop M n).1, .int .i64 (stop M n).2.1]) ∧ St w w' p b q L (stop M n).2.2 ∧ Keeps W w' := by
  obtain ⟨o, r⟩ := H.2.1
  exact (rstop_calls _ q o M n W r H.2.2.size hM).mono fun e w' ⟨h1, h2⟩ => ⟨h1, H.ref r h2, (let ⟨_, _, k, _⟩ := h2; Keeps.ref r k)⟩
theorem st_due (H : St w W p b q L M) (t : Int) : Calls Try.prog 11 #[.pointer (some ⟨p, 0, none⟩), .int .i64 t] W fun e w' => ∃ v, e = .returned (.tuple #[v, .int .i64 (due L t).2.1]) ∧ Row w' W.heap.size v (due L t).1 ∧ St w w' p b q (due L t).2.2 M ∧ Keeps W w' ∧ ∀ j o, RC w' w.heap.size q o M → Its q o j → j < W.heap.size :=
  (due_calls _ p b L t W H.1).mono fun e w' ⟨v, h1, h2, h3, h4⟩ => ⟨v, h1, h2, H.clock h3 h4, Keeps.clock H.1 h4, fun j o r hj => by
    obtain ⟨o0, r0⟩ := H.2.1
    have hn := apart_its H.1 r0
    have e : o = o0 := by
      obtain ⟨v1, _, g1, g2, _⟩ := r
      obtain ⟨v0, _, f1, f2, _⟩ := r0
      have := h4.blk f1 (fun e => hn.2 (.inl e.symm))
      rw [g1] at this
      cases this
      rw [← g2, f2]
    exact (r0.its j (e ▸ hj)).2⟩
theorem st_rdue (H : St w W p b q L M) (hM : Ok M) (t : Int) {u : Value} {xs : List Int} {base : Nat} (hu : Row W base u xs) (h1 : p < base) (h2 : b < base) (h3 : ∀ j, ∀ o, RC W w.heap.size q o M → Its q o j → j < base) : Calls Try.prog 18 #[.pointer (some ⟨q, 0, none⟩), .int .i64 t] W fun e w' => ∃ v, e = .returned (.tuple #[v, .int .i64 (due M t).2.1]) ∧ Row w' W.heap.size v (due M t).1 ∧ St w w' p b q L (due M t).2.2 ∧ Keeps W w' ∧ Row w' base u xs := by
  obtain ⟨o, r⟩ := H.2.1
  exact (rdue_calls _ q o M t W r H.2.2.size hM).mono fun e w' ⟨v, g1, g2, g3⟩ => ⟨v, g1, g2, H.ref r g3, (let ⟨_, _, k, _⟩ := g3; Keeps.ref r k), (let ⟨_, _, k, _⟩ := g3; R_kpb hu k (fun j hj e => by have := h3 j o r e; omega))⟩
theorem st_at (H : St w W p b q L M) (n : Int) (hw : (Lit.int .i64 n).wf = true) : Calls Try.prog 14 #[.pointer (some ⟨p, 0, none⟩), .int .i64 n] W fun e w' => e = .returned (.tuple #[.int .i64 ((at_ L n).getD 0), .bool (at_ L n).isSome]) ∧ W = w' := at_calls _ p b L n W H.1 hw
theorem st_next (H : St w W p b q L M) : Calls Try.prog 19 #[.pointer (some ⟨p, 0, none⟩)] W fun e w' => e = .returned (.tuple #[.int .i64 (nxt L), .bool (!L.isEmpty)]) ∧ St w w' p b q L M ∧ Keeps W w' :=
  (next_calls _ p b L W H.1).mono fun e w' ⟨h1, h2⟩ => ⟨h1, H.below h2, Keeps.of_below h2⟩
theorem st_len (H : St w W p b q L M) : Calls Try.prog 13 #[.pointer (some ⟨p, 0, none⟩)] W fun e w' => e = .returned (.int .i64 L.length) ∧ W = w' := len_calls _ p b L W H.1
theorem st_find (H : St w W p b q L M) (hM : Ok M) (n : Int) : Calls Try.prog 20 #[.pointer (some ⟨q, 0, none⟩), .int .i64 n] W fun e w' => e = .returned (.int .i64 (fnd M n)) ∧ Below W.heap.size W w' := by
  obtain ⟨o, r⟩ := H.2.1
  exact find_calls _ q o M n W r (by have := hM.len; omega)
end
theorem St.new {w W V : World} {p b : Nat} (H : Own w W p b []) (hV : V = W.alloc (.cells #[.slice none 0 0] 44)) : St w V p b W.heap.size [] [] := by
  have hb : Below W.heap.size W V := by rw [hV]; exact (Below.refl _ W).alloc (Nat.le_refl _) _
  have hq : V.heap[W.heap.size]? = some (.cells #[.slice none 0 0] 44 (0, 0)) := by rw [hV]; exact Array.getElem?_push_size
  exact ⟨H.1.below hb, ⟨none, .slice none 0 0, H.2.size, hq, rfl, by simp, Kd.R_nil _ _ _ _ _⟩, H.2.trans (hb.mono H.2.size)⟩
theorem Row.reads {W : World} {base : Nat} {A : Option Addr} {n c : Nat} {xs : List Int} (h : Row W base (.slice A n c) xs) : n = xs.length ∧ xs.length ≤ c ∧ Kd.C (Kd.int .i64) W A xs.length xs := by
  obtain ⟨h1, h2, h3⟩ := Kd.R_reads' h
  exact ⟨h1, by omega, h3⟩
theorem ints_same (xs : List Int) (h : xs.length ≤ 1000000) (n : Nat) : ∀ (k i : Nat), n < k → i ≤ xs.length → xs.length - i = n → sextonplain_Ints.l0 k xs xs xs.length i = some true := by
  induction n with
  | zero =>
    intro k i hk h1 h2
    obtain ⟨k, rfl⟩ : ∃ m, k = m + 1 := ⟨k - 1, by omega⟩
    simp only [sextonplain_Ints.l0]; rw [if_neg (by omega)]; simp
  | succ n ih =>
    intro k i hk h1 h2
    obtain ⟨k, rfl⟩ : ∃ m, k = m + 1 := ⟨k - 1, by omega⟩
    simp only [sextonplain_Ints.l0]
    rw [if_pos (by omega), if_neg (by omega), if_pos (by omega), if_pos (by omega), if_pos (by omega), if_pos trivial]
    have e : wrap64 ((i : Int) + 1) = ((i + 1 : Nat) : Int) := by unfold wrap64; omega
    rw [e]
    exact ih k (i + 1) (by omega) (by omega) (by omega)
theorem ints_true (xs : List Int) (h : xs.length ≤ 1000000) : sextonplain_Ints.f (xs.length + 1) xs xs = some true := ints_same xs h xs.length _ 0 (by omega) (by omega) (by omega)
/-- The head of the reference's row. -/
theorem RC.head {w : World} {B q : Nat} {o : Option Nat} {a : S53} {l : List S53} (h : RC w B q o (a :: l)) : ∃ g cp, w.heap[q]? = some (.cells #[.slice (some ⟨g, 0, none⟩) (l.length + 1) cp] 44 (0, 0)) ∧ w.cell? ⟨g, 1, none⟩ = some (.int .i64 a.f1) ∧ g < w.heap.size := by
  obtain ⟨v, h1, h2, h3, h4, h5⟩ := h
  obtain ⟨_, inner, ho, hr⟩ := h5
  rcases ho.2 with ⟨hn, _⟩ | ⟨g, cap, cur, hv, hgb, hb, k1, k2, k3, k4⟩
  · exfalso
    have ho' : w.ownsRow B 53 k53.sz v (a :: l).length inner := ho
    obtain ⟨A, c, hA⟩ := own_slice ho'
    rw [hn] at hA
    simp at hA
  · subst hv
    have hR : Kd.R k53 53 w B (fun k => some k = o) (.slice (some ⟨g, 0, none⟩) (a :: l).length cap) (a :: l) := ⟨by assumption, inner, ho, hr⟩
    obtain ⟨_, _, hC⟩ := Kd.R_reads' hR
    obtain ⟨ad, e, _, hx⟩ := at_T53 hC 0 (by omega) (by simp)
    cases e
    refine ⟨g, cap, h2, ?_, blk_lt hb⟩
    simpa [add_plain, rd_T53] using hx
end Go.Proofs.Ytnenheaijacphaa.PAlarm
