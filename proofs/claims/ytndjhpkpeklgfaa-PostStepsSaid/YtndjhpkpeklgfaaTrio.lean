/- A post, two rows beside it, and boxes (G): what stays as it was. -/
import Derived.Test.YtndjhpkpeklgfaaTwice
import Derived.Test.YtndjhpkpeklgfaaSteps5
import Derived.Test.YtndjhpkpeklgfaaSorted
namespace Go.Proofs.Ytndjhpkpeklgfaa.PPost
open Go Go.RowKit Go.Proofs.YtndjhpkpeklgfaaW.PrintWords Go.Proofs.YtndjhpkpeklgfaaW.PrintLast Go.Proofs.YtndjhpkpeklgfaaW.PrintMore Go.Proofs.Ytndjhpkpeklgfaa.Sl
set_option linter.unusedVariables false
set_option linter.unusedSimpArgs false

theorem R_own {α : Type} {d : Kd α} (hd : ∀ {w : World} {base : Nat} {ok1 ok2 : Nat → Prop} {x : α} {cs : List Value}, d.M w base ok1 x cs → d.M w base ok2 x cs) {e base : Nat} {ok : Nat → Prop} {w : World} {v : Value} {l : List α} (h : Kd.R d e w base ok v l) : Kd.R d e w base (fun k => v.ownBlock = some k) v l :=
  Kd.R_flat (fun hx => hd hx) h (fun k hk _ => hk)
theorem R_free {α : Type} {d : Kd α} (hd : ∀ {w : World} {base : Nat} {ok1 ok2 : Nat → Prop} {x : α} {cs : List Value}, d.M w base ok1 x cs → d.M w base ok2 x cs) {e base : Nat} {S : Nat → Prop} {w w' : World} {v : Value} {l : List α} (h : Kd.R d e w base (fun _ => True) v l) (k : Kp S w w') (hn : ∀ b, v.ownBlock = some b → ¬ S b) : Kd.R d e w' base (fun _ => True) v l :=
  Kd.R_mono (R_kp (R_own hd h) k hn) (fun _ _ => trivial)
theorem fl29 {w : World} {base : Nat} {ok1 ok2 : Nat → Prop} {x : S29} {cs : List Value} (h : k29.M w base ok1 x cs) : k29.M w base ok2 x cs := by obtain rfl := k29_openM h; exact k29_mkM _ _ _ _
theorem flI {w : World} {base : Nat} {ok1 ok2 : Nat → Prop} {x : Int} {cs : List Value} (h : (Kd.int .i64).M w base ok1 x cs) : (Kd.int .i64).M w base ok2 x cs := h
theorem R_lt {α : Type} {d : Kd α} {e base : Nat} {ok : Nat → Prop} {w : World} {v : Value} {l : List α} (h : Kd.R d e w base ok v l) : ∀ k, v.ownBlock = some k → base ≤ k ∧ k < w.heap.size := by
  obtain ⟨_, inner, ho, _⟩ := h
  exact fun k hk => ⟨own_base ho k hk, own_lt ho k hk⟩

structure Trio (G : Nat → Prop) (w0 w : World) (B p : Nat) (o : Option Nat) (last : Int) (L : List S52) (bv : Value) (bodies : List S29) (tv : Value) (taken : List Int) : Prop where
  size0 : B ≤ w.heap.size
  below : Below B w0 w
  po : Po 58 35 w B p o 4 last L
  rb : Kd.R k29 29 w B (fun _ => True) bv bodies
  rt : Kd.R (Kd.int .i64) 3 w B (fun _ => True) tv taken
  dp : bv.ownBlock ≠ some p ∧ tv.ownBlock ≠ some p
  db : ∀ b, bv.ownBlock = some b → o ≠ some b ∧ tv.ownBlock ≠ some b
  dt : ∀ b, tv.ownBlock = some b → o ≠ some b
  gs : ∀ g, G g → g < w.heap.size ∧ ¬ Its p o g ∧ bv.ownBlock ≠ some g ∧ tv.ownBlock ≠ some g ∧ B ≤ g
variable {G : Nat → Prop} {w0 w w' : World} {B p : Nat} {o : Option Nat} {last : Int} {L : List S52} {bv : Value} {bodies : List S29} {tv : Value} {taken : List Int}
theorem Trio.lt (h : Trio G w0 w B p o last L bv bodies tv taken) {g : Nat} (hg : w.heap.size ≤ g) : ¬ Its p o g ∧ bv.ownBlock ≠ some g ∧ tv.ownBlock ≠ some g :=
  ⟨fun k => by have := (h.po.its g k).2; omega, fun k => by have := (R_lt h.rb g k).2; omega, fun k => by have := (R_lt h.rt g k).2; omega⟩
/-- What turns nothing but boxes, or what is new. -/
theorem Trio.move (h : Trio G w0 w B p o last L bv bodies tv taken) (k : Kp G w w') : Trio G w0 w' B p o last L bv bodies tv taken :=
  ⟨Nat.le_trans h.size0 k.size, h.below.trans (k.toBelow (fun b hb => (h.gs b hb).2.2.2.2) h.size0), h.po.move k (fun b hb hg => (h.gs b hg).2.1 hb), R_free fl29 h.rb k (fun b hb hg => (h.gs b hg).2.2.1 hb), R_free flI h.rt k (fun b hb hg => (h.gs b hg).2.2.2.1 hb), h.dp, h.db, h.dt,
    fun g hg => by obtain ⟨a, b⟩ := h.gs g hg; exact ⟨Nat.lt_of_lt_of_le a k.size, b⟩⟩
theorem Trio.step (h : Trio G w0 w B p o last L bv bodies tv taken) (k : Below w.heap.size w w') : Trio G w0 w' B p o last L bv bodies tv taken := h.move (Kp.of_below k)
/-- A box more. -/
theorem Trio.box (h : Trio G w0 w B p o last L bv bodies tv taken) (k : Below w.heap.size w w') {g : Nat} (hg : g = w.heap.size) (hlt : g < w'.heap.size) : Trio (fun b => G b ∨ b = g) w0 w' B p o last L bv bodies tv taken := by
  have h1 := h.step k
  obtain ⟨a, b, c⟩ := h.lt (g := g) (by omega)
  refine { h1 with gs := ?_ }
  rintro x (hx | rfl)
  · exact h1.gs x hx
  · exact ⟨hlt, a, b, c, by have := h.size0; omega⟩
theorem Trio.drop (h : Trio G w0 w B p o last L bv bodies tv taken) : Trio (fun _ => False) w0 w B p o last L bv bodies tv taken := { h with gs := fun _ hf => hf.elim }
/-- Behind a method of the post. -/
theorem Trio.then_ {last' : Int} {L' : List S52} (h : Trio G w0 w B p o last L bv bodies tv taken) (t : Then 58 35 w w' B p o 4 last' L') : ∃ o', Trio G w0 w' B p o' last' L' bv bodies tv taken ∧ ∀ g, G g → w'.heap[g]? = w.heap[g]? := by
  have hb := Then.toBelow h.po h.below h.size0 t
  have hsz := t.size
  obtain ⟨o', t1, t2, t3⟩ := t
  have hin : ∀ b, b < w.heap.size → ¬ Its p o b → ¬ Its p o' b := by
    intro b hlt hn hi
    rcases hi with rfl | hi
    · exact hn (.inl rfl)
    · rcases t3 with e | ⟨c, e, hc⟩
      · exact hn (.inr (by rw [← e]; exact hi))
      · rw [e] at hi; obtain rfl := Option.some.inj hi; omega
  have nb : ∀ b, bv.ownBlock = some b → ¬ Its p o b := fun b hb hi => by
    rcases hi with rfl | hi
    · exact h.dp.1 hb
    · exact (h.db b hb).1 hi.symm
  have nt : ∀ b, tv.ownBlock = some b → ¬ Its p o b := fun b hb hi => by
    rcases hi with rfl | hi
    · exact h.dp.2 hb
    · exact h.dt b hb hi.symm
  refine ⟨o', ⟨Nat.le_trans h.size0 hsz, hb, t1, R_free fl29 h.rb t2 nb, R_free flI h.rt t2 nt, h.dp, fun b hb => ⟨fun e => hin b (R_lt h.rb b hb).2 (nb b hb) (.inr e.symm), (h.db b hb).2⟩, fun b hb e => hin b (R_lt h.rt b hb).2 (nt b hb) (.inr e.symm), fun g hg => ?_⟩, fun g hg => t2.block g (h.gs g hg).1 (h.gs g hg).2.1⟩
  obtain ⟨a, b, c⟩ := h.gs g hg
  exact ⟨Nat.lt_of_lt_of_le a hsz, hin g a b, c⟩
theorem grown_kp {W w1 : World} {row : Option Nat} (g : W.grownBy w1 row) : Kp (fun b => row = some b) W w1 := (Kp.refl _ W).grown g (fun k hk => .inl hk)
/-- Behind what has grown the first row. -/
theorem Trio.grow_b {v1 : Value} {l1 : List S29} (h : Trio G w0 w B p o last L bv bodies tv taken) (r : Kd.R k29 29 w' B (fun _ => True) v1 l1) (hb : Below B w0 w') (g : w.grownBy w' bv.ownBlock) (hv : v1.ownBlock = bv.ownBlock ∨ ∃ b, v1.ownBlock = some b ∧ w.heap.size ≤ b) : Trio G w0 w' B p o last L v1 l1 tv taken ∧ ∀ x, G x → w'.heap[x]? = w.heap[x]? := by
  have k := grown_kp g
  have hs := k.size
  have hne : ∀ b, b < w.heap.size → bv.ownBlock ≠ some b → v1.ownBlock ≠ some b := fun b hlt hn e => by
    rcases hv with e1 | ⟨c, e1, hc⟩
    · exact hn (by rw [← e1]; exact e)
    · rw [e] at e1; obtain rfl := Option.some.inj e1; omega
  refine ⟨⟨Nat.le_trans h.size0 hs, hb, h.po.move k (fun b hi hx => ?_), r, R_free flI h.rt k (fun b hb hx => (h.db b hx).2 hb), ⟨hne p (h.po.its p (.inl rfl)).2 h.dp.1, h.dp.2⟩, fun b hb => ⟨fun e => ?_, fun e => ?_⟩, h.dt, fun x hx => ?_⟩, fun x hx => k.block x (h.gs x hx).1 (h.gs x hx).2.2.1⟩
  · rcases hi with rfl | hi
    · exact h.dp.1 hx
    · exact (h.db b hx).1 hi.symm
  · exact hne b (h.po.its b (.inr e.symm)).2 (fun hx => (h.db b hx).1 e) hb
  · exact hne b (R_lt h.rt b e).2 (fun hx => (h.db b hx).2 e) hb
  · obtain ⟨a, b, c, d, f⟩ := h.gs x hx
    exact ⟨Nat.lt_of_lt_of_le a hs, b, hne x a c, d, f⟩
theorem Trio.grow_t {v1 : Value} {l1 : List Int} (h : Trio G w0 w B p o last L bv bodies tv taken) (r : Kd.R (Kd.int .i64) 3 w' B (fun _ => True) v1 l1) (hb : Below B w0 w') (g : w.grownBy w' tv.ownBlock) (hv : v1.ownBlock = tv.ownBlock ∨ ∃ b, v1.ownBlock = some b ∧ w.heap.size ≤ b) : Trio G w0 w' B p o last L bv bodies v1 l1 ∧ ∀ x, G x → w'.heap[x]? = w.heap[x]? := by
  have k := grown_kp g
  have hs := k.size
  have hne : ∀ b, b < w.heap.size → tv.ownBlock ≠ some b → v1.ownBlock ≠ some b := fun b hlt hn e => by
    rcases hv with e1 | ⟨c, e1, hc⟩
    · exact hn (by rw [← e1]; exact e)
    · rw [e] at e1; obtain rfl := Option.some.inj e1; omega
  refine ⟨⟨Nat.le_trans h.size0 hs, hb, h.po.move k (fun b hi hx => ?_), R_free fl29 h.rb k (fun b hb hx => (h.db b hb).2 hx), r, ⟨h.dp.1, hne p (h.po.its p (.inl rfl)).2 h.dp.2⟩, fun b hb => ⟨(h.db b hb).1, fun e => ?_⟩, fun b hb e => ?_, fun x hx => ?_⟩, fun x hx => k.block x (h.gs x hx).1 (h.gs x hx).2.2.2.1⟩
  · rcases hi with rfl | hi
    · exact h.dp.2 hx
    · exact h.dt b hx hi.symm
  · exact hne b (R_lt h.rb b hb).2 (fun hx => (h.db b hb).2 hx) e
  · exact hne b (h.po.its b (.inr e.symm)).2 (fun hx => h.dt b hx e) hb
  · obtain ⟨a, b, c, d, f⟩ := h.gs x hx
    exact ⟨Nat.lt_of_lt_of_le a hs, b, c, hne x a d, f⟩
/-! ### the letters, what was sent, what was taken -/
structure Once (k : Nat) (last : Int) (L : List S52) (bodies : List S29) (taken : List Int) : Prop where
  fit : Fit L last k
  len : (bodies.length : Int) = last + 1
  sent : ∀ i, i < L.length → (rd_T29 bodies (rd_T52 L (i : Int)).f0).f1 = (rd_T52 L (i : Int)).f1 ∧ (rd_T29 bodies (rd_T52 L (i : Int)).f0).f2 = (rd_T52 L (i : Int)).f2 ∧ (rd_T29 bodies (rd_T52 L (i : Int)).f0).f4 = (rd_T52 L (i : Int)).f3
  gone : ∀ t ∈ taken, t ≤ last ∧ ∀ i, i < L.length → (rd_T52 L (i : Int)).f0 ≠ t
  lent : taken.length ≤ k
theorem Once.start : Once 0 0 [] [z29] [] := ⟨Fit.nil, by decide, fun i h => absurd h (by simp), fun t h => by simp at h, by simp⟩
theorem Once.mono {k k' : Nat} (h : Once k last L bodies taken) (hk : k ≤ k') : Once k' last L bodies taken := ⟨h.fit.mono hk, h.len, h.sent, h.gone, Nat.le_trans h.lent hk⟩
theorem rd29_snoc (l : List S29) (x : S29) (i : Int) (h0 : 0 ≤ i) : rd_T29 (l ++ [x]) i = if i < l.length then rd_T29 l i else if i = l.length then x else z29 := by
  obtain ⟨i, rfl⟩ := Int.eq_ofNat_of_zero_le h0
  simp only [rd_T29, Int.toNat_natCast, List.getD_eq_getElem?_getD]
  split
  · rename_i h; rw [List.getElem?_append_left (by omega)]
  · rename_i h
    rw [List.getElem?_append_right (by omega)]
    split
    · rename_i e; simp [show i = l.length by omega]
    · rename_i e; rw [List.getElem?_eq_none (by simp; omega)]; rfl
theorem Once.snoc {k : Nat} (h : Once k last L bodies taken) (a b : Int) (s : ByteArray) (hs : s.size ≤ 65535) (x : S29) (h1 : x.f1 = a) (h2 : x.f2 = b) (h4 : x.f4 = s) : Once (k + 1) (last + 1) (L ++ [⟨last + 1, a, b, s⟩]) (bodies ++ [x]) taken := by
  have hl := h.len
  have h0 := h.fit.last0
  refine ⟨h.fit.snoc a b s hs, by simp; omega, fun i hi => ?_, fun t ht => ⟨by have := (h.gone t ht).1; omega, fun i hi => ?_⟩, by have := h.lent; omega⟩
  · simp at hi
    rw [rd_snoc]
    by_cases e : i < L.length
    · rw [if_pos e]
      have hb := h.fit.bound i e
      rw [rd29_snoc _ _ _ (by omega), if_pos (by omega)]
      exact h.sent i e
    · rw [if_neg e, if_pos (by omega)]
      show (rd_T29 (bodies ++ [x]) (last + 1)).f1 = a ∧ _
      rw [rd29_snoc _ _ _ (by omega), if_neg (by omega), if_pos (by omega)]
      exact ⟨h1, h2, h4⟩
  · simp at hi
    rw [rd_snoc]
    by_cases e : i < L.length
    · rw [if_pos e]; exact (h.gone t ht).2 i e
    · rw [if_neg e, if_pos (by omega)]
      have := (h.gone t ht).1
      show last + 1 ≠ t
      omega
theorem Once.again {k : Nat} (h : Once k last L bodies taken) {n : Int} (ht : there L n = true) : Once (k + 1) (last + 1) (L ++ [⟨last + 1, (rd_T52 L ((place L n : Nat) : Int)).f1, (rd_T52 L ((place L n : Nat) : Int)).f2, (rd_T52 L ((place L n : Nat) : Int)).f3⟩]) (bodies ++ [rd_T29 bodies n]) taken := by
  obtain ⟨a, b⟩ := there_ex ht
  obtain ⟨c1, c2, c3⟩ := h.sent _ a
  rw [b] at c1 c2 c3
  exact h.snoc _ _ _ (h.fit.body _ (rd_mem a)) _ c1 c2 c3
theorem Once.take {k : Nat} (h : Once k last L bodies taken) {n : Int} (ht : there L n = true) : Once (k + 1) last (tak L n) bodies (taken ++ [n]) := by
  obtain ⟨a, b⟩ := there_ex ht
  have hlen := List.length_eraseIdx_of_lt a
  refine ⟨(h.fit.tak n).mono (by omega), h.len, fun i hi => ?_, fun t hm => ?_, by simp; have := h.lent; omega⟩
  · rw [tak, if_pos ht] at hi ⊢
    rw [hlen] at hi
    rw [rd_erase]
    split
    · exact h.sent i (by omega)
    · exact h.sent (i + 1) (by omega)
  · rcases List.mem_append.1 hm with hm | hm
    · refine ⟨(h.gone t hm).1, fun i hi => ?_⟩
      rw [tak, if_pos ht] at hi ⊢
      rw [hlen] at hi
      rw [rd_erase]
      split
      · exact (h.gone t hm).2 i (by omega)
      · exact (h.gone t hm).2 (i + 1) (by omega)
    · rw [List.mem_singleton.1 hm]
      refine ⟨by rw [← b]; exact (h.fit.bound _ a).2, fun i hi => ?_⟩
      rw [tak, if_pos ht] at hi ⊢
      rw [hlen] at hi
      rw [rd_erase]
      split
      · have := h.fit.up i _ (by assumption) a; omega
      · have := h.fit.up (place L n) (i + 1) (by omega) (by omega); omega
end Go.Proofs.Ytndjhpkpeklgfaa.PPost
