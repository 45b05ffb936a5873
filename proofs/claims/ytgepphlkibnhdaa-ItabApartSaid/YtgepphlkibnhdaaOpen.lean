/- Arguments of any plain type are opened: what the row reads as data is a value of the kind Kd, with its bounds. Generic over types: whole numbers, bools, strings, slices, structs, any nesting. -/
import Derived.Test.YtgepphlkibnhdaaWWords
import Derived.Deep.Slices
import Derived.Deep.Fields
import Derived.ChangeSame
import Derived.SizedLaws
namespace Go.Proofs.YtgepphlkibnhdaaW.Open
open Go Go.Proofs.YtgepphlkibnhdaaW.PrintWords Go.ChangeShapes Go.WideShapes Go.Deep
set_option linter.unusedVariables false

/-- What is read at type t is of kind d and within the bounds B. -/
def Opn {α : Type} (P : Program) (t : TypeId) (d : Kd α) (B : α → Prop) : Prop :=
  ∀ (H : Type) (enc : TypeId × Value → H) (W : World) (base : Nat) (spare : Nat → Bool) (held : Bool) (fuel : Nat) (cs : List Value) (x : DataW H × List MemPlace),
    DataW.trod enc P W base spare held fuel t cs = some x → (∀ n ∈ x.1.weights P t, n ≤ reachBytes) → ∃ a : α, d.K W a cs ∧ B a

/-- The same for fields in line, from the cell 'off' on. -/
def OpnL {α : Type} (P : Program) (off : Nat) (fs : List Field) (d : Kd α) (B : α → Prop) : Prop :=
  ∀ (H : Type) (enc : TypeId × Value → H) (W : World) (base : Nat) (spare : Nat → Bool) (held : Bool) (n : Nat) (cs : List Value) (xs : List (DataW H × List MemPlace)),
    cs.length = off + d.sz → xs.length = fs.length →
    (∀ (i : Nat) (f : Field), fs[i]? = some f → DataW.trod enc P W base spare held n f.type ((cs.drop f.offset).take (P.cellsOf f.type)) = xs[i]?) →
    (∀ m ∈ DataW.weightsEach P (fs.map (·.type)) (xs.map (·.1)), m ≤ reachBytes) → ∃ a : α, d.K W a (cs.drop off) ∧ B a

theorem Opn.int {P : Program} {t : TypeId} {k : IntKind} (ht : P.underlying t = some (.int k)) : Opn P t (Kd.int k) (fun n => (Lit.int k n).wf = true) := by
  intro H enc W base spare held fuel cs x h _
  obtain ⟨n, rfl, _, hw⟩ := DataW.trod_int ht h
  exact ⟨n, rfl, hw⟩
theorem Opn.bool {P : Program} {t : TypeId} (ht : P.underlying t = some .bool) : Opn P t Kd.bool (fun _ => True) := by
  intro H enc W base spare held fuel cs x h _
  obtain ⟨b, rfl, _⟩ := DataW.trod_bool ht h
  exact ⟨b, rfl, trivial⟩
theorem Opn.string {P : Program} {t : TypeId} (ht : P.underlying t = some .string) : Opn P t Kd.string (fun s => s.size ≤ reachBytes) := by
  intro H enc W base spare held fuel cs x h hw
  obtain ⟨s, rfl, rfl, _⟩ := DataW.trod_string ht h
  refine ⟨s, rfl, ?_⟩
  have := hw s.data.toList.length (by simp [DataW.weights])
  rw [Array.length_toList] at this
  exact this

theorem wt_all {H : Type} {P : Program} {e : TypeId} : ∀ {l : List (DataW H)} {d : DataW H}, d ∈ l → ∀ n ∈ d.weights P e, n ∈ DataW.weightsAll P e l
  | a :: l, d, hd, n, hn => by
    simp only [DataW.weightsAll, List.mem_append]
    rcases List.mem_cons.1 hd with rfl | hd
    · exact .inl hn
    · exact .inr (wt_all hd n hn)

theorem Opn.slice {α : Type} {P : Program} {t e : TypeId} {d : Kd α} {B : α → Prop} (ht : P.underlying t = some (.slice e)) (hc : P.cellsOf e = d.sz) (he : Opn P e d B) :
    Opn P t (Kd.slice e d) (fun l => l.length * P.bytesOf e ≤ reachBytes ∧ ∀ x ∈ l, B x) := by
  intro H enc W base spare held fuel cs x h hw
  rcases open_slice ht h with ⟨rfl, rfl⟩ | ⟨a, len, cap, m, n, D, Pl, rfl, hb, hl, hm, hmm, rfl, hi⟩
  · refine ⟨[], ⟨none, 0, rfl, Nat.le_refl _, ⟨rfl, by simp, fun h => absurd h (by simp)⟩⟩, by simp, fun x hx => by simp at hx⟩
  · have hlm : len ≤ m := by rw [hmm]; split <;> omega
    simp only [DataW.weights, ht] at hw
    have hel : ∀ i, i < len → ∃ (x : α) (cs' : List Value), W.cells? base (a.add (i * P.cellsOf e)) (P.cellsOf e) = some cs' ∧ d.K W x cs' ∧ B x := by
      intro i hlt
      obtain ⟨cs', h1, h2⟩ := hi i (by omega)
      obtain ⟨x, hx, hB⟩ := he H enc W base spare held n cs' _ h2 (fun q hq => hw q (by
        simp only [List.mem_cons, List.mem_append]
        exact .inr (.inl (wt_all (List.mem_map.2 ⟨i, by simpa using hlt, rfl⟩) q hq))))
      exact ⟨x, cs', h1, hx, hB⟩
    obtain ⟨f, hf⟩ : ∃ f : Nat → Option α, ∀ i, i < len → ∃ x cs', f i = some x ∧ W.cells? base (a.add (i * P.cellsOf e)) (P.cellsOf e) = some cs' ∧ d.K W x cs' ∧ B x := by
      classical
      refine ⟨fun i => if h : i < len then some (Classical.choose (hel i h)) else none, fun i hlt => ?_⟩
      obtain ⟨cs', h1⟩ := Classical.choose_spec (hel i hlt)
      exact ⟨_, cs', dif_pos hlt, h1⟩
    have hlenk : ∀ k, k ≤ len → ((List.range k).filterMap f).length = k := by
      intro k hk
      induction k with
      | zero => rfl
      | succ k ih =>
        obtain ⟨x, _, hx, _⟩ := hf k (by omega)
        rw [List.range_succ, List.filterMap_append, List.length_append, ih (by omega)]
        simp [hx]
    have hlen := hlenk len (Nat.le_refl _)
    have hget : ∀ k, k ≤ len → ∀ j p, ((List.range k).filterMap f)[j]? = some p → j < k ∧ f j = some p := by
      intro k hk
      induction k with
      | zero => intro j p h; simp at h
      | succ k ih =>
        intro j p h
        obtain ⟨x, _, hx, _⟩ := hf k (by omega)
        have hl2 := hlenk k (by omega)
        rw [List.range_succ, List.filterMap_append] at h
        rcases Nat.lt_or_ge j k with hj | hj
        · rw [List.getElem?_append_left (by omega)] at h
          obtain ⟨_, h2⟩ := ih (by omega) j p h
          exact ⟨by omega, h2⟩
        · rw [List.getElem?_append_right (by omega), hl2] at h
          have : j = k := by
            have := (List.getElem?_eq_some_iff.1 h).1
            simp [hx] at this
            omega
          subst this
          simp [hx] at h
          exact ⟨by omega, by rw [hx, h]⟩
    have hC : d.C W (some a) len ((List.range len).filterMap f) := by
      refine ⟨hlen, by simp only [maxLen] at hm; omega, fun _ => ⟨a, rfl, fun j p hj => ?_⟩⟩
      obtain ⟨hlt, hfj⟩ := hget len (Nat.le_refl _) j p hj
      obtain ⟨x, cs', hx, h1, h2, _⟩ := hf j hlt
      obtain rfl : x = p := by rw [hfj] at hx; exact (Option.some.inj hx).symm
      obtain ⟨_, hcl, hat⟩ := World.cells?_some h1
      refine ⟨cs', d.K_len h2, h2, fun i u hu => ?_⟩
      have hil : i < P.cellsOf e := by rw [← hcl]; exact (List.getElem?_eq_some_iff.1 hu).1
      have := hat i hil
      rw [← Go.Deep.add_add, ← hc, this, hu]
    refine ⟨(List.range len).filterMap f, ⟨some a, cap, by rw [hlen], by rw [hlen]; exact hl, by rw [hlen]; exact hC⟩, ?_, ?_⟩
    · rw [hlen]
      have h2 := hw (((List.map D (List.range len)).length + (List.map (fun j => D (len + j)) (List.range (m - len))).length) * P.bytesOf e) (by simp)
      refine Nat.le_trans (Nat.mul_le_mul_right _ ?_) h2
      simp
    · intro x hx
      obtain ⟨i, hi2, hxi⟩ := List.mem_filterMap.1 hx
      obtain ⟨y, _, hy, _, _, hB⟩ := hf i (by simpa using hi2)
      rw [hxi] at hy
      rw [Option.some.inj hy]
      exact hB

theorem OpnL.one {α : Type} {P : Program} {f : Field} {d : Kd α} {B : α → Prop} {off : Nat} (hoff : f.offset = off) (hc : P.cellsOf f.type = d.sz) (h : Opn P f.type d B) : OpnL P off [f] d B := by
  intro H enc W base spare held n cs xs hcs hxs hf hw
  match xs, hxs with
  | [x], _ =>
    have h0 := hf 0 f rfl
    rw [hoff, hc, List.take_of_length_le (by rw [List.length_drop]; omega)] at h0
    exact h H enc W base spare held n _ x h0 (fun q hq => hw q (by simpa [DataW.weightsEach] using hq))

theorem OpnL.cons {α β : Type} {P : Program} {f : Field} {fs : List Field} {d : Kd α} {d' : Kd β} {B : α → Prop} {B' : β → Prop} {off : Nat} (hoff : f.offset = off) (hc : P.cellsOf f.type = d.sz) (h : Opn P f.type d B) (hs : OpnL P (off + d.sz) fs d' B') :
    OpnL P off (f :: fs) (Kd.pair d d') (fun x => B x.1 ∧ B' x.2) := by
  intro H enc W base spare held n cs xs hcs hxs hf hw
  match xs, hxs with
  | x :: xs, hxs =>
    have hsz : (Kd.pair d d').sz = d.sz + d'.sz := rfl
    have h0 := hf 0 f rfl
    rw [hoff, hc] at h0
    simp only [List.map_cons, DataW.weightsEach, List.mem_append] at hw
    obtain ⟨a, ha, hB⟩ := h H enc W base spare held n _ x h0 (fun q hq => hw q (.inl hq))
    obtain ⟨b, hb, hB'⟩ := hs H enc W base spare held n cs xs (by omega) (by simpa using hxs) (fun i g hg => hf (i + 1) g hg) (fun q hq => hw q (.inr hq))
    refine ⟨(a, b), ⟨_, _, ?_, ha, hb⟩, hB, hB'⟩
    rw [← List.drop_drop, List.take_append_drop]

theorem Opn.struct {α β : Type} {P : Program} {t : TypeId} {fs : Array Field} {d : Kd α} {f : β → α} {g : α → β} {B : α → Prop} (ht : P.underlying t = some (.struct fs)) (hc : P.cellsOf t = d.sz) (hg : ∀ a, f (g a) = a) (h : OpnL P 0 fs.toList d B) :
    Opn P t (Kd.iso d f) (fun x => B (f x)) := by
  intro H enc W base spare held fuel cs x hx hw
  obtain ⟨xs, n, _, rfl, hlen, hxl, hf⟩ := DataW.trod_struct ht hx
  simp only [DataW.weights, ht] at hw
  obtain ⟨a, ha, hB⟩ := h H enc W base spare held n cs xs (by omega) (by simpa using hxl) (fun i q hq => hf i q (by simpa using hq)) hw
  rw [List.drop_zero] at ha
  exact ⟨g a, by show d.K W (f (g a)) cs; rw [hg]; exact ha, by show B (f (g a)); rw [hg]; exact hB⟩

theorem Opn.imp {α : Type} {P : Program} {t : TypeId} {d : Kd α} {B B' : α → Prop} (h : Opn P t d B) (hB : ∀ a, B a → B' a) : Opn P t d B' := by
  intro H enc W base spare held fuel cs x hx hw
  obtain ⟨a, ha, hb⟩ := h H enc W base spare held fuel cs x hx hw
  exact ⟨a, ha, hB a hb⟩

/-- An argument's own reading. -/
theorem Opn.arg {α : Type} {P : Program} {t : TypeId} {d : Kd α} {B : α → Prop} (h : Opn P t d B) {H : Type} {enc : TypeId × Value → H} {W : World} {base : Nat} {spare : Nat → Bool} {held : Bool} {v : Value} {x : DataW H} {ps : List MemPlace} {ts : List TypeId} {ds : List (DataW H)} {j : Nat}
    (hsz : (DataW.weightsEach P ts ds).all (· ≤ reachBytes) = true) (ht : ts[j]? = some t) (hd : ds[j]? = some x) (hx : DataW.Trod enc P W base spare held t v x ps) : ∃ a : α, d.K W a v.cells.toList ∧ B a := by
  obtain ⟨fuel, hf⟩ := hx
  exact h H enc W base spare held fuel _ _ hf (fun n hn => by
    have := List.all_eq_true.1 hsz _ (DataW.weights_mem_each ht hd n hn)
    simpa using this)

end Go.Proofs.YtgepphlkibnhdaaW.Open
