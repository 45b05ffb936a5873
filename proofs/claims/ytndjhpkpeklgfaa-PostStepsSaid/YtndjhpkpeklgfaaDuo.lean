/- A post and the reference's post, beside boxes (G): what stays as it was. -/
import Derived.Test.YtndjhpkpeklgfaaRFlips
namespace Go.Proofs.Ytndjhpkpeklgfaa.PPost
open Go Go.RowKit Go.Proofs.YtndjhpkpeklgfaaW.PrintWords Go.Proofs.YtndjhpkpeklgfaaW.PrintLast Go.Proofs.YtndjhpkpeklgfaaW.PrintMore Go.Proofs.Ytndjhpkpeklgfaa.Sl
set_option linter.unusedVariables false
set_option linter.unusedSimpArgs false
structure Duo (G : Nat → Prop) (w0 w : World) (B p r : Nat) (o q : Option Nat) (nodes last1 last2 : Int) (L1 L2 : List S52) : Prop where
  size0 : B ≤ w.heap.size
  below : Below B w0 w
  po : Po 58 35 w B p o nodes last1 L1
  re : Po 51 52 w B r q nodes last2 L2
  ap : ∀ b, Its p o b → ¬ Its r q b
  gs : ∀ g, G g → g < w.heap.size ∧ ¬ Its p o g ∧ ¬ Its r q g ∧ B ≤ g
variable {G : Nat → Prop} {w0 w w' : World} {B p r : Nat} {o q : Option Nat} {nodes last1 last2 : Int} {L1 L2 : List S52}
/-- What turns nothing but boxes, or what is new. -/
theorem Duo.move (h : Duo G w0 w B p r o q nodes last1 last2 L1 L2) (k : Kp G w w') : Duo G w0 w' B p r o q nodes last1 last2 L1 L2 :=
  ⟨Nat.le_trans h.size0 k.size, h.below.trans (k.toBelow (fun b hb => (h.gs b hb).2.2.2) h.size0), h.po.move k (fun b hb hg => (h.gs b hg).2.1 hb), h.re.move k (fun b hb hg => (h.gs b hg).2.2.1 hb), h.ap,
    fun g hg => by obtain ⟨a, b⟩ := h.gs g hg; exact ⟨Nat.lt_of_lt_of_le a k.size, b⟩⟩
theorem Duo.step (h : Duo G w0 w B p r o q nodes last1 last2 L1 L2) (k : Below w.heap.size w w') : Duo G w0 w' B p r o q nodes last1 last2 L1 L2 := h.move (Kp.of_below k)
/-- A box more. -/
theorem Duo.box (h : Duo G w0 w B p r o q nodes last1 last2 L1 L2) (k : Below w.heap.size w w') {g : Nat} (hg : g = w.heap.size) (hlt : g < w'.heap.size) : Duo (fun b => G b ∨ b = g) w0 w' B p r o q nodes last1 last2 L1 L2 := by
  have h1 := h.step k
  refine { h1 with gs := ?_ }
  rintro x (hx | rfl)
  · exact h1.gs x hx
  · exact ⟨hlt, fun hi => by have := (h.po.its x hi).2; omega, fun hi => by have := (h.re.its x hi).2; omega, by have := h.size0; omega⟩
theorem Duo.drop (h : Duo G w0 w B p r o q nodes last1 last2 L1 L2) : Duo (fun _ => False) w0 w B p r o q nodes last1 last2 L1 L2 := { h with gs := fun _ hf => hf.elim }
theorem thn_in {T E : Nat} {last' : Int} {L' : List S52} {o' : Option Nat} (t3 : ∀ b, o' = some b → o = some b ∨ w.heap.size ≤ b) {b : Nat} (hi : Its p o' b) : Its p o b ∨ w.heap.size ≤ b := by
  rcases hi with rfl | hi
  · exact .inl (.inl rfl)
  · rcases t3 b hi.symm with e | e
    · exact .inl (.inr e.symm)
    · exact .inr e
/-- Behind a method of the post. -/
theorem Duo.one {last' : Int} {L' : List S52} (h : Duo G w0 w B p r o q nodes last1 last2 L1 L2) (t : Thn 58 35 w w' B p o nodes last' L') : ∃ o', Duo G w0 w' B p r o' q nodes last' last2 L' L2 ∧ ∀ g, G g → w'.heap[g]? = w.heap[g]? := by
  obtain ⟨o', t1, t2, t3⟩ := t
  have hi : ∀ b, Its p o' b → Its p o b ∨ w.heap.size ≤ b := fun b hb => thn_in (T := 58) (E := 35) (last' := last') (L' := L') t3 hb
  refine ⟨o', ⟨Nat.le_trans h.size0 t2.size, h.below.trans (t2.toBelow (fun b hb => (h.po.its b hb).1) h.size0), t1, h.re.move t2 (fun b hb hs => h.ap b hs hb), fun b hb hr => ?_, fun g hg => ?_⟩, fun g hg => t2.block g (h.gs g hg).1 (h.gs g hg).2.1⟩
  · rcases hi b hb with e | e
    · exact h.ap b e hr
    · have := (h.re.its b hr).2; omega
  · obtain ⟨a, b, c, d⟩ := h.gs g hg
    refine ⟨Nat.lt_of_lt_of_le a t2.size, fun hb => ?_, c, d⟩
    rcases hi g hb with e | e
    · exact b e
    · omega
/-- Behind a method of the reference's. -/
theorem Duo.two {last' : Int} {L' : List S52} (h : Duo G w0 w B p r o q nodes last1 last2 L1 L2) (t : Thn 51 52 w w' B r q nodes last' L') : ∃ q', Duo G w0 w' B p r o q' nodes last1 last' L1 L' ∧ ∀ g, G g → w'.heap[g]? = w.heap[g]? := by
  obtain ⟨q', t1, t2, t3⟩ := t
  have hi : ∀ b, Its r q' b → Its r q b ∨ w.heap.size ≤ b := fun b hb => thn_in (T := 51) (E := 52) (last' := last') (L' := L') t3 hb
  refine ⟨q', ⟨Nat.le_trans h.size0 t2.size, h.below.trans (t2.toBelow (fun b hb => (h.re.its b hb).1) h.size0), h.po.move t2 (fun b hb hs => h.ap b hb hs), t1, fun b hb hr => ?_, fun g hg => ?_⟩, fun g hg => t2.block g (h.gs g hg).1 (h.gs g hg).2.2.1⟩
  · rcases hi b hr with e | e
    · exact h.ap b hb e
    · have := (h.po.its b hb).2; omega
  · obtain ⟨a, b, c, d⟩ := h.gs g hg
    refine ⟨Nat.lt_of_lt_of_le a t2.size, b, fun hb => ?_, d⟩
    rcases hi g hb with e | e
    · exact c e
    · omega
/-! ### the methods -/
theorem duo_send (h : Duo G w0 w B p r o q nodes last1 last2 L1 L2) (hl : L1.length ≤ 2048) (h0 : 0 ≤ last1) (hm : last1 < 1000000000000000000) (f t : Int) (s : ByteArray) :
    Calls Try.prog 10 #[.pointer (some ⟨p, 0, none⟩), .int .i64 f, .int .i64 t, .string s] w fun e w' => e = .returned (.tuple #[.int .i64 (snd nodes last1 L1 f t s).1, .int .i64 (snd nodes last1 L1 f t s).2.1]) ∧ ∃ o', Duo G w0 w' B p r o' q nodes (snd nodes last1 L1 f t s).2.2.1 last2 (snd nodes last1 L1 f t s).2.2.2 L2 ∧ ∀ g, G g → w'.heap[g]? = w.heap[g]? :=
  (send_calls B p o nodes last1 L1 f t s w h.po h.size0 hl h0 hm).mono fun e w' ⟨a, b⟩ => ⟨a, h.one b.thn⟩
theorem duo_rsend (h : Duo G w0 w B p r o q nodes last1 last2 L1 L2) (hl : L2.length ≤ 2048) (h0 : 0 ≤ last2) (hm : last2 < 1000000000000000000) (f t : Int) (s : ByteArray) :
    Calls Try.prog 23 #[.pointer (some ⟨r, 0, none⟩), .int .i64 f, .int .i64 t, .string s] w fun e w' => e = .returned (.tuple #[.int .i64 (snd nodes last2 L2 f t s).1, .int .i64 (snd nodes last2 L2 f t s).2.1]) ∧ ∃ q', Duo G w0 w' B p r o q' nodes last1 (snd nodes last2 L2 f t s).2.2.1 L1 (snd nodes last2 L2 f t s).2.2.2 ∧ ∀ g, G g → w'.heap[g]? = w.heap[g]? :=
  (rsend_calls B r q nodes last2 L2 f t s w h.re h.size0 hl h0 hm).mono fun e w' ⟨a, b⟩ => ⟨a, h.two b.thn⟩
theorem duo_again (h : Duo G w0 w B p r o q nodes last1 last2 L1 L2) (hl : L1.length ≤ 2048) (h0 : 0 ≤ last1) (hm : last1 < 1000000000000000000) (n : Int) :
    Calls Try.prog 11 #[.pointer (some ⟨p, 0, none⟩), .int .i64 n] w fun e w' => e = .returned (.tuple #[.int .i64 (agn last1 L1 n).1, .int .i64 (agn last1 L1 n).2.1]) ∧ ∃ o', Duo G w0 w' B p r o' q nodes (agn last1 L1 n).2.2.1 last2 (agn last1 L1 n).2.2.2 L2 ∧ ∀ g, G g → w'.heap[g]? = w.heap[g]? :=
  (again_calls B p o nodes last1 L1 n w h.po h.size0 hl h0 hm).mono fun e w' ⟨a, b⟩ => ⟨a, h.one b.thn⟩
theorem duo_ragain (h : Duo G w0 w B p r o q nodes last1 last2 L1 L2) (U : Up L2) (hl : L2.length ≤ 2048) (h0 : 0 ≤ last2) (hm : last2 < 1000000000000000000) (n : Int) :
    Calls Try.prog 26 #[.pointer (some ⟨r, 0, none⟩), .int .i64 n] w fun e w' => e = .returned (.tuple #[.int .i64 (agn last2 L2 n).1, .int .i64 (agn last2 L2 n).2.1]) ∧ ∃ q', Duo G w0 w' B p r o q' nodes last1 (agn last2 L2 n).2.2.1 L1 (agn last2 L2 n).2.2.2 ∧ ∀ g, G g → w'.heap[g]? = w.heap[g]? :=
  (ragain_calls B r q nodes last2 L2 n w h.re U h.size0 hl h0 hm).mono fun e w' ⟨a, b⟩ => ⟨a, h.two b.thn⟩
theorem duo_flip (h : Duo G w0 w B p r o q nodes last1 last2 L1 L2) (hl : L1.length ≤ 2048) (hs : ∀ x ∈ L1, x.f3.size ≤ 65535) (n bit : Int) :
    Calls Try.prog 13 #[.pointer (some ⟨p, 0, none⟩), .int .i64 n, .int .i64 bit] w fun e w' => e = .returned (.int .i64 (flp L1 n bit).1) ∧ ∃ o', Duo G w0 w' B p r o' q nodes last1 last2 (flp L1 n bit).2 L2 ∧ ∀ g, G g → w'.heap[g]? = w.heap[g]? :=
  (flip_calls B p o nodes last1 L1 n bit w h.po (by omega) hs).mono fun e w' ⟨a, b⟩ => ⟨a, h.one b.thn⟩
theorem duo_rflip (h : Duo G w0 w B p r o q nodes last1 last2 L1 L2) (U : Up L2) (hl : L2.length ≤ 2048) (hs : ∀ x ∈ L2, x.f3.size ≤ 65535) (n bit : Int) (hm : bit ≤ 9223372036854775807) :
    Calls Try.prog 27 #[.pointer (some ⟨r, 0, none⟩), .int .i64 n, .int .i64 bit] w fun e w' => e = .returned (.int .i64 (flp L2 n bit).1) ∧ ∃ q', Duo G w0 w' B p r o q' nodes last1 last2 L1 (flp L2 n bit).2 ∧ ∀ g, G g → w'.heap[g]? = w.heap[g]? :=
  (rflip_calls B r q nodes last2 L2 n bit w h.re U hl hs hm).mono fun e w' ⟨a, b⟩ => ⟨a, h.two b.thn⟩
theorem duo_take (h : Duo G w0 w B p r o q nodes last1 last2 L1 L2) (hl : L1.length ≤ 2048) (n : Int) :
    Calls Try.prog 12 #[.pointer (some ⟨p, 0, none⟩), .int .i64 n] w fun e w' => e = .returned (.tuple #[.agg #[.int .i64 (see L1 n).1.f0, .int .i64 (see L1 n).1.f1, .int .i64 (see L1 n).1.f2, .string (see L1 n).1.f3], .int .i64 (see L1 n).2]) ∧ ∃ o', Duo G w0 w' B p r o' q nodes last1 last2 (tak L1 n) L2 ∧ ∀ g, G g → w'.heap[g]? = w.heap[g]? :=
  (take_calls B p o nodes last1 L1 n w h.po (by omega)).mono fun e w' ⟨a, b⟩ => ⟨a, h.one b.thn⟩
theorem duo_lose (h : Duo G w0 w B p r o q nodes last1 last2 L1 L2) (hl : L1.length ≤ 2048) (n : Int) :
    Calls Try.prog 19 #[.pointer (some ⟨p, 0, none⟩), .int .i64 n] w fun e w' => e = .returned (.int .i64 (see L1 n).2) ∧ ∃ o', Duo G w0 w' B p r o' q nodes last1 last2 (tak L1 n) L2 ∧ ∀ g, G g → w'.heap[g]? = w.heap[g]? :=
  (lose_calls B p o nodes last1 L1 n w h.po (by omega)).mono fun e w' ⟨a, b⟩ => ⟨a, h.one b.thn⟩
theorem duo_rtake (h : Duo G w0 w B p r o q nodes last1 last2 L1 L2) (U : Up L2) (hl : L2.length ≤ 2048) (n : Int) :
    Calls Try.prog 24 #[.pointer (some ⟨r, 0, none⟩), .int .i64 n] w fun e w' => e = .returned (.tuple #[.agg #[.int .i64 (see L2 n).1.f0, .int .i64 (see L2 n).1.f1, .int .i64 (see L2 n).1.f2, .string (see L2 n).1.f3], .int .i64 (see L2 n).2]) ∧ ∃ q', Duo G w0 w' B p r o q' nodes last1 last2 L1 (tak L2 n) ∧ ∀ g, G g → w'.heap[g]? = w.heap[g]? :=
  (rtake_calls B r q nodes last2 L2 n w h.re h.size0 U hl).mono fun e w' ⟨a, b⟩ => ⟨a, h.two b⟩
theorem duo_see (h : Duo G w0 w B p r o q nodes last1 last2 L1 L2) (hl : L1.length ≤ 2048) (n : Int) :
    Calls Try.prog 14 #[.pointer (some ⟨p, 0, none⟩), .int .i64 n] w fun e w' => e = .returned (.tuple #[.agg #[.int .i64 (see L1 n).1.f0, .int .i64 (see L1 n).1.f1, .int .i64 (see L1 n).1.f2, .string (see L1 n).1.f3], .int .i64 (see L1 n).2]) ∧ ∃ o', Duo G w0 w' B p r o' q nodes last1 last2 L1 L2 ∧ ∀ g, G g → w'.heap[g]? = w.heap[g]? :=
  (see_calls B p o nodes last1 L1 n w h.po (by omega)).mono fun e w' ⟨a, b⟩ => ⟨a, h.one (Then.same h.po b).thn⟩
theorem duo_rsee (h : Duo G w0 w B p r o q nodes last1 last2 L1 L2) (U : Up L2) (hl : L2.length ≤ 2048) (n : Int) :
    Calls Try.prog 28 #[.pointer (some ⟨r, 0, none⟩), .int .i64 n] w fun e w' => e = .returned (.tuple #[.agg #[.int .i64 (see L2 n).1.f0, .int .i64 (see L2 n).1.f1, .int .i64 (see L2 n).1.f2, .string (see L2 n).1.f3], .int .i64 (see L2 n).2]) ∧ ∃ q', Duo G w0 w' B p r o q' nodes last1 last2 L1 L2 ∧ ∀ g, G g → w'.heap[g]? = w.heap[g]? :=
  (rsee_calls B r q nodes last2 L2 n w h.re U hl).mono fun e w' ⟨a, b⟩ => ⟨a, h.two (Then.same h.re b).thn⟩
end Go.Proofs.Ytndjhpkpeklgfaa.PPost
