/- What itab.Put and the reference's Put come to: the same. -/
import Derived.Test.YtgepphlkibnhdaaFinds
import Derived.Test.YtgepphlkibnhdaaMakes
import Derived.Test.YtgepphlkibnhdaaRSpecs
import Derived.Test.YtgepphlkibnhdaaPItabx27
import Derived.Test.YtgepphlkibnhdaaPItabx35
import Derived.Test.YtgepphlkibnhdaaPItabx33
import Derived.Test.YtgepphlkibnhdaaRPut
namespace Go.Proofs.Ytgepphlkibnhdaa.PItab
open Go Go.RowKit Go.Proofs.YtgepphlkibnhdaaW.PrintWords Go.Proofs.YtgepphlkibnhdaaW.PrintLast Go.Proofs.YtgepphlkibnhdaaW.PrintMore
set_option linter.unusedVariables false
set_option linter.unusedSimpArgs false

def wth (l : List S30) (no : Int) (x : S30) : List S30 := if no = (l.length : Int) then l ++ [x] else l.set no.toNat x
theorem with_l0 (l : List S30) (hl : l.length ≤ 1000) (no : Int) (h0 : 0 ≤ no) (x : S30) (d : Nat) : ∀ i : Nat, i ≤ l.length → l.length - i = d →
    Ev (fun k => sextonref09_with.l0 k l no ((l.set no.toNat x).take i) l l.length i x.f0 x.f1.f0 x.f1.f1 x.f1.f2 x.f1.f3 x.f2 x.f3 x.f4) (wth l no x) := by
  induction d with
  | zero =>
    intro i h1 h2
    obtain rfl : i = l.length := by omega
    rw [List.take_of_length_le (by simp)]
    unfold wth
    by_cases c : no = (l.length : Int)
    · have e : l.set no.toNat x = l := by rw [List.set_eq_of_length_le (by omega)]
      rw [e, if_pos c]
      exact Ev.step (f := fun _ => some (l ++ [x])) (fun k => by simp only [sextonref09_with.l0]; rw [if_neg (by omega), if_pos c, if_pos (by omega)]) (Ev.now _)
    · rw [if_neg c]
      exact Ev.step (f := fun _ => some (l.set no.toNat x)) (fun k => by simp only [sextonref09_with.l0]; rw [if_neg (by omega), if_neg c]) (Ev.now _)
  | succ d ih =>
    intro i h1 h2
    have hlt : i < l.length := by omega
    have hlt' : i < (l.set no.toNat x).length := by simpa using hlt
    have ih' := ih (i + 1) (by omega) (by omega)
    rw [← List.take_append_getElem hlt'] at ih'
    have ht : ((l.set no.toNat x).take i).length < 1466015503701 := by rw [List.length_take]; omega
    by_cases c : (i : Int) = no
    · have e : (l.set no.toNat x)[i] = x := by
        have : no.toNat = i := by omega
        simp [List.getElem_set, this]
      rw [e] at ih'
      refine Ev.step (fun k => ?_) ih'
      simp only [sextonref09_with.l0]; rw [if_pos (by omega), if_pos (by omega), if_pos (by omega), if_pos c, if_pos ht, wr1 i (by omega)]
    · have e : (l.set no.toNat x)[i] = rd_T30 l i := by
        have : ¬ no.toNat = i := by omega
        rw [rd30 l i hlt]
        simp [List.getElem_set, this]
      rw [e] at ih'
      refine Ev.step (fun k => ?_) ih'
      simp only [sextonref09_with.l0]; rw [if_pos (by omega), if_pos (by omega), if_pos (by omega), if_neg c, if_pos ht, wr1 i (by omega)]
theorem with_ev {l : List S30} (hl : l.length ≤ 1000) {no : Int} (h0 : 0 ≤ no) (x : S30) : Ev (fun k => sextonref09_with.f k l no x.f0 x.f1.f0 x.f1.f1 x.f1.f2 x.f1.f3 x.f2 x.f3 x.f4) (wth l no x) := with_l0 l hl no h0 x l.length 0 (by omega) (by omega)
theorem rdrop_ev {l : List S30} (hs : Sm l) (no gen : Int) : Ev (fun k => sextonref09_Drop.f k l no gen) (dr l no gen) := by
  unfold sextonref09_Drop.f
  refine Ev.bind (rtab_ev hs) ?_
  unfold dr
  cases hk : okT l with
  | false => exact Ev.now _
  | true =>
    simp only [if_true]
    have hl := okT_len hk
    refine Ev.bind (names_ev hl.2 no gen) ?_
    cases hn : nm l no gen with
    | false => exact Ev.now _
    | true =>
      simp only [if_true]
      by_cases h0 : no = 0
      · simp only [if_pos h0]; exact Ev.now _
      · obtain ⟨g1, g2, _, _⟩ := nm_in hn
        simp only [if_neg h0]
        have hw := with_ev (l := l) (by omega) (no := no) g1 (emp gen)
        rw [show wth l no (emp gen) = l.set no.toNat (emp gen) by rw [wth, if_neg (by omega)]] at hw
        exact Ev.bind hw (Ev.now _)
def pt (l : List S30) (no gen : Int) (x : S30) : List S30 × Int :=
  if okT l = true then (if nm l no gen = true then (if x.f0 = gen ∧ ¬ x.f1.f0 = 0 then (if okT (l.set no.toNat x) = true then (l.set no.toNat x, 0) else ([], 4)) else ([], 1)) else ([], 401)) else ([], 4)
theorem put_j0 {l : List S30} (hs : Sm l) {no gen : Int} (hk : okT l = true) (hn : nm l no gen = true) {x : S30} (hx : x.f2.length ≤ 5900000000000 ∧ x.f3.length ≤ 5900000000000) :
    Ev (fun k => itab_Put.j0 k l false no gen x.f0 x.f1.f0 x.f1.f1 x.f1.f2 x.f1.f3 x.f2 x.f3 x.f4) (if okT (l.set no.toNat x) = true then (l.set no.toNat x, 0) else ([], 4)) := by
  obtain ⟨g1, g2, _, _⟩ := nm_in hn
  refine Ev.step (f := fun k => (itab_Check.f k (l.set no.toNat x)).bind fun t402 => if t402 = 0 then some (l.set no.toNat x, 0) else some ([], t402)) (fun k => by
    simp only [itab_Put.j0, Bool.false_eq_true, if_false, copied_eq hs (okT_len hk).2, owned_eq hx, Option.bind_some, if_pos g1, if_pos g2]) ?_
  refine Ev.bind (tab_ev (Sm_set hs _ hx)) ?_
  cases okT (l.set no.toNat x) with
  | true => exact Ev.now _
  | false => exact Ev.now _
theorem put_ev {l : List S30} (hs : Sm l) (no gen : Int) {x : S30} (hx : x.f2.length ≤ 5900000000000 ∧ x.f3.length ≤ 5900000000000) : Ev (fun k => itab_Put.f k l no gen x.f0 x.f1.f0 x.f1.f1 x.f1.f2 x.f1.f3 x.f2 x.f3 x.f4) (pt l no gen x) := by
  unfold itab_Put.f
  refine Ev.bind (named_ev hs no gen) ?_
  unfold pt
  cases hk : okT l with
  | false => exact Ev.now _
  | true =>
    simp only [if_true]
    cases hn : nm l no gen with
    | false => exact Ev.now _
    | true =>
      simp only [if_true]
      have bad : Ev (fun k => itab_Put.j0 k l true no gen x.f0 x.f1.f0 x.f1.f1 x.f1.f2 x.f1.f3 x.f2 x.f3 x.f4) ([], 1) := Ev.step (f := fun _ => some ([], 1)) (fun k => by simp only [itab_Put.j0, if_true]) (Ev.now _)
      by_cases h0 : x.f0 = gen
      · by_cases h1 : x.f1.f0 = 0
        · rw [if_neg (by simp [h1])]
          simp only [if_pos h0, h1, beq_self_eq_true]
          rw [h1] at bad
          exact bad
        · rw [if_pos ⟨h0, h1⟩]
          simp only [if_pos h0, beq_eq_false_iff_ne.2 h1]
          exact put_j0 hs hk hn hx
      · rw [if_neg (fun h => h0 h.1)]
        simp only [if_neg h0]
        exact bad
theorem rput_ev {l : List S30} (hs : Sm l) (no gen : Int) {x : S30} (hx : x.f2.length ≤ 5900000000000 ∧ x.f3.length ≤ 5900000000000) : Ev (fun k => rputF k l no gen x) (pt l no gen x) := by
  unfold rputF
  refine Ev.bind (rtab_ev hs) ?_
  unfold pt
  cases hk : okT l with
  | false => exact Ev.now _
  | true =>
    simp only [if_true]
    have hl := okT_len hk
    refine Ev.bind (names_ev hl.2 no gen) ?_
    cases hn : nm l no gen with
    | false => exact Ev.now _
    | true =>
      simp only [if_true]
      obtain ⟨g1, g2, _, _⟩ := nm_in hn
      by_cases h0 : x.f0 = gen ∧ ¬ x.f1.f0 = 0
      · simp only [if_pos h0]
        have hw := with_ev (l := l) (by omega) (no := no) g1 x
        rw [show wth l no x = l.set no.toNat x by rw [wth, if_neg (by omega)]] at hw
        refine Ev.bind hw (Ev.bind (rtab_ev (Sm_set hs _ hx)) ?_)
        cases okT (l.set no.toNat x) with
        | true => exact Ev.now _
        | false => exact Ev.now _
      · simp only [if_neg h0]
        exact Ev.now _
theorem pt_fine {l : List S30} (hs : Sm l) (no gen : Int) {x : S30} (hx : x.f2.length ≤ 5900000000000 ∧ x.f3.length ≤ 5900000000000) : Sm (pt l no gen x).1 ∧ (pt l no gen x).1.length ≤ 24 := by
  unfold pt
  cases hk : okT l with
  | false => exact ⟨Sm_nil, by simp⟩
  | true =>
    cases hn : nm l no gen with
    | false => exact ⟨Sm_nil, by simp⟩
    | true =>
      simp only [if_true]
      by_cases h0 : x.f0 = gen ∧ ¬ x.f1.f0 = 0
      · rw [if_pos h0]
        cases okT (l.set no.toNat x) with
        | false => exact ⟨Sm_nil, by simp⟩
        | true => exact ⟨Sm_set hs _ hx, by simpa using (okT_len hk).2⟩
      · rw [if_neg h0]; exact ⟨Sm_nil, by simp⟩
end Go.Proofs.Ytgepphlkibnhdaa.PItab
