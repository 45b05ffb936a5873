/- What itab.Put comes to. -/
import Derived.Test.YtgepphlkibnhdaaFinds
import Derived.Test.YtgepphlkibnhdaaPItabx33
namespace Go.Proofs.Ytgepphlkibnhdaa.PItab
open Go Go.RowKit Go.Proofs.YtgepphlkibnhdaaW.PrintWords Go.Proofs.YtgepphlkibnhdaaW.PrintLast Go.Proofs.YtgepphlkibnhdaaW.PrintMore
set_option linter.unusedVariables false
set_option linter.unusedSimpArgs false

def pt (l : List S30) (no gen : Int) (x : S30) : List S30 × Int :=
  if okT l = true then (if nm l no gen = true then (if x.f0 = gen ∧ ¬ x.f1.f0 = 0 then (if okT (l.set no.toNat x) = true then (l.set no.toNat x, 0) else ([], 4)) else ([], 1)) else ([], 401)) else ([], 4)
theorem put_j0 {l : List S30} (hs : Sm l) {no gen : Int} (hk : okT l = true) (hn : nm l no gen = true) {x : S30} (hx : x.f2.length ≤ 5900000000000 ∧ x.f3.length ≤ 5900000000000) :
    Ev (fun k => itab_Put.j0 k l false no gen x.f0 x.f1.f0 x.f1.f1 x.f1.f2 x.f1.f3 x.f2 x.f3 x.f4) (if okT (l.set no.toNat x) = true then (l.set no.toNat x, 0) else ([], 4)) := by
  obtain ⟨g1, g2, _, _⟩ := nm_in hn
  refine Ev.step (f := fun k => (itab_Check.f k (l.set no.toNat x)).bind fun t402 => if t402 = 0 then some (l.set no.toNat x, 0) else some ([], t402)) (fun k => by
    simp only [itab_Put.j0, Bool.false_eq_true, if_false, copied_eq hs (okT_len hk).2, owned_eq hx, Option.bind_some, if_pos g1, if_pos g2]) ?_
  refine Ev.bind (tab_ev (Sm_set hs _ hx)) ?_
  cases okT (l.set no.toNat x) with
  | true => exact Ev.now _
  | false => exact Ev.now _
theorem put_ev {l : List S30} (hs : Sm l) (no gen : Int) {x : S30} (hx : x.f2.length ≤ 5900000000000 ∧ x.f3.length ≤ 5900000000000) : Ev (fun k => itab_Put.f k l no gen x.f0 x.f1.f0 x.f1.f1 x.f1.f2 x.f1.f3 x.f2 x.f3 x.f4) (pt l no gen x) := by
  unfold itab_Put.f
  refine Ev.bind (named_ev hs no gen) ?_
  unfold pt
  cases hk : okT l with
  | false => exact Ev.now _
  | true =>
    simp only [if_true]
    cases hn : nm l no gen with
    | false => exact Ev.now _
    | true =>
      simp only [if_true]
      have bad : Ev (fun k => itab_Put.j0 k l true no gen x.f0 x.f1.f0 x.f1.f1 x.f1.f2 x.f1.f3 x.f2 x.f3 x.f4) ([], 1) := Ev.step (f := fun _ => some ([], 1)) (fun k => by simp only [itab_Put.j0, if_true]) (Ev.now _)
      by_cases h0 : x.f0 = gen
      · by_cases h1 : x.f1.f0 = 0
        · rw [if_neg (by simp [h1])]
          simp only [if_pos h0, h1, beq_self_eq_true]
          rw [h1] at bad
          exact bad
        · rw [if_pos ⟨h0, h1⟩]
          simp only [if_pos h0, beq_eq_false_iff_ne.2 h1]
          exact put_j0 hs hk hn hx
      · rw [if_neg (fun h => h0 h.1)]
        simp only [if_neg h0]
        exact bad
end Go.Proofs.Ytgepphlkibnhdaa.PItab
