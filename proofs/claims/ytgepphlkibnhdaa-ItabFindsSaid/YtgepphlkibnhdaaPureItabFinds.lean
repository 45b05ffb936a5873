/- The pure law of sexton/sextonlaw09.ItabFinds: for every table and handle the function that the code computes answers true. No program stands here. -/
import Derived.Test.YtgepphlkibnhdaaPItabxFinds
import Derived.Test.YtgepphlkibnhdaaFinds
import Derived.Test.YtgepphlkibnhdaaRSpecs
namespace Go.Proofs.Ytgepphlkibnhdaa.PItab
open Go Go.RowKit Go.Proofs.YtgepphlkibnhdaaW.PrintWords Go.Proofs.YtgepphlkibnhdaaW.PrintLast Go.Proofs.YtgepphlkibnhdaaW.PrintMore
set_option linter.unusedVariables false

theorem rfind_ev {l : List S30} (hs : Sm l) (no gen : Int) : Ev (fun k => sextonref09_Find.f k l no gen) (flat (fnd l no gen)) := by
  unfold sextonref09_Find.f
  refine Ev.bind (rtab_ev hs) ?_
  unfold fnd
  cases hk : okT l with
  | false => exact Ev.now _
  | true =>
    simp only [if_true]
    have hl := okT_len hk
    refine Ev.bind (names_ev hl.2 no gen) ?_
    cases hn : nm l no gen with
    | false => exact Ev.now _
    | true =>
      obtain ⟨g1, g2, _, _⟩ := nm_in hn
      simp only [if_true, if_pos g1, if_pos g2]
      exact Ev.now _
theorem fnd_small {l : List S30} (hs : Sm l) (no gen : Int) : (fnd l no gen).1.f2.length ≤ 5900000000000 ∧ (fnd l no gen).1.f3.length ≤ 5900000000000 := by
  unfold fnd
  cases hk : okT l with
  | false => simp
  | true =>
    cases hn : nm l no gen with
    | false => simp
    | true =>
      obtain ⟨g1, g2, _, _⟩ := nm_in hn
      exact hs _ (rd30I g1 g2)
theorem ItabFinds_pure : ∀ (l0 : List (S30)) (x1 : S24), ((l0.length * 96 ≤ reachBytes ∧ ∀ x ∈ l0, b30 x)) → (b24 x1) → ∃ k, sextonlaw09_ItabFinds.f k l0 x1.f0 x1.f1 = some true := by
  intro l h ⟨_, hb⟩ _
  have hs := Sm_b hb
  obtain ⟨f5, f6⟩ := fnd_small hs h.f0 h.f1
  refine Ev.rounds ?_
  refine Ev.bind (find_ev hs h.f0 h.f1) (Ev.bind (rfind_ev hs h.f0 h.f1) ?_)
  simp only [flat, eq30_refl, beq_self_eq_true, f5, f6, decide_true, Bool.and_self, if_true]
  exact again_ev

end Go.Proofs.Ytgepphlkibnhdaa.PItab
