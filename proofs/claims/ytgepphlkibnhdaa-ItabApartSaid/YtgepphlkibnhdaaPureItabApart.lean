/- The pure law of sexton/sextonlaw09.ItabApart: for every table, handle and inode the function that the code computes answers true. No program stands here. -/
import Derived.Test.YtgepphlkibnhdaaPItabxApartC
import Derived.Test.YtgepphlkibnhdaaPutEv
namespace Go.Proofs.Ytgepphlkibnhdaa.PItab
open Go Go.RowKit Go.Proofs.YtgepphlkibnhdaaW.PrintWords Go.Proofs.YtgepphlkibnhdaaW.PrintLast Go.Proofs.YtgepphlkibnhdaaW.PrintMore
set_option linter.unusedVariables false

theorem pt_cases {l : List S30} (no gen : Int) (x : S30) : ((pt l no gen x).1 = [] ∧ ¬ (pt l no gen x).2 = 0) ∨ (pt l no gen x = (l.set no.toNat x, 0) ∧ okT (l.set no.toNat x) = true ∧ nm l no gen = true ∧ x.f0 = gen ∧ ¬ x.f1.f0 = 0) := by
  unfold pt
  cases hk : okT l with
  | false => exact .inl (by simp)
  | true =>
    cases hn : nm l no gen with
    | false => exact .inl (by simp)
    | true =>
      by_cases h0 : x.f0 = gen ∧ ¬ x.f1.f0 = 0
      · cases ho : okT (l.set no.toNat x) with
        | false => exact .inl (by simp [h0])
        | true => exact .inr (by simp [h0])
      · exact .inl (by simp [h0])
theorem ItabApart_pure : ∀ (l0 : List (S30)) (x1 : S24) (x2 : S30), ((l0.length * 96 ≤ reachBytes ∧ ∀ x ∈ l0, b30 x)) → (b24 x1) → (b30 x2) → ∃ k, sextonlaw09_ItabApart.f k l0 x1.f0 x1.f1 x2.f0 x2.f1.f0 x2.f1.f1 x2.f1.f2 x2.f1.f3 x2.f2 x2.f3 x2.f4 = some true := by
  intro l h x ⟨_, hb⟩ _ hx
  have hs := Sm_b hb
  have hx := Sm_x hx
  refine Ev.rounds ?_
  unfold sextonlaw09_ItabApart.f
  refine Ev.bind (put_ev hs h.f0 h.f1 hx) ?_
  rcases pt_cases (l := l) h.f0 h.f1 x with ⟨e1, e2⟩ | ⟨e1, e2, e3, e4, e5⟩
  · simp only [if_neg e2, e1, List.isEmpty_nil, if_true]
    exact again_ev
  · rw [e1]
    have hs2 : Sm (l.set h.f0.toNat x) := Sm_set hs _ hx
    obtain ⟨g1, g2, _, _⟩ := nm_in e3
    have hr : rd_T30 (l.set h.f0.toNat x) h.f0 = x := by rw [rd30_set g1 g2, if_pos (by omega)]
    have hn2 : nm (l.set h.f0.toNat x) h.f0 h.f1 = true := by
      unfold nm
      rw [hr, List.length_set]
      exact decide_eq_true ⟨g1, g2, e5, e4.symm⟩
    have hf : fnd (l.set h.f0.toNat x) h.f0 h.f1 = (x, 0) := by unfold fnd; rw [if_pos e2, if_pos hn2, hr]
    have ht := tab_ev hs2
    rw [if_pos e2] at ht
    have hfe := find_ev hs2 h.f0 h.f1
    rw [hf] at hfe
    simp only [if_true]
    refine Ev.bind hfe (Ev.bind ht ?_)
    have n1 : (l.set h.f0.toNat x).length ≤ 24 := (okT_len e2).2
    have m1 : (l.set h.f0.toNat x).all small = true := small_of hs2
    have m2 : small x = true := by simp [small, hx]
    simp only [flat, eqL_refl eq30_refl, eq30_refl, m1, m2, n1, g1, decide_true, beq_self_eq_true, Bool.and_self, if_true]
    exact again_ev

end Go.Proofs.Ytgepphlkibnhdaa.PItab
