/- The pure law of sexton/sextonlaw16.SeatPuts: for every input the function that the code computes answers true. No program stands here. -/
import Derived.Test.YtcclannanigecaaPSeatx12
import Derived.Test.YtcclannanigecaaOpenSeat
import Derived.Test.YtcclannanigecaaOpsOne
import Derived.Test.YtcclannanigecaaOpsSame
import Derived.Test.YtcclannanigecaaOpsRPut
namespace Go.Proofs.Ytcclannanigecaa.PSeat
open Go Go.RowKit Go.Proofs.YtcclannanigecaaW.PrintWords Go.Proofs.YtcclannanigecaaW.PrintLast Go.Proofs.YtcclannanigecaaW.PrintMore
set_option linter.unusedVariables false

theorem put_len (l : List S46) (who req : Int) (r : ByteArray) (hl : l.length ≤ 1000000000000000) : (put l who req r).1.length ≤ 9223372036854775806 := by
  by_cases h : (put l who req r).2 = 0
  · obtain ⟨_, _, _, _, a, b, e, _, _, hok, _⟩ := put_ok h
    rw [e]
    have := (ok_spec hok).2
    omega
  · rw [put_bad h]; simp
theorem SeatPuts_pure : ∀ (l0 : List (S46)) (x1 : S24), ((l0.length * 32 ≤ reachBytes ∧ ∀ x ∈ l0, b46 x)) → (b24 x1) → ∃ k, sextonlaw16_SeatPuts.f k l0 x1.f0 x1.f1 x1.f2 = some true := by
  intro l x ⟨hl, _⟩ _
  have hb : reachBytes = 0x7ffffffff000 := rfl
  refine Ev.rounds ?_
  refine Ev.bind (put_f l _ _ _) (Ev.bind (rput_f l (by omega) _ _ _) (Ev.bind (seats_f _ (put_len l _ _ _ (by omega))) ?_))
  simp only [if_true]
  exact Ev.bind one_f (Ev.now _)

end Go.Proofs.Ytcclannanigecaa.PSeat
