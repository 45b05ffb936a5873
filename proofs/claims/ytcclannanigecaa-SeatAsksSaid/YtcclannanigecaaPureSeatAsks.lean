/- The pure law of sexton/sextonlaw16.SeatAsks: for every input the function that the code computes answers true. No program stands here. -/
import Derived.Test.YtcclannanigecaaPSeatx17
import Derived.Test.YtcclannanigecaaOpenSeat
import Derived.Test.YtcclannanigecaaOpsOne
import Derived.Test.YtcclannanigecaaOpsSame
import Derived.Test.YtcclannanigecaaOpsDrop
namespace Go.Proofs.Ytcclannanigecaa.PSeat
open Go Go.RowKit Go.Proofs.YtcclannanigecaaW.PrintWords Go.Proofs.YtcclannanigecaaW.PrintLast Go.Proofs.YtcclannanigecaaW.PrintMore
set_option linter.unusedVariables false

theorem SeatAsks_pure : ∀ (l0 : List (S46)) (a1 : Int) (a2 : Int), ((l0.length * 32 ≤ reachBytes ∧ ∀ x ∈ l0, b46 x)) → ((Lit.int .i64 a1).wf = true) → ((Lit.int .i64 a2).wf = true) → ∃ k, sextonlaw16_SeatAsks.f k l0 a1 a2 = some true := by
  intro l a1 a2 ⟨hl, _⟩ _ _
  have hb : reachBytes = 0x7ffffffff000 := rfl
  refine Ev.rounds ?_
  have hd : (drp l a1).1.length ≤ 9223372036854775806 := by
    unfold drp
    split
    · split
      · have := List.length_filter_le (fun x => !key a1 x) l
        cases l.find? (key a1) with
        | none => simp
        | some x => simp only []; omega
      · simp
    · simp
  refine Ev.bind (ask_f l a1 a2) (Ev.bind (rask_f l (by omega) a1 a2) (Ev.bind (drop_f l a1) (Ev.bind (rdrop_f l (by omega) a1) (Ev.bind (check_f l) (Ev.bind (right_f l (by omega)) ?_)))))
  have e : (((if ok l = true then (0 : Int) else 4) == 0) == ok l) = true := by cases ok l <;> rfl
  simp only [e, if_true]
  refine Ev.bind (seats_f _ hd) ?_
  simp only [if_true]
  exact Ev.bind one_f (Ev.now _)

end Go.Proofs.Ytcclannanigecaa.PSeat
