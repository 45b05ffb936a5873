/- The pure law of sexton/sextonlaw12.OpensCloses: for every input the function that the code computes answers true. No program stands here. -/
import Derived.Test.YtkkcikbijdehkaaPOpensx17
import Derived.Test.YtkkcikbijdehkaaOpenOpens
import Derived.Test.YtkkcikbijdehkaaOpsRClose
namespace Go.Proofs.Ytkkcikbijdehkaa.POpens
open Go Go.RowKit Go.Proofs.YtkkcikbijdehkaaW.PrintWords Go.Proofs.YtkkcikbijdehkaaW.PrintLast Go.Proofs.YtkkcikbijdehkaaW.PrintMore
set_option linter.unusedVariables false

theorem cls_len (l : List S36) (who fd : Int) (hl : l.length ≤ 9223372036854775806) : (cls l who fd).1.length ≤ 9223372036854775806 := by
  unfold cls
  split
  · cases l.find? (is who fd) with
    | none => simp
    | some x => have := List.length_filter_le (fun x => !is who fd x) l; simp only []; omega
  · simp
theorem OpensCloses_pure : ∀ (l0 : List (S36)) (a1 : Int) (a2 : Int), ((l0.length * 32 ≤ reachBytes ∧ ∀ x ∈ l0, b36 x)) → ((Lit.int .i64 a1).wf = true) → ((Lit.int .i64 a2).wf = true) → ∃ k, sextonlaw12_OpensCloses.f k l0 a1 a2 = some true := by
  intro l0 a1 a2 ⟨hl, _⟩ _ _
  have hb : reachBytes = 0x7ffffffff000 := rfl
  refine Ev.rounds ?_
  refine Ev.bind (close_f l0 (by omega) a1 a2) (Ev.bind (rclose_f l0 (by omega) a1 a2) (Ev.bind (opens_f _ (cls_len l0 a1 a2 (by omega))) ?_))
  simp only [beq_self_eq_true, Bool.and_self, if_true]
  exact Ev.bind two_f (Ev.now _)

end Go.Proofs.Ytkkcikbijdehkaa.POpens
