/- The pure law of sexton/sextonlaw12.OpensOpens: for every input the function that the code computes answers true. No program stands here. -/
import Derived.Test.YtkkcikbijdehkaaPOpensx26
import Derived.Test.YtkkcikbijdehkaaOpenOpens
import Derived.Test.YtkkcikbijdehkaaOpsROpen
import Derived.Test.YtkkcikbijdehkaaOpsRLeave
import Derived.Test.YtkkcikbijdehkaaOpsHandles
namespace Go.Proofs.Ytkkcikbijdehkaa.POpens
open Go Go.RowKit Go.Proofs.YtkkcikbijdehkaaW.PrintWords Go.Proofs.YtkkcikbijdehkaaW.PrintLast Go.Proofs.YtkkcikbijdehkaaW.PrintMore
set_option linter.unusedVariables false

theorem OpensOpens_pure : ∀ (l0 : List (S36)) (a1 : Int) (x2 : S24), ((l0.length * 32 ≤ reachBytes ∧ ∀ x ∈ l0, b36 x)) → ((Lit.int .i64 a1).wf = true) → (b24 x2) → ∃ k, sextonlaw12_OpensOpens.f k l0 a1 x2.f0 x2.f1 = some true := by
  intro l0 a1 x2 ⟨hl, _⟩ _ _
  have hb : reachBytes = 0x7ffffffff000 := rfl
  refine Ev.rounds ?_
  have h1 : (opn l0 a1 x2.f0 x2.f1).1.length ≤ 9223372036854775806 := by
    unfold opn
    split
    · split
      · split
        · simp
        · simp only [List.length_append, List.length_take, List.length_cons, List.length_drop]; omega
      · simp
    · simp
  have h2 : (lev l0 a1).1.length ≤ 9223372036854775806 ∧ (lev l0 a1).2.1.length ≤ 9223372036854775806 := by
    unfold lev
    split
    · have e1 := List.length_filter_le (fun x : S36 => !(x.f1 == a1)) l0
      have e2 := List.length_filter_le (fun x : S36 => x.f1 == a1) l0
      simp only [stay, gone, List.length_map]; omega
    · simp
  refine Ev.bind (open_f l0 (by omega) a1 _ _) (Ev.bind (ropen_f l0 (by omega) a1 _ _) (Ev.bind (leave_f l0 (by omega) a1) (Ev.bind (rleave_f l0 (by omega) a1) (Ev.bind (opens_f _ h1) ?_))))
  simp only [if_true]
  refine Ev.bind (opens_f _ h2.1) ?_
  simp only [if_true]
  refine Ev.bind (handles_f _ h2.2) ?_
  simp only [if_true]
  exact Ev.bind two_f (Ev.now _)

end Go.Proofs.Ytkkcikbijdehkaa.POpens
