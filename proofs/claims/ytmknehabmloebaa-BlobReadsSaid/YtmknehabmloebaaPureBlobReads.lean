/- The pure law of sexton/sextonlaw08.BlobReads: for every input the function that the code computes answers true. No program stands here. -/
import Derived.Test.YtmknehabmloebaaPBlobx14
import Derived.Test.YtmknehabmloebaaOpenBlob
import Derived.Test.YtmknehabmloebaaFive
namespace Go.Proofs.Ytmknehabmloebaa.PBlob
open Go Go.RowKit Go.Proofs.YtmknehabmloebaaW.PrintWords Go.Proofs.YtmknehabmloebaaW.PrintLast Go.Proofs.YtmknehabmloebaaW.PrintMore
set_option linter.unusedVariables false

theorem BlobReads_pure : ∀ (l0 : List (S41)) (x1 : S33), ((l0.length * 24 ≤ reachBytes ∧ ∀ x ∈ l0, b41 x)) → (b33 x1) → ∃ k, sextonlaw08_BlobReads.f k l0 x1.f0 x1.f1 x1.f2 = some true := by
  intro l0 x1 ⟨hl, _⟩ _
  have hb : reachBytes = 0x7ffffffff000 := rfl
  refine Ev.rounds ?_
  have h5 : Ev (fun k : Nat => (sextonlaw08_five.f).bind fun t : Bool => some t) true := by rw [five_true]; exact Ev.now _
  unfold sextonlaw08_BlobReads.f
  by_cases h : (l0.length : Int) > 2000
  · simp only [if_pos h]; exact h5
  · simp only [if_neg h]
    obtain ⟨r, hr⟩ : ∃ r, blob_Read.f l0 x1.f0 x1.f1 x1.f2 = some r := by
      unfold blob_Read.f
      split
      · split
        · exact ⟨_, rfl⟩
        · split
          · exact ⟨_, rfl⟩
          · exact ⟨_, rfl⟩
      · exact ⟨_, rfl⟩
    simp only [hr, Option.bind_some]
    refine Ev.bind (rread_f (by omega) _ _ _ hr) ?_
    simp only [if_true]
    exact h5

end Go.Proofs.Ytmknehabmloebaa.PBlob
