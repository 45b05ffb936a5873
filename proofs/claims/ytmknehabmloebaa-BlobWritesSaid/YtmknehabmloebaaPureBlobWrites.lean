/- The pure law of sexton/sextonlaw08.BlobWrites: for every input the function that the code computes answers true. No program stands here. -/
import Derived.Test.YtmknehabmloebaaPBlobx12
import Derived.Test.YtmknehabmloebaaOpenBlob
import Derived.Test.YtmknehabmloebaaFive
namespace Go.Proofs.Ytmknehabmloebaa.PBlob
open Go Go.RowKit Go.Proofs.YtmknehabmloebaaW.PrintWords Go.Proofs.YtmknehabmloebaaW.PrintLast Go.Proofs.YtmknehabmloebaaW.PrintMore
set_option linter.unusedVariables false

theorem BlobWrites_pure : ∀ (l0 : List (S41)) (a1 : Int) (a2 : ByteArray), ((l0.length * 24 ≤ reachBytes ∧ ∀ x ∈ l0, b41 x)) → ((Lit.int .i64 a1).wf = true) → (a2.size ≤ reachBytes) → ∃ k, sextonlaw08_BlobWrites.f k l0 a1 a2 = some true := by
  intro l0 a1 a2 ⟨hl, _⟩ _ hz
  have hb : reachBytes = 0x7ffffffff000 := rfl
  refine Ev.rounds ?_
  obtain ⟨b, hh⟩ := heavy_f l0 a2 (by omega)
  refine Ev.bind hh ?_
  have h5 : Ev (fun k : Nat => (sextonlaw08_five.f).bind fun t : Bool => some t) true := by rw [five_true]; exact Ev.now _
  cases b with
  | true => exact h5
  | false =>
    simp only [Bool.false_eq_true, if_false]
    rcases write_cases l0 a1 a2 with ⟨hc, h0, hs⟩ | h
    · obtain ⟨r, hw, hr, hv⟩ := write_ok hc h0 hs
      have hF := wr_fine h0 hs (fine_ones hc)
      obtain ⟨j1, j2⟩ := jn_ok hF.1
      have he : jn (SL (wr a1 a2 (ones l0))) = r := runs_unique j1 hr fun i => by rw [j2, hv, wr_val a1 a2 i _ (rng_ones l0), val_ones]
      simp only [hw, Option.bind_some]
      refine Ev.bind (rwrite_ok hc h0 hs) ?_
      rw [he]
      refine Ev.bind (runs_f r (by have := (chk_few (by omega) hr).1; omega)) ?_
      exact h5
    · simp only [write_bad h, Option.bind_some]
      refine Ev.bind (rwrite_bad (by omega) (by omega) h) ?_
      refine Ev.bind (runs_f [] (by simp)) ?_
      simp only [if_true]
      exact h5

end Go.Proofs.Ytmknehabmloebaa.PBlob
