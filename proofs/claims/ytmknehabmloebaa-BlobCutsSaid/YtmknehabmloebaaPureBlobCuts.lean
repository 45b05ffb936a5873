/- The pure law of sexton/sextonlaw08.BlobCuts: for every input the function that the code computes answers true. No program stands here. -/
import Derived.Test.YtmknehabmloebaaPBlobx19
import Derived.Test.YtmknehabmloebaaOpenBlob
import Derived.Test.YtmknehabmloebaaFive
namespace Go.Proofs.Ytmknehabmloebaa.PBlob
open Go Go.RowKit Go.Proofs.YtmknehabmloebaaW.PrintWords Go.Proofs.YtmknehabmloebaaW.PrintLast Go.Proofs.YtmknehabmloebaaW.PrintMore
set_option linter.unusedVariables false

theorem BlobCuts_pure : ∀ (l0 : List (S41)) (a1 : Int), ((l0.length * 24 ≤ reachBytes ∧ ∀ x ∈ l0, b41 x)) → ((Lit.int .i64 a1).wf = true) → ∃ k, sextonlaw08_BlobCuts.f k l0 a1 = some true := by
  intro l0 a1 ⟨hl, _⟩ _
  have hb : reachBytes = 0x7ffffffff000 := rfl
  refine Ev.rounds ?_
  obtain ⟨b, hh⟩ := heavy_f l0 (⟨#[]⟩ : ByteArray) (by omega)
  refine Ev.bind hh ?_
  have h5 : Ev (fun k : Nat => (sextonlaw08_five.f).bind fun t : Bool => some t) true := by rw [five_true]; exact Ev.now _
  cases b with
  | true => exact h5
  | false =>
    simp only [Bool.false_eq_true, if_false, blob_Cut.f, Option.bind_some]
    refine Ev.bind (rcut_f (by omega)) ?_
    have key : (if chk 0 l0 = true then (if a1 < 0 then (([] : List S41), (1 : Int)) else (jn (SL ((ones l0).filter fun x => decide (x.f0 < a1))), 0)) else ([], 80)) = (if chk 0 l0 = true then (if a1 < 0 then ([], 1) else (clip l0 0 a1, 0)) else ([], 80)) ∧ (if chk 0 l0 = true then (if a1 < 0 then (([] : List S41), (1 : Int)) else (clip l0 0 a1, 0)) else ([], 80)).1.length ≤ 9223372036854775806 := by
      cases hc : chk 0 l0 with
      | false => simp
      | true =>
        simp only [if_true]
        by_cases c : a1 < 0
        · simp [c]
        · simp only [if_neg c]
          have hF := fine_filter (fun x => decide (x.f0 < a1)) (fine_ones hc)
          obtain ⟨j1, j2⟩ := jn_ok hF.1
          have hk := chk_clip (a := 0) (b := a1) (Int.le_refl 0) hc
          refine ⟨?_, by have := (chk_few (by omega) hk).1; omega⟩
          rw [runs_unique j1 hk fun i => ?_]
          rw [j2, val_filter (fun j => j < a1) _ _ (rng_ones l0), val_ones, val_clip]
          by_cases hi : 0 ≤ i
          · by_cases h2 : i < a1
            · rw [if_pos h2, if_pos ⟨hi, h2⟩]
            · rw [if_neg h2, if_neg (by omega)]
          · rw [val_none hc (by omega)]; simp
    rw [key.1]
    refine Ev.bind (runs_f _ key.2) ?_
    simp only [if_true]
    exact h5

end Go.Proofs.Ytmknehabmloebaa.PBlob
