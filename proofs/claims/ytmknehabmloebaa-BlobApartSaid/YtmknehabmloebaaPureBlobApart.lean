/- The pure law of sexton/sextonlaw08.BlobApart: for every input the function that the code computes answers true. No program stands here. -/
import Derived.Test.YtmknehabmloebaaPBlobx17
import Derived.Test.YtmknehabmloebaaOpenBlob
import Derived.Test.YtmknehabmloebaaMore
namespace Go.Proofs.Ytmknehabmloebaa.PBlob
open Go Go.RowKit Go.Proofs.YtmknehabmloebaaW.PrintWords Go.Proofs.YtmknehabmloebaaW.PrintLast Go.Proofs.YtmknehabmloebaaW.PrintMore
set_option linter.unusedVariables false

theorem apart_j0 (l0 : List S41) (hl : l0.length ≤ 9223372036854775806) (a b : Int) (d e : ByteArray) (h : a + d.size ≤ b ∨ b + e.size ≤ a) : Ev (fun k => sextonlaw08_BlobApart.j0 k l0 false a d b e) true := by
  have h5 : ∀ x y : List S41, Ev (fun k => sextonlaw08_BlobApart.j1 k x y true a d b e) true := fun x y => Ev.step (f := fun _ => some true) (fun k => by simp only [sextonlaw08_BlobApart.j1]; rw [five_true]; rfl) (Ev.now _)
  rcases write_cases l0 a d with ⟨hc, h0, hs⟩ | hbad
  · obtain ⟨r, hw, hr, hv⟩ := write_ok hc h0 hs
    rcases write_cases l0 b e with ⟨_, g0, gs⟩ | gbad
    · obtain ⟨q, gw, gr, gv⟩ := write_ok hc g0 gs
      obtain ⟨r2, hw2, hr2, hv2⟩ := write_ok hr g0 gs
      obtain ⟨q2, gw2, gr2, gv2⟩ := write_ok gr h0 hs
      have he : r2 = q2 := runs_unique hr2 gr2 fun i => by
        rw [hv2, gv2, hv, gv]
        by_cases c1 : a ≤ i ∧ i < a + d.size
        · rw [if_pos c1, if_neg (by omega), if_pos c1]
        · rw [if_neg c1, if_neg c1]
      have hlen := (chk_few (by omega) hr2).1
      refine Ev.step (f := fun k => sextonlaw08_BlobApart.j1 k r q false a d b e) (fun k => ?_) (Ev.step (f := fun k => (sextonplain_Runs.f k r2 q2).bind fun t273 => (if t273 = true then ((sextonlaw08_five.f).bind fun t274 => (some t274)) else (some false))) (fun k => ?_) ?_)
      · simp only [sextonlaw08_BlobApart.j0]
        rw [if_neg (by simp), hw, Option.bind_some, gw, Option.bind_some]
        rfl
      · simp only [sextonlaw08_BlobApart.j1]
        rw [if_neg (by simp), hw2, Option.bind_some, gw2, Option.bind_some]
        simp only []
        rw [if_pos trivial, if_pos trivial]
      · rw [← he]
        refine Ev.bind (runs_f r2 (by omega)) ?_
        simp only [if_true, five_true, Option.bind_some]
        exact Ev.now _
    · refine Ev.step (fun k => ?_) (h5 r [])
      simp only [sextonlaw08_BlobApart.j0]
      rw [if_neg (by simp), hw, Option.bind_some, write_bad gbad, Option.bind_some]
      simp only []
      rw [if_pos trivial]
      congr 1
      split <;> (try split) <;> decide
  · obtain ⟨q, gw⟩ : ∃ q, blob_Write.f l0 b e = some q := by
      rcases write_cases l0 b e with ⟨hc, g0, gs⟩ | gbad
      · obtain ⟨q, gw, _⟩ := write_ok hc g0 gs; exact ⟨_, gw⟩
      · exact ⟨_, write_bad gbad⟩
    refine Ev.step (fun k => ?_) (h5 [] q.1)
    simp only [sextonlaw08_BlobApart.j0]
    rw [if_neg (by simp), write_bad hbad, Option.bind_some, gw, Option.bind_some]
    simp only []
    rw [if_neg (by split <;> (try split) <;> decide)]
theorem BlobApart_pure : ∀ (l0 : List (S41)) (x1 : S41) (x2 : S41), ((l0.length * 24 ≤ reachBytes ∧ ∀ x ∈ l0, b41 x)) → (b41 x1) → (b41 x2) → ∃ k, sextonlaw08_BlobApart.f k l0 x1.f0 x1.f1 x2.f0 x2.f1 = some true := by
  rintro l0 ⟨a, d⟩ ⟨b, e⟩ ⟨hl, _⟩ ⟨_, hd⟩ ⟨_, he⟩
  have hb : reachBytes = 0x7ffffffff000 := rfl
  simp only [] at hd he
  refine Ev.rounds ?_
  obtain ⟨t, hh⟩ := heavy_f l0 (d ++ e) (by omega)
  unfold sextonlaw08_BlobApart.f
  have hsz : d.size + e.size ≤ 9223372036854775807 := by omega
  simp only [if_pos hsz]
  refine Ev.bind hh ?_
  have h5 : Ev (fun k => sextonlaw08_BlobApart.j0 k l0 true a d b e) true := Ev.step (f := fun _ => some true) (fun k => by simp only [sextonlaw08_BlobApart.j0]; rw [five_true]; rfl) (Ev.now _)
  cases t with
  | true => exact h5
  | false =>
    simp only [Bool.false_eq_true, if_false]
    by_cases c1 : a < 0
    · simp only [if_pos c1]; exact h5
    by_cases c2 : b < 0
    · simp only [if_neg c1, if_pos c2]; exact h5
    by_cases c3 : a > 1048576
    · simp only [if_neg c1, if_neg c2, if_pos c3]; exact h5
    by_cases c4 : b > 1048576
    · simp only [if_neg c1, if_neg c2, if_neg c3, if_pos c4]; exact h5
    simp only [if_neg c1, if_neg c2, if_neg c3, if_neg c4]
    rw [wrap_id (a := b + (e.size : Int)) (by omega) (by omega), wrap_id (a := a + (d.size : Int)) (by omega) (by omega)]
    by_cases c5 : a < b + e.size
    · simp only [if_pos c5]
      by_cases c6 : b < a + d.size
      · rw [decide_eq_true c6]; exact h5
      · rw [decide_eq_false c6]; exact apart_j0 l0 (by omega) a b d e (.inl (by omega))
    · simp only [if_neg c5]
      exact apart_j0 l0 (by omega) a b d e (.inr (by omega))

end Go.Proofs.Ytmknehabmloebaa.PBlob
