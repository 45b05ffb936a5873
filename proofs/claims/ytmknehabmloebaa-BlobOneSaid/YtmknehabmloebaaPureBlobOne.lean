/- The pure law of sexton/sextonlaw08.BlobOne: for every input the function that the code computes answers true. No program stands here. -/
import Derived.Test.YtmknehabmloebaaPBlobx16
import Derived.Test.YtmknehabmloebaaOpenBlob
import Derived.Test.YtmknehabmloebaaMore
namespace Go.Proofs.Ytmknehabmloebaa.PBlob
open Go Go.RowKit Go.Proofs.YtmknehabmloebaaW.PrintWords Go.Proofs.YtmknehabmloebaaW.PrintLast Go.Proofs.YtmknehabmloebaaW.PrintMore
set_option linter.unusedVariables false

theorem one_l0 (l : List S41) (hl : l.length ≤ 9223372036854775806) (n : Nat) : ∀ (i : Nat) (out : List S41), i ≤ l.length → l.length - i = n → chk 0 out = true → Ev (fun k => sextonlaw08_BlobOne.l0 k out l l.length i) true := by
  induction n with
  | zero =>
    intro i out h1 h2 hc
    have hlen := (chk_few (by omega) hc).1
    have hck := check_ev (l := out) (by omega)
    rw [hc, if_pos rfl] at hck
    have hF := fine_ones hc
    obtain ⟨j1, j2⟩ := jn_ok hF.1
    have he : jn (SL (ones out)) = out := runs_unique j1 hc fun i => by rw [j2, val_ones]
    refine Ev.step (fun k => by simp only [sextonlaw08_BlobOne.l0]; rw [if_neg (by omega)]) (Ev.bind hck ?_)
    simp only [if_true]
    refine Ev.bind (ones_f hc) (Ev.bind (made_f hF) ?_)
    rw [he]
    refine Ev.bind (runs_f out (by omega)) ?_
    simp only [if_true, five_true, Option.bind_some]
    exact Ev.now _
  | succ n ih =>
    intro i out h1 h2 hc
    have hlt : i < l.length := by omega
    rcases write_cases out (l[i]).f0 (l[i]).f1 with ⟨_, h0, hs⟩ | h
    · obtain ⟨r, hw, hr, hv⟩ := write_ok hc h0 hs
      refine Ev.step (fun k => ?_) (ih (i + 1) r (by omega) (by omega) hr)
      simp only [sextonlaw08_BlobOne.l0, rd41 l i hlt]
      rw [if_pos (by omega), if_pos (by omega), if_pos (by omega), hw, Option.bind_some]
      simp only []
      rw [if_pos trivial, wr1 i (by omega)]
    · refine Ev.step (fun k => ?_) (ih (i + 1) out (by omega) (by omega) hc)
      simp only [sextonlaw08_BlobOne.l0, rd41 l i hlt]
      rw [if_pos (by omega), if_pos (by omega), if_pos (by omega), write_bad h, Option.bind_some]
      simp only []
      rw [if_neg (by split <;> (try split) <;> decide), wr1 i (by omega)]
theorem BlobOne_pure : ∀ (l0 : List (S41)), ((l0.length * 24 ≤ reachBytes ∧ ∀ x ∈ l0, b41 x)) → ∃ k, sextonlaw08_BlobOne.f k l0 = some true := by
  intro l0 ⟨hl, _⟩
  have hb : reachBytes = 0x7ffffffff000 := rfl
  refine Ev.rounds ?_
  obtain ⟨b, hh⟩ := heavy_f l0 (⟨#[]⟩ : ByteArray) (by omega)
  refine Ev.bind hh ?_
  have h5 : Ev (fun k => sextonlaw08_BlobOne.j0 k l0 true) true := Ev.step (f := fun _ => some true) (fun k => by simp only [sextonlaw08_BlobOne.j0]; rw [five_true]; rfl) (Ev.now _)
  cases b with
  | true => exact h5
  | false =>
    simp only [Bool.false_eq_true, if_false]
    by_cases c : (l0.length : Int) > 60
    · rw [decide_eq_true c]; exact h5
    rw [decide_eq_false c]
    exact Ev.step (fun k => by simp only [sextonlaw08_BlobOne.j0]; rw [if_neg (by simp)]; rfl) (one_l0 l0 (by omega) l0.length 0 [] (by omega) (by omega) rfl)

end Go.Proofs.Ytmknehabmloebaa.PBlob
