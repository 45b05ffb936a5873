/- The pure law of sexton/sextonlaw08.BlobChecks: for every input the function that the code computes answers true. No program stands here. -/
import Derived.Test.YtmknehabmloebaaPBlobx22
import Derived.Test.YtmknehabmloebaaOpenBlob
import Derived.Test.YtmknehabmloebaaMore
namespace Go.Proofs.Ytmknehabmloebaa.PBlob
open Go Go.RowKit Go.Proofs.YtmknehabmloebaaW.PrintWords Go.Proofs.YtmknehabmloebaaW.PrintLast Go.Proofs.YtmknehabmloebaaW.PrintMore
set_option linter.unusedVariables false

def lastw (l : List S41) (e : Int) : Int := l.foldl (fun _ r => wrap64 (r.f0 + (r.f1.size : Int))) e
theorem lastw_fin {l : List S41} (hc : chk 0 l = true) : lastw l 0 = fin 0 l := by
  rcases snoc_cases l with rfl | ⟨o, y, rfl⟩
  · rfl
  · obtain ⟨_, g2⟩ := chk_left hc
    obtain ⟨k1, k2, k3, k4, _⟩ := chk_spec g2
    have hy0 := chk_good (by omega) hc y (by simp)
    have : fin 0 (o ++ [y]) = y.f0 + y.f1.size := by simp [fin]
    rw [this, lastw, List.foldl_append]
    exact wrap_id (by omega) (by omega)
theorem checks_j1 (l : List S41) (hl : l.length ≤ 9223372036854775806) (b : Bool) (hb : chk 0 l = b) : Ev (fun k => sextonlaw08_BlobChecks.j1 k l (sumw l 0) (if b = true then fin 0 l else 0) b) true := by
  refine Ev.step (fun k => by simp only [sextonlaw08_BlobChecks.j1]; rfl) (Ev.bind (check_ev (by omega)) ?_)
  have g : (((if chk 0 l = true then (0 : Int) else 80) == 0) == b) = true := by subst hb; cases chk 0 l <;> rfl
  simp only [if_pos g]
  refine Ev.bind (bytes_ev hl) ?_
  simp only [if_true]
  refine Ev.bind (end_ev hl) ?_
  rw [hb]
  simp only [if_true, five_true, Option.bind_some]
  exact Ev.now _
theorem checks_l0 (l : List S41) (hl : l.length ≤ 9223372036854775806) (n : Nat) : ∀ (i : Nat) (s e : Int), i ≤ l.length → l.length - i = n → sumw (l.drop i) s = sumw l 0 → lastw (l.drop i) e = lastw l 0 → Ev (fun k => sextonlaw08_BlobChecks.l0 k l s e l l.length i) true := by
  induction n with
  | zero =>
    intro i s e h1 h2 hs he
    rw [List.drop_eq_nil_of_le (by omega)] at hs he
    have hs : s = sumw l 0 := hs
    have he : e = lastw l 0 := he
    subst hs
    subst he
    refine Ev.step (fun k => by simp only [sextonlaw08_BlobChecks.l0]; rw [if_neg (by omega)]) (Ev.bind (right_f l hl) ?_)
    have := checks_j1 l hl _ rfl
    cases hc : chk 0 l with
    | false => rw [hc] at this; exact this
    | true => rw [hc] at this; simp only [if_true] at this ⊢; rw [lastw_fin hc]; exact this
  | succ n ih =>
    intro i s e h1 h2 hs he
    have hlt : i < l.length := by omega
    rw [List.drop_eq_getElem_cons hlt] at hs he
    refine Ev.step (fun k => ?_) (ih (i + 1) (wrap64 (s + ((l[i]).f1.size : Int))) (wrap64 ((l[i]).f0 + ((l[i]).f1.size : Int))) (by omega) (by omega) hs he)
    simp only [sextonlaw08_BlobChecks.l0, rd41 l i hlt]
    rw [if_pos (by omega), if_pos (by omega), if_pos (by omega), wr1 i (by omega)]
theorem BlobChecks_pure : ∀ (l0 : List (S41)), ((l0.length * 24 ≤ reachBytes ∧ ∀ x ∈ l0, b41 x)) → ∃ k, sextonlaw08_BlobChecks.f k l0 = some true := by
  intro l0 ⟨hl, _⟩
  have hb : reachBytes = 0x7ffffffff000 := rfl
  refine Ev.rounds ?_
  exact checks_l0 l0 (by omega) l0.length 0 0 0 (by omega) (by omega) rfl rfl

end Go.Proofs.Ytmknehabmloebaa.PBlob
