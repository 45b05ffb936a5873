/- What the printed functions of the blob laws come to, in plain words. -/
import Derived.Test.YtmknehabmloebaaRuns
import Derived.Test.YtmknehabmloebaaPBlobx5
import Derived.Test.YtmknehabmloebaaPBlobx7
import Derived.Test.YtmknehabmloebaaPBlobx8
import Derived.Test.YtmknehabmloebaaPBlobx9
import Derived.Test.YtmknehabmloebaaPBlobx11
namespace Go.Proofs.Ytmknehabmloebaa.PBlob
open Go Go.RowKit Go.Proofs.YtmknehabmloebaaW.PrintWords Go.Proofs.YtmknehabmloebaaW.PrintLast Go.Proofs.YtmknehabmloebaaW.PrintMore
set_option linter.unusedVariables false

theorem rd58 (l : List S58) (i : Nat) (h : i < l.length) : rd_T58 l (i : Int) = l[i] := by
  simp [rd_T58, List.getD_eq_getElem?_getD, List.getElem?_eq_getElem h]
theorem wr1 (i : Nat) (h : i < 9223372036854775807) : wrap64 ((i : Int) + 1) = ((i + 1 : Nat) : Int) := by unfold wrap64; omega
theorem wrm1 (i : Nat) (h0 : 0 < i) (h : i < 9223372036854775807) : wrap64 ((i : Int) - 1) = ((i - 1 : Nat) : Int) := by unfold wrap64; omega

/-! ### heavy -/
theorem heavy_ends (l0 l : List S41) (hl : l.length ≤ 9223372036854775806) (d : Nat) : ∀ (i : Nat) (n : Int), i ≤ l.length → l.length - i = d → ∃ b, Ev (fun k => sextonlaw08_heavy.l0 k l0 n l l.length i) b := by
  induction d with
  | zero =>
    intro i n h1 h2
    by_cases h : n > 20000
    · exact ⟨true, Ev.step (fun k => by simp only [sextonlaw08_heavy.l0]; rw [if_neg (by omega), if_pos h]) (Ev.now _)⟩
    · exact ⟨_, Ev.step (fun k => by simp only [sextonlaw08_heavy.l0]; rw [if_neg (by omega), if_neg h]) (Ev.now _)⟩
  | succ d ih =>
    intro i n h1 h2
    obtain ⟨b, hb⟩ := ih (i + 1) (wrap64 (n + (((rd_T41 l i).f1).size : Int))) (by omega) (by omega)
    exact ⟨b, Ev.step (fun k => by simp only [sextonlaw08_heavy.l0]; rw [if_pos (by omega), if_pos (by omega), if_pos (by omega), wr1 i (by omega)]) hb⟩
theorem heavy_f (l : List S41) (s : ByteArray) (hl : l.length ≤ 9223372036854775806) : ∃ b, Ev (fun k => sextonlaw08_heavy.f k l s) b := heavy_ends l l hl l.length 0 _ (by omega) (by omega)

/-! ### joined -/
theorem joined_l0 (l : List S41) (hl : l.length ≤ 5000000000) (d : Nat) : ∀ (k i : Nat) (out : List S41), d < k → i ≤ l.length → l.length - i = d → chk 0 out = true → wchk (fin 0 out) (l.drop i) → out.length ≤ i →
    blob_joined.l0 k out l l.length i = some ((l.drop i).foldl jstep out) := by
  induction d with
  | zero =>
    intro k i out hk h1 h2 hc hw ho
    obtain ⟨k, rfl⟩ : ∃ m, k = m + 1 := ⟨k - 1, by omega⟩
    rw [List.drop_eq_nil_of_le (by omega)]
    simp only [blob_joined.l0]; rw [if_neg (by omega)]; rfl
  | succ d ih =>
    intro k i out hk h1 h2 hc hw ho
    obtain ⟨k, rfl⟩ : ∃ m, k = m + 1 := ⟨k - 1, by omega⟩
    have hlt : i < l.length := by omega
    have hd : l.drop i = l[i] :: l.drop (i + 1) := List.drop_eq_getElem_cons hlt
    rw [hd] at hw ⊢
    obtain ⟨w1, w2, w3, w4⟩ := hw
    obtain ⟨j1, j2, j3⟩ := jstep_ok hc w1 w2 w3
    have hjl : (jstep out l[i]).length ≤ i + 1 := by
      unfold jstep
      split
      · rename_i y hy
        split
        · simp; omega
        · simp; omega
      · simp; omega
    have hrest := ih k (i + 1) (jstep out l[i]) (by omega) (by omega) (by omega) j1 (by rw [j2]; exact w4) hjl
    rw [List.foldl_cons]
    refine Eq.trans ?_ hrest
    simp only [blob_joined.l0, rd41 l i hlt]
    rw [if_pos (by omega), if_pos (by omega), if_pos (by omega), wr1 i (by omega)]
    rcases snoc_cases out with rfl | ⟨o, y, rfl⟩
    · have e : wrap64 ((([] : List S41).length : Int) - 1) = -1 := by unfold wrap64; simp
      rw [e, if_neg (by omega), if_pos (by simp)]
      rfl
    · have hlo : (o ++ [y]).length = o.length + 1 := by simp
      have hy0 := chk_good (by omega) hc y (by simp)
      obtain ⟨_, g2⟩ := chk_left hc
      obtain ⟨k1, k2, k3, k4, _⟩ := chk_spec g2
      have e : wrap64 (((o ++ [y]).length : Int) - 1) = (o.length : Int) := by rw [hlo]; unfold wrap64; omega
      have er : rd_T41 (o ++ [y]) (o.length : Int) = y := by rw [rd41 _ _ (by simp)]; simp
      rw [e, if_pos (by omega), if_pos (by omega), if_pos (by rw [hlo]; omega), er]
      have he : blob_end.f y.f0 y.f1 = some (y.f0 + y.f1.size) := by unfold blob_end.f; rw [wrap_id (by omega) (by omega)]
      rw [he]
      simp only [Option.bind_some]
      have hjs : jstep (o ++ [y]) l[i] = if y.f0 + y.f1.size = l[i].f0 then o ++ [⟨y.f0, y.f1 ++ l[i].f1⟩] else (o ++ [y]) ++ [l[i]] := by
        unfold jstep
        simp
      rw [hjs]
      by_cases ht : y.f0 + y.f1.size = l[i].f0
      · rw [if_pos ht, if_pos ht, if_pos (by omega)]
        congr 1
        simp
      · rw [if_neg ht, if_neg ht, if_pos (by rw [hlo]; omega)]
theorem joined_f {l : List S41} (hl : l.length ≤ 5000000000) (hw : wchk 0 l) : blob_joined.f (l.length + 1) l = some (jn l) := by
  have := joined_l0 l hl l.length (l.length + 1) 0 [] (by omega) (by omega) (by omega) rfl hw (by simp)
  simpa [blob_joined.f, jn] using this

/-! ### Right -/
def Prv (l : List S41) (i : Nat) (fr : Int) : Prop := 0 < i → ∃ y, l[i - 1]? = some y ∧ fr = y.f0 + y.f1.size + 1 ∧ fr ≤ 1048577 ∧ 0 ≤ y.f0
theorem right_l0 (l : List S41) (hl : l.length ≤ 9223372036854775806) (d : Nat) : ∀ (i : Nat) (fr : Int), i ≤ l.length → l.length - i = d → 0 ≤ fr → (i = 0 → fr = 0) → Prv l i fr →
    Ev (fun k => sextonref08_Right.l0 k l l l.length i) (chk fr (l.drop i)) := by
  induction d with
  | zero =>
    intro i fr h1 h2 h0 _ _
    rw [List.drop_eq_nil_of_le (by omega)]
    exact Ev.step (fun k => by simp only [sextonref08_Right.l0]; rw [if_neg (by omega)]; rfl) (Ev.now _)
  | succ d ih =>
    intro i fr h1 h2 h0 hz hp
    have hlt : i < l.length := by omega
    have hd : l.drop i = l[i] :: l.drop (i + 1) := List.drop_eq_getElem_cons hlt
    rw [hd]
    have bad : ∀ (c : S41), chk fr (l[i] :: l.drop (i + 1)) = false → Ev (fun k => sextonref08_Right.j1 k l i l l.length i true (l[i]).f0 (l[i]).f1) (chk fr (l[i] :: l.drop (i + 1))) := fun c hb => by
      rw [hb]
      exact Ev.step (fun k => by simp only [sextonref08_Right.j1]; rfl) (Ev.now _)
    by_cases c1 : (l[i]).f1.toList = ([] : List UInt8)
    · exact Ev.step (fun k => by simp only [sextonref08_Right.l0, rd41 l i hlt]; rw [if_pos (by omega), if_pos (by omega), if_pos (by omega), if_pos c1]) (bad l[i] (chk_bad (.inl c1)))
    · by_cases c2 : (l[i]).f0 < 0
      · exact Ev.step (fun k => by simp only [sextonref08_Right.l0, rd41 l i hlt]; rw [if_pos (by omega), if_pos (by omega), if_pos (by omega), if_neg c1, if_pos c2]) (bad l[i] (chk_bad (.inr (.inl (by omega)))))
      · by_cases c3 : (l[i]).f0 > 1048576
        · exact Ev.step (fun k => by simp only [sextonref08_Right.l0, rd41 l i hlt]; rw [if_pos (by omega), if_pos (by omega), if_pos (by omega), if_neg c1, if_neg c2, if_pos c3]) (bad l[i] (chk_bad (.inr (.inr (.inr (by clear hp; omega))))))
        · have e1 : wrap64 (1048576 - (l[i]).f0) = 1048576 - (l[i]).f0 := wrap_id (by omega) (by omega)
          by_cases c4 : ((l[i]).f1.size : Int) > 1048576 - (l[i]).f0
          · refine Ev.step (fun k => by simp only [sextonref08_Right.l0, rd41 l i hlt]; rw [if_pos (by omega), if_pos (by omega), if_pos (by omega), if_neg c1, if_neg c2, if_neg c3, e1, decide_eq_true c4]) (bad l[i] (chk_bad (.inr (.inr (.inr (by omega))))))
          · have hgo : ∀ k, sextonref08_Right.l0 (k + 1) l l l.length i = sextonref08_Right.j1 k l i l l.length i false (l[i]).f0 (l[i]).f1 := fun k => by
              simp only [sextonref08_Right.l0, rd41 l i hlt]; rw [if_pos (by omega), if_pos (by omega), if_pos (by omega), if_neg c1, if_neg c2, if_neg c3, e1, decide_eq_false c4]
            refine Ev.step hgo ?_
            have hrest : fr ≤ (l[i]).f0 → Ev (fun k => sextonref08_Right.l0 k l l l.length ((i + 1 : Nat) : Int)) (chk fr (l[i] :: l.drop (i + 1))) := fun hf => by
              rw [chk_ok c1 (by omega) (by omega) (by omega)]
              exact ih (i + 1) ((l[i]).f0 + (l[i]).f1.size + 1) (by omega) (by omega) (by omega) (fun h => absurd h (by omega)) (fun _ => ⟨l[i], by simp [hlt], rfl, by omega, by omega⟩)
            by_cases hi0 : i = 0
            · have hf := hz hi0
              refine Ev.step (fun k => ?_) (hrest (by omega))
              simp only [sextonref08_Right.j1]
              rw [if_neg (by simp), if_neg (by omega), wr1 i (by omega)]
            · obtain ⟨y, hy, hfy, hfr2, hy0⟩ := hp (by omega)
              have hyr : rd_T41 l ((i - 1 : Nat) : Int) = y := by simp [rd_T41, List.getD_eq_getElem?_getD, hy]
              have e2 : wrap64 (y.f0 + (y.f1.size : Int)) = y.f0 + y.f1.size := wrap_id (by omega) (by omega)
              by_cases c5 : y.f0 + y.f1.size ≥ (l[i]).f0
              · rw [chk_bad (.inr (.inl (by omega)))]
                refine Ev.step (fun k => ?_) (Ev.now false)
                simp only [sextonref08_Right.j1]
                rw [if_neg (by simp), if_pos (by omega), wrm1 i (by omega) (by omega), if_pos (by omega), if_pos (by omega), hyr, e2, if_pos c5]
              · refine Ev.step (fun k => ?_) (hrest (by omega))
                simp only [sextonref08_Right.j1]
                rw [if_neg (by simp), if_pos (by omega), wrm1 i (by omega) (by omega), if_pos (by omega), if_pos (by omega), hyr, e2, if_neg c5, wr1 i (by omega)]
theorem right_f (l : List S41) (hl : l.length ≤ 9223372036854775806) : Ev (fun k => sextonref08_Right.f k l) (chk 0 l) := by
  have := right_l0 l hl l.length 0 0 (by omega) (by omega) (by omega) (fun _ => rfl) (fun h => absurd h (by omega))
  simpa [sextonref08_Right.f] using this

/-! ### Runs -/
theorem runs_same (l : List S41) (hl : l.length ≤ 9223372036854775806) (d : Nat) : ∀ i : Nat, i ≤ l.length → l.length - i = d → Ev (fun k => sextonplain_Runs.l0 k l l l.length i) true := by
  induction d with
  | zero =>
    intro i h1 h2
    exact Ev.step (fun k => by simp only [sextonplain_Runs.l0]; rw [if_neg (by omega)]; simp) (Ev.now _)
  | succ d ih =>
    intro i h1 h2
    exact Ev.step (fun k => by simp only [sextonplain_Runs.l0]; rw [if_pos (by omega), if_neg (by omega), if_pos (by omega), if_pos (by omega), if_pos (by omega), if_neg (by simp), wr1 i (by omega)]) (ih (i + 1) (by omega) (by omega))
theorem runs_f (l : List S41) (hl : l.length ≤ 9223372036854775806) : Ev (fun k => sextonplain_Runs.f k l l) true := runs_same l hl l.length 0 (by omega) (by omega)

end Go.Proofs.Ytmknehabmloebaa.PBlob
