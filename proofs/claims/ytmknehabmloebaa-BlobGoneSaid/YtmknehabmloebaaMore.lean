/- What blob's reads and ends answer, in plain words. -/
import Derived.Test.YtmknehabmloebaaFive
import Derived.Test.YtmknehabmloebaaPBlobx20
import Derived.Test.YtmknehabmloebaaPBlobx21
namespace Go.Proofs.Ytmknehabmloebaa.PBlob
open Go Go.RowKit Go.Proofs.YtmknehabmloebaaW.PrintWords Go.Proofs.YtmknehabmloebaaW.PrintLast Go.Proofs.YtmknehabmloebaaW.PrintMore
set_option linter.unusedVariables false

theorem read_eq {l : List S41} (hc : chk 0 l = true) {p n : Int} (h0 : 0 ≤ p) (hn : 0 ≤ n) (hn' : n ≤ 512) :
    blob_Read.f l 1048576 p n = some (strOfNums ((List.range (min n (1048576 - p)).toNat).map fun j : Nat => byteAt l (p + j)), 0) := by
  unfold blob_Read.f
  rw [if_pos hc, if_neg (by omega)]
  by_cases c : p ≥ 1048576
  · rw [if_pos c, show (min n (1048576 - p)).toNat = 0 by omega]; rfl
  · rw [if_neg c, readOf_eq hc, mn_min]
/-- Two files that are alike in a part are read alike there. -/
theorem read_same {l l' : List S41} (hc : chk 0 l = true) (hc' : chk 0 l' = true) {p n : Int} (h0 : 0 ≤ p) (hn : 0 ≤ n) (hn' : n ≤ 512) (h : ∀ i, p ≤ i → i < p + n → val l i = val l' i) :
    ∃ r, blob_Read.f l 1048576 p n = some (r, 0) ∧ blob_Read.f l' 1048576 p n = some (r, 0) := by
  refine ⟨_, read_eq hc h0 hn hn', ?_⟩
  rw [read_eq hc' h0 hn hn']
  congr 3
  refine List.map_congr_left fun j hj => ?_
  have hj := List.mem_range.1 hj
  unfold byteAt
  rw [h (p + j) (by omega) (by omega)]
theorem end_ev {l : List S41} (hl : l.length ≤ 9223372036854775806) : Ev (fun k => blob_End.f k l) (if chk 0 l = true then fin 0 l else 0) := by
  unfold blob_End.f
  rcases snoc_cases l with rfl | ⟨o, y, rfl⟩
  · exact Ev.now _
  · have hlo : (o ++ [y]).length = o.length + 1 := by simp
    have e1 : wrap64 (((o ++ [y]).length : Int) - 1) = (o.length : Int) := by rw [hlo]; unfold wrap64; omega
    have er : rd_T41 (o ++ [y]) (o.length : Int) = y := by rw [rd41 _ _ (by simp)]; simp
    have g : ¬ (((o ++ [y]).length : Int) = 0) := by omega
    simp only [if_neg g, e1, er]
    refine Ev.bind (check_ev (by omega)) ?_
    cases hc : chk 0 (o ++ [y]) with
    | false => exact Ev.now _
    | true =>
      obtain ⟨_, g2⟩ := chk_left hc
      obtain ⟨k1, k2, k3, k4, _⟩ := chk_spec g2
      have hy0 := chk_good (by omega) hc y (by simp)
      have g3 : (o.length : Int) < ((o ++ [y]).length : Int) := by omega
      have g4 : (0 : Int) ≤ (o.length : Int) := by omega
      simp only [if_true, g3, g4, blob_end.f, Option.bind_some]
      rw [wrap_id (by omega) (by omega)]
      have : fin 0 (o ++ [y]) = y.f0 + y.f1.size := by simp [fin]
      rw [this]
      exact Ev.now _
def sumw (l : List S41) (s : Int) : Int := l.foldl (fun n r => wrap64 (n + (r.f1.size : Int))) s
theorem bytes_l0 (l : List S41) (hl : l.length ≤ 9223372036854775806) (d : Nat) : ∀ (i : Nat) (s : Int), i ≤ l.length → l.length - i = d → Ev (fun k => blob_Bytes.l0 k s l l.length i) (sumw (l.drop i) s) := by
  induction d with
  | zero =>
    intro i s h1 h2
    rw [List.drop_eq_nil_of_le (by omega)]
    exact Ev.step (fun k => by simp only [blob_Bytes.l0]; rw [if_neg (by omega)]; rfl) (Ev.now _)
  | succ d ih =>
    intro i s h1 h2
    have hlt : i < l.length := by omega
    rw [List.drop_eq_getElem_cons hlt]
    refine Ev.step (fun k => ?_) (ih (i + 1) (wrap64 (s + ((l[i]).f1.size : Int))) (by omega) (by omega))
    simp only [blob_Bytes.l0, rd41 l i hlt]
    rw [if_pos (by omega), if_pos (by omega), if_pos (by omega), wr1 i (by omega)]
theorem bytes_ev {l : List S41} (hl : l.length ≤ 9223372036854775806) : Ev (fun k => blob_Bytes.f k l) (sumw l 0) := by
  have := bytes_l0 l hl l.length 0 0 (by omega) (by omega)
  simpa [blob_Bytes.f] using this

end Go.Proofs.Ytmknehabmloebaa.PBlob
