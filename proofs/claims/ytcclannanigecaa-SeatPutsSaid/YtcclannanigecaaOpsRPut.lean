/- What the reference's putting comes to. -/
import Derived.Test.YtcclannanigecaaOpsPut
import Derived.Test.YtcclannanigecaaOpsRAsk
import Derived.Test.YtcclannanigecaaPSeatx9
namespace Go.Proofs.Ytcclannanigecaa.PSeat
open Go Go.RowKit Go.Proofs.YtcclannanigecaaW.PrintWords Go.Proofs.YtcclannanigecaaW.PrintLast Go.Proofs.YtcclannanigecaaW.PrintMore
set_option linter.unusedVariables false

theorem rput_l1 (l : List S46) (who : Int) (hl : l.length ≤ 1000000) (n : Nat) : ∀ (i : Nat) (out : List S46), i ≤ l.length → l.length - i = n → out.length ≤ 1000001 + i →
    Ev (fun k => sextonref16_Put.l1 k who out l l.length i) (out ++ (l.drop i).filter (fun x => decide (who < x.f0)), 0) := by
  induction n with
  | zero =>
    intro i out h1 h2 h3
    rw [List.drop_eq_nil_of_le (by omega)]
    exact Ev.step (fun k => by simp only [sextonref16_Put.l1]; rw [if_neg (by omega)]; simp) (Ev.now _)
  | succ n ih =>
    intro i out h1 h2 h3
    have hlt : i < l.length := by omega
    rw [List.drop_eq_getElem_cons hlt, List.filter_cons]
    by_cases c : (l[i]).f0 > who
    · rw [if_pos (by simpa using c)]
      have := ih (i + 1) (out ++ [l[i]]) (by omega) (by omega) (by simp; omega)
      rw [List.append_assoc] at this
      refine Ev.step (fun k => ?_) this
      simp only [sextonref16_Put.l1, rd46 l i hlt]
      rw [if_pos (by omega), if_pos (by omega), if_pos (by omega), if_pos c, if_pos (by omega), wr1 i (by omega)]
    · rw [if_neg (by simpa using c)]
      refine Ev.step (fun k => ?_) (ih (i + 1) out (by omega) (by omega) (by omega))
      simp only [sextonref16_Put.l1, rd46 l i hlt]
      rw [if_pos (by omega), if_pos (by omega), if_pos (by omega), if_neg c, wr1 i (by omega)]
theorem rput_l0 (l : List S46) (who req : Int) (r : ByteArray) (hl : l.length ≤ 1000000) {R : List S46 × Int} (n : Nat) : ∀ (i : Nat) (out : List S46), i ≤ l.length → l.length - i = n → out.length ≤ i →
    Ev (fun k => sextonref16_Put.l1 k who ((out ++ (l.drop i).filter (fun x => decide (x.f0 < who))) ++ [⟨who, req, r⟩]) l l.length 0) R →
    Ev (fun k => sextonref16_Put.l0 k l who req r out l l.length i) R := by
  induction n with
  | zero =>
    intro i out g1 g2 g3 h
    rw [List.drop_eq_nil_of_le (by omega), List.filter_nil, List.append_nil] at h
    exact Ev.step (fun k => by simp only [sextonref16_Put.l0]; rw [if_neg (by omega), if_pos (by omega)]) h
  | succ n ih =>
    intro i out g1 g2 g3 h
    have hlt : i < l.length := by omega
    rw [List.drop_eq_getElem_cons hlt, List.filter_cons] at h
    by_cases c : (l[i]).f0 < who
    · rw [if_pos (by simpa using c)] at h
      refine Ev.step (fun k => ?_) (ih (i + 1) (out ++ [l[i]]) (by omega) (by omega) (by simp; omega) (by rw [List.append_assoc out]; exact h))
      simp only [sextonref16_Put.l0, rd46 l i hlt]
      rw [if_pos (by omega), if_pos (by omega), if_pos (by omega), if_pos c, if_pos (by omega), wr1 i (by omega)]
    · rw [if_neg (by simpa using c)] at h
      refine Ev.step (fun k => ?_) (ih (i + 1) out (by omega) (by omega) (by omega) h)
      simp only [sextonref16_Put.l0, rd46 l i hlt]
      rw [if_pos (by omega), if_pos (by omega), if_pos (by omega), if_neg c, wr1 i (by omega)]
theorem rput_f (l : List S46) (hl : l.length ≤ 9223372036854775806) (who req : Int) (r : ByteArray) : Ev (fun k => sextonref16_Put.f k l who req r) (put l who req r) := by
  refine Ev.bind (rask_f l hl who req) ?_
  unfold put
  by_cases c : (ask l who req).2.2 = 0
  · simp only [if_pos c]
    by_cases d : (r.size : Int) > 8192
    · simp only [if_pos d]; exact Ev.now _
    · simp only [if_neg d]
      by_cases e : (ask l who req).1 = 4
      · simp only [if_pos e]; exact Ev.now _
      · simp only [if_neg e]
        by_cases f : (ask l who req).1 = 1
        · simp only [if_pos f]
          have hlen := (ok_spec (ask_zero c).1).2
          refine rput_l0 l who req r (by omega) l.length 0 [] (by omega) (by omega) (by simp) ?_
          have hfl := List.length_filter_le (fun x : S46 => decide (x.f0 < who)) l
          have := rput_l1 l who (by omega) l.length 0 (l.filter (fun x => decide (x.f0 < who)) ++ [⟨who, req, r⟩]) (by omega) (by omega) (by simp; omega)
          rw [List.drop_zero, List.append_assoc] at this
          rw [List.drop_zero, List.nil_append]
          exact this
        · simp only [if_neg f]; exact Ev.now _
  · simp only [if_neg c]; exact Ev.now _

end Go.Proofs.Ytcclannanigecaa.PSeat
