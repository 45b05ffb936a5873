/- The pure law of sexton/sextonlaw16.SeatApart: for every input the function that the code computes answers true. No program stands here. -/
import Derived.Test.YtcclannanigecaaPSeatx14
import Derived.Test.YtcclannanigecaaOpenSeat
import Derived.Test.YtcclannanigecaaOpsOne
namespace Go.Proofs.Ytcclannanigecaa.PSeat
open Go Go.RowKit Go.Proofs.YtcclannanigecaaW.PrintWords Go.Proofs.YtcclannanigecaaW.PrintLast Go.Proofs.YtcclannanigecaaW.PrintMore
set_option linter.unusedVariables false

theorem find_app (l m : List S46) (o : Int) : (l ++ m).find? (key o) = (l.find? (key o)).or (m.find? (key o)) := List.find?_append
theorem find_skip {y : S46} {b : List S46} {o : Int} (h : y.f0 ≠ o) : (y :: b).find? (key o) = b.find? (key o) := by rw [List.find?_cons, show key o y = false by simp [key, h]]
theorem apart_j0 {l : List S46} {who req o : Int} {r : ByteArray} (h : (put l who req r).2 = 0) (hne : o ≠ who) (ho : FitC o) : Ev (fun k => sextonlaw16_SeatApart.j0 k l o (put l who req r).1 false) true := by
  obtain ⟨hok, hc, hr, hsz, a, b, e, hlo, hhi, hok2, hw⟩ := put_ok h
  rw [e]
  have hfind : (a ++ ⟨who, req, r⟩ :: b).find? (key o) = l.find? (key o) := by
    rw [find_app, find_skip (fun h => hne h.symm)]
    rcases hw with ⟨y, hl, hy, _⟩ | ⟨hl, _⟩
    · rw [hl, find_app, find_skip (fun h => hne (h.symm.trans hy))]
    · rw [hl, find_app]
  have e2 : FitC o ∧ FitR 3 := ⟨ho, by decide⟩
  have a1 : ask l o 3 = (match l.find? (key o) with | some x => (if 3 > x.f1 then (1, ⟨#[]⟩, 0) else if 3 < x.f1 then (3, ⟨#[]⟩, 0) else (2, x.f2, 0)) | none => (if l.length = 6 then (4, ⟨#[]⟩, 0) else (1, ⟨#[]⟩, 0))) := by
    unfold ask; rw [if_pos hok, if_pos e2]; cases l.find? (key o) <;> rfl
  have a2 : ask (a ++ ⟨who, req, r⟩ :: b) o 3 = (match l.find? (key o) with | some x => (if 3 > x.f1 then (1, ⟨#[]⟩, 0) else if 3 < x.f1 then (3, ⟨#[]⟩, 0) else (2, x.f2, 0)) | none => (if (a ++ ⟨who, req, r⟩ :: b : List S46).length = 6 then (4, ⟨#[]⟩, 0) else (1, ⟨#[]⟩, 0))) := by
    unfold ask; rw [if_pos hok2, if_pos e2, hfind]; cases l.find? (key o) <;> rfl
  have h6 : l.length = 6 → (a ++ ⟨who, req, r⟩ :: b : List S46).length = 6 := fun h6 => by
    rcases hw with ⟨y, hl, _, _⟩ | ⟨hl, hn⟩
    · rw [hl] at h6; simpa using h6
    · exact absurd h6 hn
  refine Ev.step (fun k => by simp only [sextonlaw16_SeatApart.j0]; rw [if_neg (by simp)]) (Ev.bind (ask_f l o 3) (Ev.bind (ask_f _ o 3) ?_))
  rw [a1, a2]
  cases hf : l.find? (key o) with
  | some x =>
    simp only [if_true]
    by_cases c1 : (3 : Int) > x.f1
    · simp only [if_pos c1, if_true]; exact Ev.bind one_f (Ev.now _)
    · by_cases c2 : (3 : Int) < x.f1
      · simp only [if_neg c1, if_pos c2, if_true]; exact Ev.bind one_f (Ev.now _)
      · simp only [if_neg c1, if_neg c2, if_true]; exact Ev.bind one_f (Ev.now _)
  | none =>
    by_cases c1 : l.length = 6
    · have c2 := h6 c1
      simp only [if_pos c1, if_pos c2, if_true]; exact Ev.bind one_f (Ev.now _)
    · by_cases c2 : (a ++ ⟨who, req, r⟩ :: b : List S46).length = 6
      · have c3 : ((a ++ ⟨who, req, r⟩ :: b : List S46).length : Int) = 6 := by omega
        have c4 : ¬ (1 : Int) = 4 := by decide
        simp only [if_neg c1, if_pos c2, if_true, if_neg c4, if_pos c3]; exact Ev.bind one_f (Ev.now _)
      · simp only [if_neg c1, if_neg c2, if_true]; exact Ev.bind one_f (Ev.now _)
theorem SeatApart_pure : ∀ (l0 : List (S46)) (x1 : S24) (a2 : Int), ((l0.length * 32 ≤ reachBytes ∧ ∀ x ∈ l0, b46 x)) → (b24 x1) → ((Lit.int .i64 a2).wf = true) → ∃ k, sextonlaw16_SeatApart.f k l0 x1.f0 x1.f1 x1.f2 a2 = some true := by
  intro l x o ⟨hl, _⟩ _ _
  refine Ev.rounds ?_
  have h5 : ∀ y, Ev (fun k => sextonlaw16_SeatApart.j0 k l o y true) true := fun y => Ev.step (fun k => by simp only [sextonlaw16_SeatApart.j0]; rfl) (Ev.bind one_f (Ev.now _))
  refine Ev.bind (put_f l _ _ _) ?_
  by_cases h : (put l x.f0 x.f1 x.f2).2 = 0
  · simp only [if_pos h]
    by_cases c1 : o = x.f0
    · simp only [if_pos c1]
      exact h5 _
    · by_cases c2 : o < 0
      · simp only [if_neg c1, if_pos c2]; exact h5 _
      · simp only [if_neg c1, if_neg c2]
        by_cases c3 : o > 1099511627776
        · rw [decide_eq_true c3]; exact h5 _
        · rw [decide_eq_false c3]
          exact apart_j0 h c1 (by unfold FitC; omega)
  · simp only [if_neg h]; exact h5 _

end Go.Proofs.Ytcclannanigecaa.PSeat
