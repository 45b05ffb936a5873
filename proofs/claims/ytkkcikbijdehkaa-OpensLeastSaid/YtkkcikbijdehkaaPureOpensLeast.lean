/- The pure law of sexton/sextonlaw12.OpensLeast: for every input the function that the code computes answers true. No program stands here. -/
import Derived.Test.YtkkcikbijdehkaaPOpensx18
import Derived.Test.YtkkcikbijdehkaaOpenOpens
import Derived.Test.YtkkcikbijdehkaaOpsOpen
namespace Go.Proofs.Ytkkcikbijdehkaa.POpens
open Go Go.RowKit Go.Proofs.YtkkcikbijdehkaaW.PrintWords Go.Proofs.YtkkcikbijdehkaaW.PrintLast Go.Proofs.YtkkcikbijdehkaaW.PrintMore
set_option linter.unusedVariables false

theorem least_l0 (l : List S36) (hl : l.length = 16) (hall : ∀ (i : Nat) (h : i < l.length), (l[i]).f0 = (i : Int)) (n : Nat) : ∀ i : Nat, i ≤ l.length → l.length - i = n → Ev (fun k => sextonlaw12_OpensLeast.l0 k l [] l l.length i) true := by
  induction n with
  | zero =>
    intro i g1 g2
    refine Ev.step (fun k => by simp only [sextonlaw12_OpensLeast.l0]; rw [if_neg (by omega), if_pos (by omega), if_pos (by simp)]) (Ev.bind two_f (Ev.now _))
  | succ n ih =>
    intro i g1 g2
    have hlt : i < l.length := by omega
    refine Ev.step (fun k => ?_) (ih (i + 1) (by omega) (by omega))
    simp only [sextonlaw12_OpensLeast.l0, rd36 l i hlt]
    rw [if_pos (by omega), if_pos (by omega), if_pos (by omega), if_pos (hall i hlt), wr1 i (by omega)]
theorem least_l3 (l : List S36) (hl : l.length ≤ 1000000) (fd : Nat) (hfd : fd < 16) (hno : ∀ x ∈ l, x.f0 ≠ (fd : Int)) (n : Nat) : ∀ i : Nat, i ≤ l.length → l.length - i = n → Ev (fun k => sextonlaw12_OpensLeast.l3 k fd l l.length i) true := by
  induction n with
  | zero =>
    intro i g1 g2
    refine Ev.step (fun k => by simp only [sextonlaw12_OpensLeast.l3]; rw [if_neg (by omega), if_pos (by omega), if_pos (by omega)]) (Ev.bind two_f (Ev.now _))
  | succ n ih =>
    intro i g1 g2
    have hlt : i < l.length := by omega
    refine Ev.step (fun k => ?_) (ih (i + 1) (by omega) (by omega))
    simp only [sextonlaw12_OpensLeast.l3, rd36 l i hlt]
    rw [if_pos (by omega), if_pos (by omega), if_pos (by omega), if_neg (hno _ (List.getElem_mem hlt)), wr1 i (by omega)]
theorem least_l2 (l : List S36) (hl : l.length ≤ 1000000) (fd j : Nat) {R : Bool} (n : Nat) : ∀ (i : Nat) (u : Bool), i ≤ l.length → l.length - i = n → (u || (l.drop i).any fun x => x.f0 == (j : Int)) = true →
    Ev (fun k => sextonlaw12_OpensLeast.l1 k l fd (wrap64 ((j : Int) + 1))) R → Ev (fun k => sextonlaw12_OpensLeast.l2 k l fd j u l l.length i) R := by
  induction n with
  | zero =>
    intro i u g1 g2 h hR
    rw [List.drop_eq_nil_of_le (by omega)] at h
    simp only [List.any_nil, Bool.or_false] at h
    subst h
    exact Ev.step (fun k => by simp only [sextonlaw12_OpensLeast.l2]; rw [if_neg (by omega), if_pos trivial]) hR
  | succ n ih =>
    intro i u g1 g2 h hR
    have hlt : i < l.length := by omega
    rw [List.drop_eq_getElem_cons hlt, List.any_cons] at h
    cases u with
    | true =>
      refine Ev.step (fun k => ?_) (ih (i + 1) true (by omega) (by omega) (by simp) hR)
      simp only [sextonlaw12_OpensLeast.l2, rd36 l i hlt]
      rw [if_pos (by omega), if_pos (by omega), if_pos (by omega), if_pos trivial, wr1 i (by omega)]
    | false =>
      simp only [Bool.false_or] at h
      refine Ev.step (fun k => ?_) (ih (i + 1) ((l[i]).f0 == (j : Int)) (by omega) (by omega) h hR)
      simp only [sextonlaw12_OpensLeast.l2, rd36 l i hlt]
      rw [if_pos (by omega), if_pos (by omega), if_pos (by omega), if_neg (by simp), wr1 i (by omega)]
theorem least_l1 {l a b : List S36} (hl : l.length ≤ 1000000) {fd : Nat} (hfd : fd < 16) (hf : Free l fd a b) (n : Nat) : ∀ j : Nat, j ≤ fd → fd - j = n → Ev (fun k => sextonlaw12_OpensLeast.l1 k l fd j) true := by
  induction n with
  | zero =>
    intro j g1 g2
    obtain rfl : j = fd := by omega
    refine Ev.step (fun k => by simp only [sextonlaw12_OpensLeast.l1]; rw [if_neg (by omega)]; rfl) (least_l3 l hl j hfd (fun x hx => ?_) l.length 0 (by omega) (by omega))
    rw [hf.eq] at hx
    rcases List.mem_append.1 hx with hx | hx
    · have := hf.lo x hx; omega
    · have := hf.hi x hx; omega
  | succ n ih =>
    intro j g1 g2
    refine Ev.step (fun k => by simp only [sextonlaw12_OpensLeast.l1]; rw [if_pos (by omega)]; rfl) (least_l2 l hl fd j l.length 0 false (by omega) (by omega) ?_ ?_)
    · rw [List.drop_zero, Bool.false_or, hf.eq, List.any_append, Bool.or_eq_true]
      obtain ⟨x, hx, hxi⟩ := hf.all j (by omega)
      exact .inl (List.any_eq_true.2 ⟨x, hx, by simpa using hxi⟩)
    · rw [wr1 j (by omega)]
      exact ih (j + 1) (by omega) (by omega)
theorem full_at : ∀ (l : List S36) (p : Int), chk p l = true → (l.length : Int) + p = 15 → ∀ (i : Nat) (h : i < l.length), (l[i]).f0 = p + 1 + i
  | x :: l, p, hc, hl, i, h => by
    obtain ⟨h1, h2, h3⟩ := chk_spec hc
    have hb := chk_few (p := x.f0) (by have := h1.1.2; omega) h3
    rw [List.length_cons] at hl
    have hx : x.f0 = p + 1 := by omega
    cases i with
    | zero => simpa using hx
    | succ i =>
      have := full_at l x.f0 h3 (by omega) i (by simpa using h)
      rw [List.getElem_cons_succ, this]; omega
theorem OpensLeast_pure : ∀ (l0 : List (S36)) (a1 : Int) (x2 : S24), ((l0.length * 32 ≤ reachBytes ∧ ∀ x ∈ l0, b36 x)) → ((Lit.int .i64 a1).wf = true) → (b24 x2) → ∃ k, sextonlaw12_OpensLeast.f k l0 a1 x2.f0 x2.f1 = some true := by
  intro l a1 x2 ⟨hl, _⟩ _ _
  have hb : reachBytes = 0x7ffffffff000 := rfl
  refine Ev.rounds ?_
  refine Ev.bind (open_f l (by omega) a1 _ _) ?_
  have two : Ev (fun k => if (([] : List S36).length : Int) = 0 then ((sextonlaw12_two.f k).bind fun t217 => (some t217)) else (some false)) true := by
    simp only [List.length_nil]
    exact Ev.bind two_f (Ev.now _)
  unfold opn
  by_cases c : ask l a1 = 0
  · have hchk := (ask_zero c).1
    have hlen := chk_len hchk
    by_cases d : FitH x2.f0 x2.f1
    · by_cases e : l.length = 16
      · simp only [if_pos c, if_pos d, if_pos e, if_true]
        exact least_l0 l e (fun i h => by have := full_at l (-1) hchk (by omega) i h; omega) l.length 0 (by omega) (by omega)
      · obtain ⟨a, b, hf⟩ := free_of hchk
        obtain ⟨e1, e2⟩ := free_full hchk hf
        have e3 : ¬ (0 : Int) = 407 := by decide
        simp only [if_pos c, if_pos d, if_neg e, if_neg e3, if_true]
        have hne : lead 0 l ≠ 16 := fun h => e (e1.2 h)
        exact least_l1 (by omega) (by omega) hf (lead 0 l) 0 (by omega) (by omega)
    · have e3 : ¬ (1 : Int) = 407 := by decide
      have e4 : ¬ (1 : Int) = 0 := by decide
      simp only [if_pos c, if_neg d, if_neg e3, if_neg e4]
      exact two
  · have e3 : ¬ ask l a1 = 407 := by
      unfold ask
      split
      · split <;> decide
      · decide
    simp only [if_neg c, if_neg e3]
    exact two

end Go.Proofs.Ytkkcikbijdehkaa.POpens
