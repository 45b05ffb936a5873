/- What the reference's opening comes to. -/
import Derived.Test.YtkkcikbijdehkaaOpsOpen
import Derived.Test.YtkkcikbijdehkaaPOpensx22
namespace Go.Proofs.Ytkkcikbijdehkaa.POpens
open Go Go.RowKit Go.Proofs.YtkkcikbijdehkaaW.PrintWords Go.Proofs.YtkkcikbijdehkaaW.PrintLast Go.Proofs.YtkkcikbijdehkaaW.PrintMore
set_option linter.unusedVariables false

/-! ### the reference's opening -/
theorem ropen_l3 (l a : List S36) (fd : Nat) (hl : l.length ≤ 1000000) (n : Nat) : ∀ (i : Nat) (out : List S36), i ≤ l.length → l.length - i = n → out.length ≤ 1000001 + i →
    Ev (fun k => sextonref12_Open.l3 k fd out l l.length i) (out ++ (l.drop i).filter (fun x => decide ((fd : Int) < x.f0)), (fd : Int), 0) := by
  induction n with
  | zero =>
    intro i out h1 h2 h3
    rw [List.drop_eq_nil_of_le (by omega)]
    exact Ev.step (fun k => by simp only [sextonref12_Open.l3]; rw [if_neg (by omega)]; simp) (Ev.now _)
  | succ n ih =>
    intro i out h1 h2 h3
    have hlt : i < l.length := by omega
    rw [List.drop_eq_getElem_cons hlt, List.filter_cons]
    by_cases c : (l[i]).f0 > (fd : Int)
    · rw [if_pos (by simpa using c)]
      have := ih (i + 1) (out ++ [l[i]]) (by omega) (by omega) (by simp; omega)
      rw [List.append_assoc] at this
      refine Ev.step (fun k => ?_) this
      simp only [sextonref12_Open.l3, rd36 l i hlt]
      rw [if_pos (by omega), if_pos (by omega), if_pos (by omega), if_pos c, if_pos (by omega), wr1 i (by omega)]
    · rw [if_neg (by simpa using c)]
      refine Ev.step (fun k => ?_) (ih (i + 1) out (by omega) (by omega) (by omega))
      simp only [sextonref12_Open.l3, rd36 l i hlt]
      rw [if_pos (by omega), if_pos (by omega), if_pos (by omega), if_neg c, wr1 i (by omega)]
theorem ropen_l2 (l : List S36) (who : Int) (fd : Nat) (h1 h2 : Int) (hl : l.length ≤ 1000000) {R : List S36 × Int × Int} (n : Nat) : ∀ (i : Nat) (out : List S36), i ≤ l.length → l.length - i = n → out.length ≤ i →
    Ev (fun k => sextonref12_Open.l3 k fd ((out ++ (l.drop i).filter (fun x => decide (x.f0 < (fd : Int)))) ++ [⟨(fd : Int), who, ⟨h1, h2⟩⟩]) l l.length 0) R →
    Ev (fun k => sextonref12_Open.l2 k l who fd out l l.length i h1 h2) R := by
  induction n with
  | zero =>
    intro i out g1 g2 g3 h
    rw [List.drop_eq_nil_of_le (by omega), List.filter_nil, List.append_nil] at h
    exact Ev.step (fun k => by simp only [sextonref12_Open.l2]; rw [if_neg (by omega), if_pos (by omega)]) h
  | succ n ih =>
    intro i out g1 g2 g3 h
    have hlt : i < l.length := by omega
    rw [List.drop_eq_getElem_cons hlt, List.filter_cons] at h
    by_cases c : (l[i]).f0 < (fd : Int)
    · rw [if_pos (by simpa using c)] at h
      refine Ev.step (fun k => ?_) (ih (i + 1) (out ++ [l[i]]) (by omega) (by omega) (by simp; omega) (by rw [List.append_assoc out]; exact h))
      simp only [sextonref12_Open.l2, rd36 l i hlt]
      rw [if_pos (by omega), if_pos (by omega), if_pos (by omega), if_pos c, if_pos (by omega), wr1 i (by omega)]
    · rw [if_neg (by simpa using c)] at h
      refine Ev.step (fun k => ?_) (ih (i + 1) out (by omega) (by omega) (by omega) h)
      simp only [sextonref12_Open.l2, rd36 l i hlt]
      rw [if_pos (by omega), if_pos (by omega), if_pos (by omega), if_neg c, wr1 i (by omega)]
theorem ropen_l1 (l : List S36) (who : Int) (fd : Nat) (h1 h2 : Int) (hl : l.length ≤ 1000000) {R : List S36 × Int × Int} (n : Nat) : ∀ (i : Nat) (u : Bool), i ≤ l.length → l.length - i = n →
    Ev (fun k => if (u || (l.drop i).any fun x => x.f0 == (fd : Int)) = true then sextonref12_Open.l0 k l who (wrap64 ((fd : Int) + 1)) h1 h2 else sextonref12_Open.l2 k l who fd [] l l.length 0 h1 h2) R →
    Ev (fun k => sextonref12_Open.l1 k l who fd u l l.length i h1 h2) R := by
  induction n with
  | zero =>
    intro i u g1 g2 h
    rw [List.drop_eq_nil_of_le (by omega)] at h
    simp only [List.any_nil, Bool.or_false] at h
    exact Ev.step (fun k => by simp only [sextonref12_Open.l1]; rw [if_neg (by omega)]) h
  | succ n ih =>
    intro i u g1 g2 h
    have hlt : i < l.length := by omega
    rw [List.drop_eq_getElem_cons hlt, List.any_cons] at h
    cases u with
    | true =>
      simp only [Bool.true_or] at h
      refine Ev.step (fun k => ?_) (ih (i + 1) true (by omega) (by omega) (by simpa using h))
      simp only [sextonref12_Open.l1, rd36 l i hlt]
      rw [if_pos (by omega), if_pos (by omega), if_pos (by omega), if_pos trivial, wr1 i (by omega)]
    | false =>
      simp only [Bool.false_or] at h
      refine Ev.step (fun k => ?_) (ih (i + 1) ((l[i]).f0 == (fd : Int)) (by omega) (by omega) h)
      simp only [sextonref12_Open.l1, rd36 l i hlt]
      rw [if_pos (by omega), if_pos (by omega), if_pos (by omega), if_neg (by simp), wr1 i (by omega)]
theorem ropen_l0 {l a b : List S36} (who : Int) (h1 h2 : Int) (hl : l.length ≤ 1000000) {fd : Nat} (hf : Free l fd a b) (hfd : fd ≤ 16) (m : Nat) : ∀ i : Nat, i ≤ fd → fd - i = m →
    Ev (fun k => sextonref12_Open.l0 k l who i h1 h2) (if fd = 16 then ([], 0, 407) else (a ++ ⟨(fd : Int), who, ⟨h1, h2⟩⟩ :: b, (fd : Int), 0)) := by
  induction m with
  | zero =>
    intro i h1' h2'
    obtain rfl : i = fd := by omega
    by_cases h16 : i = 16
    · rw [if_pos h16]
      exact Ev.step (fun k => by simp only [sextonref12_Open.l0]; rw [if_neg (by omega)]) (Ev.now _)
    · rw [if_neg h16]
      have hno : (l.any fun x => x.f0 == (i : Int)) = false := by
        rw [hf.eq, List.any_append, Bool.or_eq_false_iff]
        constructor
        · rw [List.any_eq_false]; intro x hx; have := hf.lo x hx; simp; omega
        · rw [List.any_eq_false]; intro x hx; have := hf.hi x hx; simp; omega
      refine Ev.step (fun k => by simp only [sextonref12_Open.l0]; rw [if_pos (by omega)]; rfl) (ropen_l1 l who i h1 h2 hl l.length 0 false (by omega) (by omega) ?_)
      rw [List.drop_zero, hno]
      simp only [Bool.or_false, Bool.false_eq_true, if_false]
      refine ropen_l2 l who i h1 h2 hl l.length 0 [] (by omega) (by omega) (by simp) ?_
      have hlo : l.filter (fun x => decide (x.f0 < (i : Int))) = a := by
        rw [hf.eq, List.filter_append, List.filter_eq_self.2 (fun x hx => by simpa using hf.lo x hx), List.filter_eq_nil_iff.2 (fun x hx => by have := hf.hi x hx; simp; omega), List.append_nil]
      have hhi : l.filter (fun x => decide ((i : Int) < x.f0)) = b := by
        rw [hf.eq, List.filter_append, List.filter_eq_nil_iff.2 (fun x hx => by have := hf.lo x hx; simp; omega), List.filter_eq_self.2 (fun x hx => by simpa using hf.hi x hx), List.nil_append]
      have hal := hf.len
      have := ropen_l3 l a i hl l.length 0 (a ++ [⟨(i : Int), who, ⟨h1, h2⟩⟩]) (by omega) (by omega) (by simp; omega)
      rw [List.drop_zero, hhi, List.append_assoc] at this
      rw [List.drop_zero, hlo, List.nil_append]
      exact this
  | succ m ih =>
    intro i h1' h2'
    have hyes : (l.any fun x => x.f0 == (i : Int)) = true := by
      obtain ⟨x, hx, hxi⟩ := hf.all i (by omega)
      rw [hf.eq, List.any_append, Bool.or_eq_true]
      exact .inl (List.any_eq_true.2 ⟨x, hx, by simpa using hxi⟩)
    refine Ev.step (fun k => by simp only [sextonref12_Open.l0]; rw [if_pos (by omega)]; rfl) (ropen_l1 l who i h1 h2 hl l.length 0 false (by omega) (by omega) ?_)
    rw [List.drop_zero, hyes]
    simp only [Bool.false_or, if_true, wr1 i (show i < 9223372036854775807 by omega)]
    exact ih (i + 1) (by omega) (by omega)
theorem ropen_f (l : List S36) (hl : l.length ≤ 9223372036854775806) (who h1 h2 : Int) : Ev (fun k => sextonref12_Open.f k l who h1 h2) (opn l who h1 h2) := by
  refine Ev.bind (rasked_f l who hl) ?_
  unfold opn
  by_cases c : ask l who = 0
  · simp only [if_pos c, to_eq, Option.bind_some]
    by_cases d : FitH h1 h2
    · rw [if_pos d, decide_eq_true d]
      simp only [if_true]
      have hchk := (ask_zero c).1
      have hlen := chk_len hchk
      obtain ⟨a, b, hf⟩ := free_of hchk
      obtain ⟨e1, e2⟩ := free_full hchk hf
      have := ropen_l0 who h1 h2 (by omega) hf e2 (lead 0 l) 0 (by omega) (by omega)
      have ht : l.take (lead 0 l) = a ∧ l.drop (lead 0 l) = b := by
        have hal := hf.len
        have heq := hf.eq
        generalize lead 0 l = q at *
        subst heq
        subst hal
        exact ⟨List.take_left, List.drop_left⟩
      rw [ht.1, ht.2]
      by_cases e : l.length = 16
      · rw [if_pos e]; rw [if_pos (e1.1 e)] at this; exact this
      · rw [if_neg e]; rw [if_neg (fun h => e (e1.2 h))] at this; exact this
    · rw [if_neg d, decide_eq_false d]; exact Ev.now _
  · simp only [if_neg c]; exact Ev.now _


end Go.Proofs.Ytkkcikbijdehkaa.POpens
