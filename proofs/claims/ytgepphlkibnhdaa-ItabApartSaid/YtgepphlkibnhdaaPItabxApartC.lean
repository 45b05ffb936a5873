/- ItabApart, for every table, handle and inode. -/
import Derived.Test.YtgepphlkibnhdaaPItabxApart
namespace Go.Proofs.Ytgepphlkibnhdaa.PItab
open Go Go.RowKit Go.Proofs.YtgepphlkibnhdaaW.PrintWords Go.Proofs.YtgepphlkibnhdaaW.PrintLast Go.Proofs.YtgepphlkibnhdaaW.PrintMore
set_option linter.unusedVariables false

def sextonlaw09_ItabApart.f (k : Nat) (l0 : List S30) (a b a0 a1 a2 a3 a4 : Int) (l5 : List S73) (l6 : List S75) (a7 : Int) : Option Bool :=
  (itab_Put.f k l0 a b a0 a1 a2 a3 a4 l5 l6 a7).bind fun p =>
    if p.2 = 0 then ((itab_Find.f k p.1 a b).bind fun q => (itab_Check.f k p.1).bind fun c =>
      if (eqL eq30 p.1 (l0.set a.toNat ⟨a0, ⟨a1, a2, a3, a4⟩, l5, l6, a7⟩) && eq30 ⟨q.1, ⟨q.2.1, q.2.2.1, q.2.2.2.1, q.2.2.2.2.1⟩, q.2.2.2.2.2.1, q.2.2.2.2.2.2.1, q.2.2.2.2.2.2.2.1⟩ ⟨a0, ⟨a1, a2, a3, a4⟩, l5, l6, a7⟩ && (q.2.2.2.2.2.2.2.2 == 0) && (c == 0) && p.1.all small && small ⟨a0, ⟨a1, a2, a3, a4⟩, l5, l6, a7⟩ && decide (p.1.length ≤ 24) && decide (0 ≤ a)) = true then sextonlaw09_again.f k else none)
    else if p.1.isEmpty = true then sextonlaw09_again.f k else none
theorem sextonlaw09_ItabApart.calls (k : Nat) (A0 : Option Addr) (c0 : Nat) (l0 : List S30) (a b a0 a1 a2 a3 a4 : Int) (A5 : Option Addr) (c5 : Nat) (l5 : List S73) (A6 : Option Addr) (c6 : Nat) (l6 : List S75) (a7 : Int) (w : World)
    (hr0 : Kd.C k30 w A0 l0.length l0) (hc0 : l0.length ≤ c0) (hr5 : Kd.C k73 w A5 l5.length l5) (hc5 : l5.length ≤ c5) (hr6 : Kd.C k75 w A6 l6.length l6) (hc6 : l6.length ≤ c6) (h : sextonlaw09_ItabApart.f k l0 a b a0 a1 a2 a3 a4 l5 l6 a7 = some true) :
    Calls Try.prog 8 #[.slice A0 l0.length c0, .agg #[.int .i64 a, .int .i64 b], .agg #[.int .i64 a0, .int .i64 a1, .int .i64 a2, .int .i64 a3, .int .i64 a4, .slice A5 l5.length c5, .slice A6 l6.length c6, .int .i64 a7]] w fun e w' => e = .returned (.bool true) ∧ Below w.heap.size w w' := by
  obtain ⟨⟨p, pe⟩, hp, g1⟩ := Option.bind_eq_some_iff.1 h
  clear h
  dsimp only at g1
  by_cases he : pe = 0
  · rw [if_pos he] at g1
    subst he
    obtain ⟨⟨q0, q1, q2, q3, q4, q5, q6, q7, q8⟩, hq, g2⟩ := Option.bind_eq_some_iff.1 g1
    obtain ⟨c, hck, g3⟩ := Option.bind_eq_some_iff.1 g2
    clear g1 g2
    dsimp only at g3
    split at g3
    · rename_i hc
      simp only [Bool.and_eq_true, beq_iff_eq, decide_eq_true_eq] at hc
      obtain ⟨⟨⟨⟨⟨⟨⟨e1, e2⟩, rfl⟩, rfl⟩, s1⟩, s2⟩, n1⟩, n2⟩ := hc
      have e1 := eqL_eq eq30_eq _ _ e1
      have e2 := eq30_eq _ _ e2
      simp only [S30.mk.injEq, S26.mk.injEq] at e2
      obtain ⟨rfl, ⟨rfl, rfl, rfl, rfl⟩, rfl, rfl, rfl⟩ := e2
      have sm : ∀ x ∈ p, x.f2.length ≤ 5900000000000 ∧ x.f3.length ≤ 5900000000000 := fun x hx => by simpa [small] using List.all_eq_true.1 s1 x hx
      refine apart_good k A0 c0 l0 a b ⟨q0, ⟨q1, q2, q3, q4⟩, q5, q6, q7⟩ A5 A6 c5 c6 p w hr0 hc0 hc5 hr5 hc6 hr6 hp hq hck g3 (by rw [e1]; simp) n1 sm (by simpa [small] using s2) (fun i h1 h2 hne => ?_)
      subst e1
      rw [List.getElem_set_ne (by omega)]
    · cases g3
  · rw [if_neg he] at g1
    split at g1
    · rename_i hz
      obtain rfl : p = [] := List.isEmpty_iff.1 hz
      exact apart_bad k A0 c0 l0 a b ⟨a0, ⟨a1, a2, a3, a4⟩, l5, l6, a7⟩ A5 A6 c5 c6 pe w hr0 hc0 hc5 hr5 hc6 hr6 hp (bne_iff_ne.2 he) g1
    · cases g1
end Go.Proofs.Ytgepphlkibnhdaa.PItab
