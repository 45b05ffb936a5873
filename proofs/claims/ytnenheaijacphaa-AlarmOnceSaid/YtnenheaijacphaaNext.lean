/- alarm.Next: the least moment. -/
import Derived.Test.YtnenheaijacphaaMethods
namespace Go.Proofs.Ytnenheaijacphaa.PAlarm
open Go Go.RowKit Go.Maps Go.Proofs.YtnenheaijacphaaW.PrintWords Go.Proofs.YtnenheaijacphaaW.PrintLast Go.Proofs.YtnenheaijacphaaW.PrintMore Go.Proofs.Ytnenheaijacphaa.Sl
attribute [local go_sem] max2_int min2_int max_two min_two
set_option linter.unusedVariables false
set_option linter.unusedSimpArgs false

theorem next_nil (w : World) : Calls Try.prog 19 #[.pointer none] w fun e w' => e = .returned (.tuple #[.int .i64 0, .bool false]) ∧ Below w.heap.size w w' := by
  go_enter Try.func19, Try.ntmps19
  go_wp2_with (go_at_call 13; refine (len_nil _).mono ?_; rintro e w' ⟨rfl, rfl⟩)
  go_ret2
  exact ⟨rfl, Below.refl _ _⟩
theorem next_none (B p b : Nat) (w : World) (H : Cl w B p b []) : Calls Try.prog 19 #[.pointer (some ⟨p, 0, none⟩)] w fun e w' => e = .returned (.tuple #[.int .i64 0, .bool false]) ∧ Below w.heap.size w w' := by
  have HN := Aside0.mk H
  clear H
  go_enter Try.func19, Try.ntmps19
  go_wp2_with (go_at_call 13; refine (len_calls B p b [] _ HN.out).mono ?_; rintro e w' ⟨rfl, rfl⟩)
  go_ret2
  exact ⟨rfl, Below.refl _ _⟩
/-- What the loop knows: m is a moment of the alarms that have come, or the greatest; none that has come is ahead of it. -/
def Least (L : List S53) (left : Lit → Bool) (m : Int) : Prop :=
  (∀ x c, at_ L x = some c → left (.int .i64 x) = false → m ≤ c) ∧ (m = 1099511627776 ∨ ∃ x, at_ L x = some m) ∧ m ≤ 1099511627776 ∧ 0 ≤ m
theorem Least.start {L : List S53} {D : DU} (h : Same D L) : Least L (Maps.has D) 1099511627776 :=
  ⟨fun x c e hl => (by rw [h.has, e] at hl; cases hl), .inl rfl, Int.le_refl _, by omega⟩
theorem Least.step {L : List S53} {left : Lit → Bool} {m x c : Int} (hk : Ok L) (h : Least L left m) (e : at_ L x = some c) : Least L (fun z => left z && !z.sameKey (.int .i64 x)) (if c < m then c else m) := by
  obtain ⟨h1, h2, h3, h4⟩ := h
  have hr := at_rng hk e
  refine ⟨fun y d ey hl => ?_, ?_, by split <;> omega, by split <;> omega⟩
  · by_cases exy : y = x
    · subst exy
      rw [e] at ey
      obtain rfl := Option.some.inj ey
      split <;> omega
    · have : left (.int .i64 y) = false := by
        have hl : (left (.int .i64 y) && !(Lit.int .i64 y).sameKey (.int .i64 x)) = false := hl
        rw [sameKey_ne (lit_ne exy)] at hl
        simpa using hl
      have := h1 y d ey this
      split <;> omega
  · split
    · exact .inr ⟨x, e⟩
    · exact h2
theorem Least.end_ {L : List S53} {left : Lit → Bool} {m : Int} (hk : Ok L) (hne : L ≠ []) (h : Least L left m) (hl : ∀ kl, left kl = false) : m = nxt L := by
  obtain ⟨h1, h2, h3, h4⟩ := h
  obtain ⟨x, hx⟩ := nxt_at hk hne
  have a := h1 x _ hx (hl _)
  rcases h2 with rfl | ⟨y, hy⟩
  · have := (at_rng hk hx).2; omega
  · have := nxt_le hk hy; omega
set_option maxHeartbeats 2000000 in
set_option maxRecDepth 100000 in
theorem next_some (B p b : Nat) (L : List S53) (w : World) (H : Cl w B p b L) (hne : L ≠ []) : Calls Try.prog 19 #[.pointer (some ⟨p, 0, none⟩)] w fun e w' => e = .returned (.tuple #[.int .i64 (nxt L), .bool true]) ∧ Below w.heap.size w w' := by
  have hl0 : ((L.length : Int) == 0) = false := by
    cases L with
    | nil => exact absurd rfl hne
    | cons a l => simp; omega
  have c0 := H.cell
  obtain ⟨hp, hb⟩ := H.lt
  obtain ⟨ho, D, hown, hs⟩ := H.2.2.2
  have hst := Least.start hs
  have HN := Aside0.mk (And.intro H (And.intro ho (And.intro hs (And.intro hst (And.intro hne (And.intro hp hb))))))
  have HO := Aside0.mk hown
  clear H ho hown hs hst hne hp hb
  go_enter Try.func19, Try.ntmps19
  go_wp2_with (first | (go_at_call 13; refine (len_calls B p b L _ HN.out.1).mono ?_; rintro e w' ⟨rfl, rfl⟩) | (at_range; refine wpList_range_own _ rfl _ 58 rfl 3 3 law3 Try.underlying58 _ b _ _ rfl HO.out ?_; intro w0 hrg0 hg0 hs0; have HR := Aside0.mk (And.intro hrg0 hg0); clear hrg0 hg0 hs0))
  go_frame
  go_loopw [4] (fun mv wr => ∃ (m : Int) (left : Lit → Bool) (cnt : Nat), mv = .int .i64 m ∧ Aside0 (wr.ranges Try.prog 3 (plainElem Try.prog 3) b w.heap.size (Maps.size D) D left cnt) ∧ Aside0 (Least L left m) ∧ Aside0 (Below w.heap.size w wr))
    (fun _ wr => wr.rangeLeft b w.heap.size)
  case atStart => exact ⟨_, _, _, rfl, ⟨HR.out.1⟩, ⟨HN.out.2.2.2.1⟩, ⟨⟨HR.out.2.os, HR.out.2.tape, HR.out.2.output, HR.out.2.size, fun k hk => HR.out.2.block k hk (by simp)⟩⟩⟩
  case round =>
    obtain ⟨m, left, cnt, rfl, hrg, hle, hB⟩ := hrel
    go_wp2_with (at_next; refine wpList_next_ranges_ii _ rfl _ rfl 3 3 .i64 .i64 law3 Try.underlying3 Try.underlying3 b w.heap.size _ _ _ _ rfl hrg.out ?_ ?_)
    · intro _ hl0
      obtain rfl := Least.end_ HN.out.2.1 HN.out.2.2.2.2.1 hle.out hl0
      have HL := Aside0.mk hl0
      clear hl0
      go_wp2
      go_ret2
      exact ⟨rfl, hB.out⟩
    · intro x c w1 cnt1 hwx hwc hlx hat hrg1 hlt hg1 hs1 hen
      have he : at_ L x = some c := by
        have h2 := HN.out.2.2.1.has x
        rw [has_true_of_atKey hat] at h2
        cases h3 : at_ L x with
        | none => rw [h3] at h2; cases h2
        | some d =>
          have h4 := HN.out.2.2.1.key x d .nil h3
          rw [hat] at h4
          cases h4
          rfl
      have hle1 := hle.out.step HN.out.2.1 he
      have hr := at_rng HN.out.2.1 he
      have hcnt : wr.rangeLeft b w.heap.size = cnt := hrg.out.left_eq
      have HS := Aside0.mk (And.intro hrg1 (And.intro hlt (And.intro hle1 (And.intro (pw_below_grown hB.out _ hB.out.size hg1 (fun k e => by injection e with e; omega)) hcnt))))
      clear hrg1 hlt hle1 hg1 hs1 hlx hat he hr hcnt
      go_wp2
      refine ⟨⟨_, _, _, rfl, ⟨HS.out.1⟩, ⟨?_⟩, ⟨HS.out.2.2.2.1⟩⟩, ?_⟩
      · exact HS.out.2.2.1
      · rw [HS.out.1.left_eq, HS.out.2.2.2.2]; exact HS.out.2.1
theorem next_calls (B p b : Nat) (L : List S53) (w : World) (H : Cl w B p b L) : Calls Try.prog 19 #[.pointer (some ⟨p, 0, none⟩)] w fun e w' => e = .returned (.tuple #[.int .i64 (nxt L), .bool (!L.isEmpty)]) ∧ Below w.heap.size w w' := by
  cases L with
  | nil => exact next_none B p b w H
  | cons a l => exact next_some B p b (a :: l) w H (by simp)
end Go.Proofs.Ytnenheaijacphaa.PAlarm
