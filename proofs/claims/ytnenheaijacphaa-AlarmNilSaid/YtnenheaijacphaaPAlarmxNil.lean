/- AlarmNil's walk: it answers true, and nothing elder turns. -/
import Derived.Test.YtnenheaijacphaaThree
namespace Go.Proofs.Ytnenheaijacphaa.PAlarm
open Go Go.RowKit Go.Maps Go.Proofs.YtnenheaijacphaaW.PrintWords Go.Proofs.YtnenheaijacphaaW.PrintLast Go.Proofs.YtnenheaijacphaaW.PrintMore Go.Proofs.Ytnenheaijacphaa.Sl
set_option linter.unusedVariables false
set_option linter.unusedSimpArgs false

def Nset (n t r : Int) : Prop := ∀ w, Calls Try.prog 10 #[.pointer none, .int .i64 n, .int .i64 t] w fun e w' => e = .returned (.int .i64 r) ∧ w = w'
def Nstop (n r : Int) : Prop := ∀ w, Calls Try.prog 15 #[.pointer none, .int .i64 n] w fun e w' => e = .returned (.tuple #[.bool false, .int .i64 r]) ∧ w = w'
def Ndue (t r : Int) : Prop := ∀ w, Calls Try.prog 11 #[.pointer none, .int .i64 t] w fun e w' => e = .returned (.tuple #[.slice none 0 0, .int .i64 r]) ∧ Below w.heap.size w w'
theorem tri (n : Int) : (decide (n < 0) = true ∧ decide (0 ≤ n) = false ∧ big n = false) ∨ (decide (n < 0) = false ∧ decide (0 ≤ n) = true ∧ decide (1099511627776 < n) = true ∧ decide (n ≤ 1099511627776) = false ∧ big n = false) ∨ (decide (n < 0) = false ∧ decide (0 ≤ n) = true ∧ decide (1099511627776 < n) = false ∧ decide (n ≤ 1099511627776) = true ∧ big n = true) := by
  by_cases h1 : n < 0
  · exact .inl ⟨by simpa using h1, by simpa using h1, by unfold big; simp; omega⟩
  · by_cases h2 : 1099511627776 < n
    · exact .inr (.inl ⟨by simpa using h1, by simp; omega, by simpa using h2, by simp; omega, by unfold big; simp; omega⟩)
    · exact .inr (.inr ⟨by simpa using h1, by simp; omega, by simpa using h2, by simp; omega, by unfold big; simp; omega⟩)
theorem stop_no {n : Int} (h : big n = false) : Nstop n 1 := fun w => stop_arg none n w h
theorem stop_yes {n : Int} (h : big n = true) : Nstop n 0 := fun w => stop_nil n w h
theorem due_no {n : Int} (h : big n = false) : Ndue n 1 := fun w => due_arg none n w h
theorem due_yes {n : Int} (h : big n = true) : Ndue n 0 := fun w => due_nil n w h
theorem set_no1 {n t : Int} (h : big n = false) : Nset n t 1 := fun w => set_arg none n t w (by rw [h]; rfl)
theorem set_no2 {n t : Int} (h : big t = false) : Nset n t 1 := fun w => set_arg none n t w (by rw [h]; simp)
theorem set_yes {n t : Int} (h : big n = true) (k : big t = true) : Nset n t 5 := fun w => set_nil n t w h k
set_option maxHeartbeats 4000000 in
set_option maxRecDepth 100000 in
theorem alarmNil_calls (n t : Int) (w : World) : Calls Try.prog 7 #[.int .i64 n, .int .i64 t] w fun e w' => e = .returned (.bool true) ∧ Below w.heap.size w w' := by
  rcases tri n with ⟨a1, a2, hn⟩ | ⟨a1, a2, a3, a4, hn⟩ | ⟨a1, a2, a3, a4, hn⟩ <;> rcases tri t with ⟨b1, b2, ht⟩ | ⟨b1, b2, b3, b4, ht⟩ | ⟨b1, b2, b3, b4, ht⟩
  all_goals first | have HS := Aside0.mk (set_no1 (t := t) hn) | have HS := Aside0.mk (set_no2 (n := n) ht) | have HS := Aside0.mk (set_yes hn ht)
  all_goals first | have HT := Aside0.mk (stop_no hn) | have HT := Aside0.mk (stop_yes hn)
  all_goals first | have HD := Aside0.mk (due_no ht) | have HD := Aside0.mk (due_yes ht)
  all_goals clear hn ht
  all_goals go_enter Try.func7, Try.ntmps7
  all_goals go_wp2_with (first | (go_at_call 10; refine (HS.out _).mono ?_; rintro e w' ⟨rfl, rfl⟩) | (go_at_call 15; refine (HT.out _).mono ?_; rintro e w' ⟨rfl, rfl⟩) | (go_at_call 11; refine (HD.out _).mono ?_; rintro e w1 ⟨rfl, hb⟩; have H1 := Aside0.mk hb; clear hb) | (go_at_call 19; refine (next_nil _).mono ?_; rintro e w2 ⟨rfl, hb⟩; have H2 := Aside0.mk (H1.out.trans (hb.mono H1.out.size)); clear hb H1) | (go_at_call 14; refine (at_nil _ _).mono ?_; rintro e w' ⟨rfl, rfl⟩) | (go_at_call 13; refine (len_nil _).mono ?_; rintro e w' ⟨rfl, rfl⟩) | (go_at_call 8; refine (three_calls _).mono ?_; rintro e w3 ⟨rfl, hb⟩; have H3 := Aside0.mk (H2.out.trans (hb.mono H2.out.size)); clear hb))
  all_goals (go_ret; exact ⟨rfl, H3.out⟩)
def sextonlaw03_AlarmNil.f (a0 a1 : Int) : Option Bool := some true
theorem sextonlaw03_AlarmNil.calls (a0 : Int) (a1 : Int) (r : Bool) (w : World) (h : sextonlaw03_AlarmNil.f a0 a1 = some r) :
    Calls Try.prog 7 #[.int .i64 a0, .int .i64 a1] w fun e w' => e = .returned (.bool r) ∧ Below w.heap.size w w' := by
  obtain rfl := Option.some.inj h
  exact alarmNil_calls a0 a1 w
end Go.Proofs.Ytnenheaijacphaa.PAlarm
