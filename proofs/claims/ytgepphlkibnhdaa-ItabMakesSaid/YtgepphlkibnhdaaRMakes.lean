/- What the reference's table is with an inode more, with one in a place. -/
import Derived.Test.YtgepphlkibnhdaaMakes
import Derived.Test.YtgepphlkibnhdaaRSpecs
import Derived.Test.YtgepphlkibnhdaaPItabx27
import Derived.Test.YtgepphlkibnhdaaPItabx28
namespace Go.Proofs.Ytgepphlkibnhdaa.PItab
open Go Go.RowKit Go.Proofs.YtgepphlkibnhdaaW.PrintWords Go.Proofs.YtgepphlkibnhdaaW.PrintLast Go.Proofs.YtgepphlkibnhdaaW.PrintMore
set_option linter.unusedVariables false
set_option linter.unusedSimpArgs false

def wth (l : List S30) (no : Int) (x : S30) : List S30 := if no = (l.length : Int) then l ++ [x] else l.set no.toNat x
theorem with_l0 (l : List S30) (hl : l.length ≤ 1000) (no : Int) (h0 : 0 ≤ no) (x : S30) (d : Nat) : ∀ i : Nat, i ≤ l.length → l.length - i = d →
    Ev (fun k => sextonref09_with.l0 k l no ((l.set no.toNat x).take i) l l.length i x.f0 x.f1.f0 x.f1.f1 x.f1.f2 x.f1.f3 x.f2 x.f3 x.f4) (wth l no x) := by
  induction d with
  | zero =>
    intro i h1 h2
    obtain rfl : i = l.length := by omega
    rw [List.take_of_length_le (by simp)]
    unfold wth
    by_cases c : no = (l.length : Int)
    · have e : l.set no.toNat x = l := by rw [List.set_eq_of_length_le (by omega)]
      rw [e, if_pos c]
      exact Ev.step (f := fun _ => some (l ++ [x])) (fun k => by simp only [sextonref09_with.l0]; rw [if_neg (by omega), if_pos c, if_pos (by omega)]) (Ev.now _)
    · rw [if_neg c]
      exact Ev.step (f := fun _ => some (l.set no.toNat x)) (fun k => by simp only [sextonref09_with.l0]; rw [if_neg (by omega), if_neg c]) (Ev.now _)
  | succ d ih =>
    intro i h1 h2
    have hlt : i < l.length := by omega
    have hlt' : i < (l.set no.toNat x).length := by simpa using hlt
    have ih' := ih (i + 1) (by omega) (by omega)
    rw [← List.take_append_getElem hlt'] at ih'
    have ht : ((l.set no.toNat x).take i).length < 1466015503701 := by rw [List.length_take]; omega
    by_cases c : (i : Int) = no
    · have e : (l.set no.toNat x)[i] = x := by
        have : no.toNat = i := by omega
        simp [List.getElem_set, this]
      rw [e] at ih'
      refine Ev.step (fun k => ?_) ih'
      simp only [sextonref09_with.l0]; rw [if_pos (by omega), if_pos (by omega), if_pos (by omega), if_pos c, if_pos ht, wr1 i (by omega)]
    · have e : (l.set no.toNat x)[i] = rd_T30 l i := by
        have : ¬ no.toNat = i := by omega
        rw [rd30 l i hlt]
        simp [List.getElem_set, this]
      rw [e] at ih'
      refine Ev.step (fun k => ?_) ih'
      simp only [sextonref09_with.l0]; rw [if_pos (by omega), if_pos (by omega), if_pos (by omega), if_neg c, if_pos ht, wr1 i (by omega)]
theorem with_ev {l : List S30} (hl : l.length ≤ 1000) {no : Int} (h0 : 0 ≤ no) (x : S30) : Ev (fun k => sextonref09_with.f k l no x.f0 x.f1.f0 x.f1.f1 x.f1.f2 x.f1.f3 x.f2 x.f3 x.f4) (wth l no x) := with_l0 l hl no h0 x l.length 0 (by omega) (by omega)
def stt (l : List S30) (j : Nat) : Int × Int := if fre l j = l.length then (-1, 1) else ((fre l j : Nat), (rd_T30 l (fre l j : Nat)).f0 + 1)
theorem rmake_l0 (l : List S30) (hk : okT l = true) (kind stamp : Int) : ∀ j : Nat, j ≤ l.length →
    Ev (fun k => sextonref09_Make.l0 k l kind stamp (stt l j).1 (stt l j).2 ((j : Int) - 1)) (if fre l 0 = l.length then (if l.length = 24 then ([], 0, 0, 407) else (l ++ [ino 1 kind stamp], (l.length : Int), 1, 0))
       else (l.set (fre l 0) (ino ((rd_T30 l (fre l 0 : Nat)).f0 + 1) kind stamp), ((fre l 0 : Nat) : Int), (rd_T30 l (fre l 0 : Nat)).f0 + 1, 0)) := by
  have hl := okT_len hk
  intro j
  induction j with
  | zero =>
    intro h1
    refine Ev.step (fun k => by simp only [sextonref09_Make.l0]; rw [if_neg (by omega)]) ?_
    by_cases c : fre l 0 = l.length
    · have e : stt l 0 = (-1, 1) := by rw [stt, if_pos c]
      rw [e, if_pos c]
      simp only [if_pos (show (-1 : Int) < 0 by decide)]
      by_cases c24 : l.length = 24
      · simp only [if_pos (show (l.length : Int) = 24 by omega), if_pos c24]; exact Ev.now _
      · simp only [if_neg (show ¬ (l.length : Int) = 24 by omega), if_neg c24]
        have hw := with_ev (l := l) (by omega) (no := l.length) (by omega) (ino 1 kind stamp)
        rw [show wth l l.length (ino 1 kind stamp) = l ++ [ino 1 kind stamp] from if_pos rfl] at hw
        exact Ev.bind hw (Ev.now _)
    · have e : stt l 0 = (((fre l 0 : Nat) : Int), (rd_T30 l (fre l 0 : Nat)).f0 + 1) := by rw [stt, if_neg c]
      have hf := fre_le l 0 (by omega)
      rw [e, if_neg c]
      simp only [if_neg (show ¬ ((fre l 0 : Nat) : Int) < 0 by omega)]
      have hw := with_ev (l := l) (by omega) (no := (fre l 0 : Nat)) (by omega) (ino ((rd_T30 l (fre l 0 : Nat)).f0 + 1) kind stamp)
      rw [show wth l (fre l 0 : Nat) (ino ((rd_T30 l (fre l 0 : Nat)).f0 + 1) kind stamp) = l.set (fre l 0) (ino ((rd_T30 l (fre l 0 : Nat)).f0 + 1) kind stamp) by rw [wth, if_neg (by omega), Int.toNat_natCast]] at hw
      exact Ev.bind hw (Ev.now _)
  | succ j ih =>
    intro h1
    have ih := ih (by omega)
    have hlt : j < l.length := by omega
    have hg := okI_gen (okT_all hk _ (List.getElem_mem hlt))
    have hr := rd30 l j hlt
    rw [← hr] at hg
    have w1 : (((j + 1 : Nat) : Int) - 1) = (j : Int) := by omega
    have w2 : wrap64 ((j : Int) - 1) = (j : Int) - 1 := wrap_id (by omega) (by omega)
    rw [w1]
    by_cases c1 : (rd_T30 l j).f1.f0 = 0
    · by_cases c2 : (rd_T30 l j).f0 < 1099511627776
      · have e : may l[j] = true := by rw [← hr]; simp [may, c1]; omega
        have es : stt l j = ((j : Int), (rd_T30 l j).f0 + 1) := by rw [stt, fre_yes hlt e, if_neg (by omega)]
        rw [es] at ih
        refine Ev.step (fun k => ?_) ih
        simp only [sextonref09_Make.l0]; rw [if_pos (by omega), if_pos (by omega), if_pos (by omega), if_pos c1, if_pos c2, wrap_id (a := (rd_T30 l j).f0 + 1) (by omega) (by omega), w2]
      · have e : may l[j] = false := by rw [← hr]; simp [may, c1]; omega
        have es : stt l j = stt l (j + 1) := by rw [stt, stt, fre_no hlt e]
        rw [es] at ih
        refine Ev.step (fun k => ?_) ih
        simp only [sextonref09_Make.l0]; rw [if_pos (by omega), if_pos (by omega), if_pos (by omega), if_pos c1, if_neg c2, w2]
    · have e : may l[j] = false := by rw [← hr]; simp [may, c1]
      have es : stt l j = stt l (j + 1) := by rw [stt, stt, fre_no hlt e]
      rw [es] at ih
      refine Ev.step (fun k => ?_) ih
      simp only [sextonref09_Make.l0]; rw [if_pos (by omega), if_pos (by omega), if_pos (by omega), if_neg c1, w2]
theorem rmake_ev {l : List S30} (hs : Sm l) (kind stamp : Int) : Ev (fun k => sextonref09_Make.f k l kind stamp) (mk l kind stamp) := by
  unfold sextonref09_Make.f
  refine Ev.bind (rtab_ev hs) ?_
  cases hk : okT l with
  | false =>
    have e : mk l kind stamp = ([], 0, 0, 4) := by simp [mk, hk]
    rw [e]; exact Ev.now _
  | true =>
    simp only [if_true]
    have hl := okT_len hk
    have bad : ¬ ((kind = 1 ∨ kind = 2) ∧ 0 ≤ stamp ∧ stamp ≤ 1099511627776) → Ev (fun k => sextonref09_Make.j0 k l kind stamp true) (mk l kind stamp) := fun hb => by
      have e : mk l kind stamp = ([], 0, 0, 1) := by rw [mk, if_pos hk, if_neg hb]
      rw [e]
      exact Ev.step (fun k => by simp only [sextonref09_Make.j0, if_true]) (Ev.now _)
    by_cases h1 : kind < 1
    · simp only [if_pos h1]; exact bad (by omega)
    · by_cases h2 : kind > 2
      · simp only [if_neg h1, if_pos h2]; exact bad (by omega)
      · by_cases h3 : stamp < 0
        · simp only [if_neg h1, if_neg h2, if_pos h3]; exact bad (by omega)
        · simp only [if_neg h1, if_neg h2, if_neg h3]
          by_cases h4 : stamp > 1099511627776
          · rw [decide_eq_true h4]; exact bad (by omega)
          · rw [decide_eq_false h4, mk_in l kind stamp hk ⟨by omega, by omega, by omega⟩]
            refine Ev.step (fun k => by simp only [sextonref09_Make.j0]; rw [if_neg (by decide)]) ?_
            have := rmake_l0 l hk kind stamp l.length (Nat.le_refl _)
            rw [show stt l l.length = (-1, 1) by rw [stt, fre_end, if_pos rfl]] at this
            rw [wrap_id (a := (l.length : Int) - 1) (by omega) (by omega)]
            exact this
end Go.Proofs.Ytgepphlkibnhdaa.PItab
