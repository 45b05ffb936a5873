/- The pure law of sexton/sextonlaw16.SeatOnce: for every input the function that the code computes answers true. No program stands here. -/
import Derived.Test.YtcclannanigecaaPSeatx13
import Derived.Test.YtcclannanigecaaOpenSeat
import Derived.Test.YtcclannanigecaaOpsOne
namespace Go.Proofs.Ytcclannanigecaa.PSeat
open Go Go.RowKit Go.Proofs.YtcclannanigecaaW.PrintWords Go.Proofs.YtcclannanigecaaW.PrintLast Go.Proofs.YtcclannanigecaaW.PrintMore
set_option linter.unusedVariables false

def st (p : S24) : S46 := ⟨p.f0, p.f1, p.f2⟩
/-- What is put, and the seats: the same, in another order. -/
structure Rel (l : List S46) (ps : List S24) : Prop where
  ok : ok l = true
  perm : (ps.map st).Perm l
theorem find_mem : ∀ {l : List S46} {p : Int}, chk p l = true → ∀ x ∈ l, l.find? (key x.f0) = some x
  | y :: l, p, h, x, hx => by
    obtain ⟨h1, h2, h3⟩ := chk_spec h
    rcases List.mem_cons.1 hx with rfl | hx
    · rw [List.find?_cons, show key x.f0 x = true by simp [key]]
    · have := (chk_fit h3 x hx).2
      rw [List.find?_cons, show key x.f0 y = false by simp [key]; omega]
      exact find_mem h3 x hx
theorem once_l3 {l : List S46} {ps : List S24} (hrel : Rel l ps) (asks : List S24) (i : Nat) {R : Bool} (hR : Ev (fun k => sextonlaw16_SeatOnce.l0 k l ps asks asks.length (wrap64 ((i : Int) + 1))) R) (n : Nat) : ∀ j : Nat, j ≤ ps.length → ps.length - j = n → Ev (fun k => sextonlaw16_SeatOnce.l3 k l ps asks asks.length i ps ps.length j) R := by
  have hlen := hrel.perm.length_eq
  rw [List.length_map] at hlen
  obtain ⟨hchk, hl6⟩ := ok_spec hrel.ok
  induction n with
  | zero =>
    intro j g1 g2
    exact Ev.step (fun k => by simp only [sextonlaw16_SeatOnce.l3]; rw [if_neg (by omega)]) hR
  | succ n ih =>
    intro j g1 g2
    have hlt : j < ps.length := by omega
    have hmem : st ps[j] ∈ l := hrel.perm.mem_iff.1 (List.mem_map.2 ⟨_, List.getElem_mem hlt, rfl⟩)
    have hf := find_mem hchk _ hmem
    have hfit := (chk_fit hchk _ hmem).1
    have ha : ask l (ps[j]).f0 (ps[j]).f1 = (2, (ps[j]).f2, 0) := by
      unfold ask
      have e2 : FitC (ps[j]).f0 ∧ FitR (ps[j]).f1 := ⟨hfit.1, hfit.2.1⟩
      have e3 : ¬ (ps[j]).f1 > (ps[j]).f1 := by omega
      have e4 : ¬ (ps[j]).f1 < (ps[j]).f1 := by omega
      have hf' : l.find? (key (ps[j]).f0) = some (st ps[j]) := hf
      rw [if_pos hrel.ok, if_pos e2, hf']
      show (if (ps[j]).f1 > (ps[j]).f1 then _ else if (ps[j]).f1 < (ps[j]).f1 then _ else _) = _
      rw [if_neg e3, if_neg e4]; rfl
    have hak := ask_f l (ps[j]).f0 (ps[j]).f1
    rw [ha] at hak
    have q2 : (j : Int) < (ps.length : Int) := by omega
    refine Ev.step (f := fun k => (seat_Ask.f k l (ps[j]).f0 (ps[j]).f1).bind fun bt201 => (if bt201.2.2 = 0 then (if bt201.1 = 2 then (if bt201.2.1.toList = ((ps[j]).f2).toList then (sextonlaw16_SeatOnce.l3 k l ps asks asks.length i ps ps.length (wrap64 ((j : Int) + 1))) else (some false)) else (some false)) else (some false))) (fun k => ?_) (Ev.bind hak ?_)
    · simp only [sextonlaw16_SeatOnce.l3, rd24 ps j hlt]
      rw [if_pos q2, if_pos (by omega), if_pos q2]
    · simp only [if_true]
      rw [wr1 j (by omega)]
      exact ih (j + 1) (by omega) (by omega)
theorem once_l2 {l : List S46} (ps asks : List S24) (hps : ps.length ≤ 1000000) (i : Nat) (a : S24) {R : Bool} (n : Nat) : ∀ (j : Nat) (out : List S24), j ≤ ps.length → ps.length - j = n → out.length ≤ j → out ++ (ps.drop j).filter (fun p => !(p.f0 == a.f0)) = ps.filter (fun p => !(p.f0 == a.f0)) →
    l.length = (ps.filter (fun p => !(p.f0 == a.f0)) ++ [a]).length → l.length ≤ 6 → Ev (fun k => sextonlaw16_SeatOnce.l3 k l (ps.filter (fun p => !(p.f0 == a.f0)) ++ [a]) asks asks.length i (ps.filter (fun p => !(p.f0 == a.f0)) ++ [a]) ((ps.filter (fun p => !(p.f0 == a.f0)) ++ [a]).length : Int) 0) R →
    Ev (fun k => sextonlaw16_SeatOnce.l2 k l out asks asks.length i ps ps.length j a.f0 a.f1 a.f2) R := by
  induction n with
  | zero =>
    intro j out g1 g2 g3 h hlen h6 hR
    rw [List.drop_eq_nil_of_le (by omega), List.filter_nil, List.append_nil] at h
    subst h
    have e1 : (l.length : Int) = ((ps.filter (fun p => !(p.f0 == a.f0)) ++ [a]).length : Int) := by rw [hlen]
    refine Ev.step (f := fun k => sextonlaw16_SeatOnce.j4 k l (ps.filter (fun p => !(p.f0 == a.f0)) ++ [a]) asks asks.length i false) (fun k => ?_) (Ev.step (fun k => by simp only [sextonlaw16_SeatOnce.j4]; rw [if_neg (by simp)]) hR)
    simp only [sextonlaw16_SeatOnce.l2]
    rw [if_neg (by omega), if_pos (by omega), Option.bind_some, if_pos e1, decide_eq_false (by omega)]
  | succ n ih =>
    intro j out g1 g2 g3 h hlen h6 hR
    have hlt : j < ps.length := by omega
    rw [List.drop_eq_getElem_cons hlt, List.filter_cons] at h
    by_cases d : (ps[j]).f0 = a.f0
    · rw [if_neg (by simp [d])] at h
      refine Ev.step (fun k => ?_) (ih (j + 1) out (by omega) (by omega) (by omega) h hlen h6 hR)
      simp only [sextonlaw16_SeatOnce.l2, rd24 ps j hlt]
      rw [if_pos (by omega), if_pos (by omega), if_pos (by omega), if_pos d, wr1 j (by omega)]
    · rw [if_pos (by simp [d])] at h
      refine Ev.step (fun k => ?_) (ih (j + 1) (out ++ [ps[j]]) (by omega) (by omega) (by simp; omega) (by rw [List.append_assoc]; exact h) hlen h6 hR)
      simp only [sextonlaw16_SeatOnce.l2, rd24 ps j hlt]
      rw [if_pos (by omega), if_pos (by omega), if_pos (by omega), if_neg d, if_pos (by omega), wr1 j (by omega)]
theorem once_l1 (l : List S46) (ps asks : List S24) (hps : ps.length ≤ 1000000) (i : Nat) (a : S24) (x : List S46) (e : Int) (hord : e = 0 → ∀ p ∈ ps, p.f0 = a.f0 → p.f1 < a.f1) (hfull : e = 412 → (∀ p ∈ ps, p.f0 ≠ a.f0) ∧ l.length = 6) (hbad : e ≠ 0 → x = []) {R : Bool}
    (hR : Ev (fun k => sextonlaw16_SeatOnce.j2 k l ps x e asks asks.length i false a.f0 a.f1 a.f2) R) (n : Nat) : ∀ (j : Nat) (u : Bool), j ≤ ps.length → ps.length - j = n → (e = 412 → u = false) →
    Ev (fun k => sextonlaw16_SeatOnce.l1 k l ps x e u asks asks.length i ps ps.length j a.f0 a.f1 a.f2) R := by
  induction n with
  | zero =>
    intro j u g1 g2 hu
    refine Ev.step (fun k => ?_) hR
    simp only [sextonlaw16_SeatOnce.l1]
    rw [if_neg (by omega)]
    by_cases c : e = 412
    · have h0 : ¬ e = 0 := by omega
      rw [if_pos c, hu c, if_neg (by simp), if_pos (by have := (hfull c).2; omega), if_neg h0, hbad h0]
      rfl
    · rw [if_neg c]
      by_cases h0 : e = 0
      · rw [if_pos h0]
      · rw [if_neg h0, hbad h0]; rfl
  | succ n ih =>
    intro j u g1 g2 hu
    have hlt : j < ps.length := by omega
    have hm := List.getElem_mem hlt
    have hgo : ∀ u', (e = 412 → u' = false) → Ev (fun k => sextonlaw16_SeatOnce.l1 k l ps x e u' asks asks.length i ps ps.length (wrap64 ((j : Int) + 1)) a.f0 a.f1 a.f2) R := fun u' hu' => by
      rw [wr1 j (by omega)]; exact ih (j + 1) u' (by omega) (by omega) hu'
    have hnew : e = 412 → ((ps[j]).f0 == a.f0) = false := fun h => by have := (hfull h).1 _ hm; simpa using this
    cases u with
    | true =>
      refine Ev.step (fun k => ?_) (hgo true hu)
      simp only [sextonlaw16_SeatOnce.l1, rd24 ps j hlt]
      rw [if_pos (by omega), if_pos (by omega), if_pos (by omega), if_pos trivial]
      by_cases h0 : e = 0
      · rw [if_pos h0]
        by_cases d : (ps[j]).f0 = a.f0
        · rw [if_pos d, if_neg (by have := hord h0 _ hm d; omega)]
        · rw [if_neg d]
      · rw [if_neg h0]
    | false =>
      refine Ev.step (fun k => ?_) (hgo ((ps[j]).f0 == a.f0) hnew)
      simp only [sextonlaw16_SeatOnce.l1, rd24 ps j hlt]
      rw [if_pos (by omega), if_pos (by omega), if_pos (by omega), if_neg (by simp)]
      by_cases h0 : e = 0
      · rw [if_pos h0]
        by_cases d : (ps[j]).f0 = a.f0
        · rw [if_pos d, if_neg (by have := hord h0 _ hm d; omega)]
        · rw [if_neg d]
      · rw [if_neg h0]
theorem once_l0 (asks : List S24) (hasks : asks.length ≤ 1000000) (n : Nat) : ∀ (i : Nat) (l : List S46) (ps : List S24), i ≤ asks.length → asks.length - i = n → Rel l ps → Ev (fun k => sextonlaw16_SeatOnce.l0 k l ps asks asks.length i) true := by
  induction n with
  | zero =>
    intro i l ps g1 g2 hrel
    exact Ev.step (fun k => by simp only [sextonlaw16_SeatOnce.l0]; rw [if_neg (by omega)]) (Ev.bind one_f (Ev.now _))
  | succ n ih =>
    intro i l ps g1 g2 hrel
    have hlt : i < asks.length := by omega
    obtain ⟨hchk, hl6⟩ := ok_spec hrel.ok
    have hlen := hrel.perm.length_eq
    rw [List.length_map] at hlen
    obtain ⟨a, ha⟩ : ∃ a, a = asks[i] := ⟨_, rfl⟩
    have hi1 : i + 1 ≤ asks.length := by omega
    have hi2 : asks.length - (i + 1) = n := by omega
    have hi3 : i < 9223372036854775807 := by omega
    have hp6 : ps.length ≤ 1000000 := by omega
    have hmem : ∀ p ∈ ps, st p ∈ l := fun p hp => hrel.perm.mem_iff.1 (List.mem_map.2 ⟨p, hp, rfl⟩)
    refine Ev.step (f := fun k => (seat_Put.f k l a.f0 a.f1 a.f2).bind fun bt185 => (sextonlaw16_SeatOnce.l1 k l ps bt185.1 bt185.2 false asks asks.length i ps ps.length 0 a.f0 a.f1 a.f2)) (fun k => ?_) (Ev.bind (put_f l a.f0 a.f1 a.f2) ?_)
    · simp only [sextonlaw16_SeatOnce.l0, rd24 asks i hlt]
      rw [if_pos (by omega), if_pos (by omega), if_pos (by omega), ← ha]
    · refine once_l1 l ps asks (by omega) i a _ _ (fun h0 p hp hpa => ?_) (fun hf => ?_) (fun hb => put_bad hb) ?_ ps.length 0 false (by omega) (by omega) (fun _ => rfl)
      · obtain ⟨_, _, _, _, x, y, _, hlo, hhi, _, hw⟩ := put_ok h0
        have hm := hmem p hp
        rcases hw with ⟨z, hl, hz, hzr⟩ | ⟨hl, _⟩
        · have h1 := find_mem hchk _ hm
          have h2 := find_mem hchk z (by rw [hl]; simp)
          have e1 : (st p).f0 = z.f0 := by show p.f0 = z.f0; rw [hpa, hz]
          rw [e1, h2] at h1
          have h1 := Option.some.inj h1
          rw [h1] at hzr
          exact hzr
        · rw [hl] at hm
          rcases List.mem_append.1 hm with hm | hm
          · have := hlo _ hm; have e1 : (st p).f0 = p.f0 := rfl; omega
          · have := hhi _ hm; have e1 : (st p).f0 = p.f0 := rfl; omega
      · obtain ⟨_, hfn, h6⟩ := put_full hf
        refine ⟨fun p hp hpa => ?_, h6⟩
        have h1 := find_mem hchk _ (hmem p hp)
        have e1 : (st p).f0 = a.f0 := hpa
        rw [e1, hfn] at h1
        cases h1
      · by_cases h0 : (put l a.f0 a.f1 a.f2).2 = 0
        · obtain ⟨_, _, _, _, x, y, hx, hlo, hhi, hok2, hw⟩ := put_ok h0
          rw [hx]
          have hq : (ps.filter (fun p => !(p.f0 == a.f0))).map st = (ps.map st).filter (fun s => !(s.f0 == a.f0)) := by
            rw [List.filter_map]; rfl
          have hfl : l.filter (fun s => !(s.f0 == a.f0)) = x ++ y := by
            have ex : x.filter (fun s => !(s.f0 == a.f0)) = x := List.filter_eq_self.2 (fun s hs => by have := hlo s hs; simp; omega)
            have ey : y.filter (fun s => !(s.f0 == a.f0)) = y := List.filter_eq_self.2 (fun s hs => by have := hhi s hs; simp; omega)
            rcases hw with ⟨z, hl, hz, _⟩ | ⟨hl, _⟩
            · rw [hl, List.filter_append, List.filter_cons, if_neg (by simp [hz]), ex, ey]
            · rw [hl, List.filter_append, ex, ey]
          have hrel2 : Rel (x ++ ⟨a.f0, a.f1, a.f2⟩ :: y) (ps.filter (fun p => !(p.f0 == a.f0)) ++ [a]) := by
            refine ⟨hok2, ?_⟩
            rw [List.map_append, hq]
            have h1 : ((ps.map st).filter (fun s => !(s.f0 == a.f0))).Perm (x ++ y) := by rw [← hfl]; exact hrel.perm.filter _
            refine (h1.append_right _).trans ?_
            have h2 : ([a] : List S24).map st = [(⟨a.f0, a.f1, a.f2⟩ : S46)] := rfl
            rw [h2]
            have h3 : (x ++ y ++ [(⟨a.f0, a.f1, a.f2⟩ : S46)]).Perm ((⟨a.f0, a.f1, a.f2⟩ : S46) :: (x ++ y)) := List.perm_append_singleton _ _
            exact h3.trans List.perm_middle.symm
          have hlen2 := hrel2.perm.length_eq
          rw [List.length_map] at hlen2
          have h62 := (ok_spec hok2).2
          refine Ev.step (fun k => by simp only [sextonlaw16_SeatOnce.j2]; rw [if_neg (by simp), if_pos h0]; rfl) (once_l2 ps asks hp6 i a ps.length 0 [] (by omega) (by omega) (by simp) (by simp) hlen2.symm h62 ?_)
          refine once_l3 hrel2 asks i ?_ _ 0 (by omega) rfl
          rw [wr1 i hi3]
          exact ih (i + 1) _ _ hi1 hi2 hrel2
        · refine Ev.step (fun k => by simp only [sextonlaw16_SeatOnce.j2]; rw [if_neg (by simp), if_neg h0]) ?_
          rw [wr1 i (by omega)]
          exact ih (i + 1) l ps (by omega) (by omega) hrel
theorem SeatOnce_pure : ∀ (l0 : List (S24)), ((l0.length * 32 ≤ reachBytes ∧ ∀ x ∈ l0, b24 x)) → ∃ k, sextonlaw16_SeatOnce.f k l0 = some true := by
  intro l ⟨hl, _⟩
  refine Ev.rounds ?_
  unfold sextonlaw16_SeatOnce.f
  by_cases c : (l.length : Int) > 300
  · simp only [if_pos c]; exact Ev.bind one_f (Ev.now _)
  · simp only [if_neg c]
    exact once_l0 l (by omega) l.length 0 [] [] (by omega) (by omega) ⟨by decide, by simp⟩

end Go.Proofs.Ytcclannanigecaa.PSeat
