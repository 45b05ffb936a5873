/- alarm.Due: the numbers that are due, in order; behind it the others are left. -/
import Derived.Test.YtnenheaijacphaaSorts
import Derived.Test.YtnenheaijacphaaNext
namespace Go.Proofs.Ytnenheaijacphaa.PAlarm
open Go Go.RowKit Go.Maps Go.Proofs.YtnenheaijacphaaW.PrintWords Go.Proofs.YtnenheaijacphaaW.PrintLast Go.Proofs.YtnenheaijacphaaW.PrintMore Go.Proofs.Ytnenheaijacphaa.Sl
set_option linter.unusedVariables false
set_option linter.unusedSimpArgs false

theorem due_arg (p : Option Addr) (t : Int) (w : World) (h : big t = false) : Calls Try.prog 11 #[.pointer p, .int .i64 t] w fun e w' => e = .returned (.tuple #[.slice none 0 0, .int .i64 1]) ∧ Below w.heap.size w w' := by
  have HN := Aside0.mk h
  clear h
  go_enter Try.func11, Try.ntmps11
  go_wp2_with (go_at_call 21; refine (big_calls _ _).mono ?_; rintro e w' ⟨rfl, rfl⟩; rw [HN.out])
  go_ret2
  exact ⟨rfl, (Below.refl _ w).alloc (Nat.le_refl _) _⟩
theorem due_nil (t : Int) (w : World) (h : big t = true) : Calls Try.prog 11 #[.pointer none, .int .i64 t] w fun e w' => e = .returned (.tuple #[.slice none 0 0, .int .i64 0]) ∧ Below w.heap.size w w' := by
  have HN := Aside0.mk h
  clear h
  go_enter Try.func11, Try.ntmps11
  go_wp2_with (go_at_call 21; refine (big_calls _ _).mono ?_; rintro e w' ⟨rfl, rfl⟩; rw [HN.out])
  go_ret2
  exact ⟨rfl, (Below.refl _ w).alloc (Nat.le_refl _) _⟩
/-- What the first loop has: the numbers of those that have come and are due. -/
def Got (L : List S53) (t : Int) (left : Lit → Bool) (xs : List Int) : Prop := xs.Nodup ∧ ∀ x, x ∈ xs ↔ ∃ c, at_ L x = some c ∧ c ≤ t ∧ left (.int .i64 x) = false
theorem Got.start {L : List S53} {D : DU} (h : Same D L) (t : Int) : Got L t (Maps.has D) [] :=
  ⟨List.nodup_nil, fun x => ⟨fun h => (by cases h), fun ⟨c, e, _, hl⟩ => (by rw [h.has, e] at hl; cases hl)⟩⟩
theorem left_step {left : Lit → Bool} {x y : Int} : (fun z : Lit => left z && !z.sameKey (.int .i64 x)) (.int .i64 y) = (left (.int .i64 y) && decide (y ≠ x)) := by
  show (left (.int .i64 y) && !(Lit.int .i64 y).sameKey (.int .i64 x)) = _
  by_cases e : y = x
  · subst e; rw [WideAt.sameKey_self (show WideAt.IsKeyLit (.int .i64 y) from trivial)]; simp
  · rw [sameKey_ne (lit_ne e)]; simp [e]
theorem Got.take {L : List S53} {t : Int} {left : Lit → Bool} {xs : List Int} {x c : Int} (h : Got L t left xs) (e : at_ L x = some c) (hl : left (.int .i64 x) = true) (hc : c ≤ t) : Got L t (fun z => left z && !z.sameKey (.int .i64 x)) (xs ++ [x]) := by
  obtain ⟨h1, h2⟩ := h
  have hx : x ∉ xs := fun hm => by obtain ⟨_, _, _, h3⟩ := (h2 x).1 hm; rw [hl] at h3; cases h3
  refine ⟨?_, fun y => ?_⟩
  · rw [List.nodup_append]; exact ⟨h1, by simp, fun a ha b hb => by simp at hb; subst hb; exact fun e => hx (e ▸ ha)⟩
  · rw [List.mem_append, h2, left_step]
    constructor
    · rintro (⟨d, e1, e2, e3⟩ | hy)
      · exact ⟨d, e1, e2, by rw [e3]; rfl⟩
      · simp at hy; subst hy; exact ⟨c, e, hc, by simp⟩
    · rintro ⟨d, e1, e2, e3⟩
      by_cases eyx : y = x
      · exact .inr (by simp [eyx])
      · exact .inl ⟨d, e1, e2, by simpa [eyx] using e3⟩
theorem Got.pass {L : List S53} {t : Int} {left : Lit → Bool} {xs : List Int} {x c : Int} (h : Got L t left xs) (e : at_ L x = some c) (hc : ¬ c ≤ t) : Got L t (fun z => left z && !z.sameKey (.int .i64 x)) xs := by
  obtain ⟨h1, h2⟩ := h
  refine ⟨h1, fun y => ?_⟩
  rw [h2, left_step]
  constructor
  · rintro ⟨d, e1, e2, e3⟩; exact ⟨d, e1, e2, by rw [e3]; rfl⟩
  · rintro ⟨d, e1, e2, e3⟩
    have eyx : y ≠ x := fun e' => by subst e'; rw [e] at e1; cases e1; exact hc e2
    exact ⟨d, e1, e2, by simpa [eyx] using e3⟩
theorem Got.end_ {L : List S53} {t : Int} {left : Lit → Bool} {xs : List Int} (hk : Ok L) (h : Got L t left xs) (hl : ∀ kl, left kl = false) : xs.Perm (dueL L t) := by
  refine (List.perm_ext_iff_of_nodup h.1 (due_nodup hk t)).2 fun x => ?_
  rw [h.2, mem_due hk]
  exact ⟨fun ⟨c, a, b, _⟩ => ⟨c, a, b⟩, fun ⟨c, a, b⟩ => ⟨c, a, b, hl _⟩⟩
theorem range_at {L : List S53} {D : DU} (hs : Same D L) {x c : Int} (hat : ∀ zd, D.atKey (.int .i64 x) zd = .lit (.int .i64 c)) : at_ L x = some c := by
  have h2 := hs.has x
  rw [has_true_of_atKey hat] at h2
  cases h3 : at_ L x with
  | none => rw [h3] at h2; cases h2
  | some d =>
    have h4 := hs.key x d .nil h3
    rw [hat] at h4
    cases h4
    rfl
/-- The alarms that are left when the first k of the numbers have been struck. -/
def strike (L : List S53) (xs : List Int) : List S53 := xs.foldl drp L
theorem strike_snoc (L : List S53) (xs : List Int) (x : Int) : strike L (xs ++ [x]) = drp (strike L xs) x := by simp [strike]
theorem mem_strike {a : S53} : ∀ (xs : List Int) (L : List S53), a ∈ strike L xs ↔ a ∈ L ∧ a.f0 ∉ xs
  | [], L => by simp [strike]
  | x :: r, L => by
    show a ∈ strike (drp L x) r ↔ _
    rw [mem_strike r (drp L x)]
    unfold drp
    rw [List.mem_filter]
    simp only [List.mem_cons, not_or]
    constructor
    · rintro ⟨⟨h1, h2⟩, h3⟩; exact ⟨h1, by simpa using h2, h3⟩
    · rintro ⟨h1, h2, h3⟩; exact ⟨⟨h1, by simpa using h2⟩, h3⟩
theorem strike_filter : ∀ (xs : List Int) (L : List S53), strike L xs = L.filter (fun a => decide (a.f0 ∉ xs))
  | [], L => by simp [strike]; exact (List.filter_eq_self.2 (fun _ _ => rfl)).symm
  | x :: r, L => by
    show strike (drp L x) r = _
    rw [strike_filter r (drp L x)]
    unfold drp
    rw [List.filter_filter]
    congr 1
    funext a
    by_cases h1 : a.f0 = x <;> by_cases h2 : a.f0 ∈ r <;> simp [h1, h2]
theorem strike_due {L : List S53} (hk : Ok L) (t : Int) : strike L (dueL L t) = rest L t := by
  rw [strike_filter]
  unfold rest
  refine List.filter_congr fun a ha => ?_
  have e : at_ L a.f0 = some a.f1 := (at_iff hk.one _ _).2 ha
  by_cases h : a.f1 ≤ t
  · have h1 : a.f0 ∈ dueL L t := (mem_due hk).2 ⟨_, e, h⟩
    simp [h1]; omega
  · have h1 : a.f0 ∉ dueL L t := fun hm => by obtain ⟨c, e1, e2⟩ := (mem_due hk).1 hm; rw [e] at e1; cases e1; exact h e2
    simp [h1]; omega
theorem kp_base {w W : World} {base : Nat} (h : Below base w W) : Kp (fun k => base ≤ k) w W := ⟨h.os, h.tape, h.output, h.size, fun k hk hn => h.block k (by omega)⟩
theorem R_kpb {α : Type} {d : Kd α} {e : Nat} {S : Nat → Prop} {w W : World} {base : Nat} {ok : Nat → Prop} {v : Value} {l : List α} (h : Kd.R d e w base ok v l) (k : Kp S w W) (hn : ∀ b, base ≤ b → ¬ S b) : Kd.R d e W base ok v l :=
  Kd.R_mono (R_kp (Kd.R_bound h) k (fun b hb => hn b hb.2.1)) (fun k hk => hk.1)
theorem int_at {w : World} {base : Nat} {xs : List Int} {A : Option Addr} {n c : Nat} (h : Kd.R (Kd.int .i64) 3 w base (fun _ => True) (.slice A n c) xs) (k : Nat) (hk : k < xs.length) : ∃ ad, A = some ad ∧ w.cell? (ad.add k) = some (.int .i64 xs[k]) := by
  obtain ⟨hn, _, hC⟩ := Kd.R_reads' h
  obtain ⟨ad, c', e, _, hK, hc⟩ := Kd.C_get hC (0 : Int) (k : Int) (by omega) (by omega)
  refine ⟨ad, e, ?_⟩
  have hK : c' = [.int .i64 (xs.getD (k : Int).toNat 0)] := hK
  have := hc 0 (.int .i64 (xs.getD (k : Int).toNat 0)) (by rw [hK]; rfl)
  have hs : (Kd.int .i64).sz = 1 := rfl
  rw [hs] at this
  simpa [List.getD_eq_getElem?_getD, List.getElem?_eq_getElem hk] using this
set_option maxHeartbeats 4000000 in
set_option maxRecDepth 100000 in
theorem due_ok (B p b : Nat) (L : List S53) (t : Int) (w : World) (H : Cl w B p b L) (ht : big t = true) : Calls Try.prog 11 #[.pointer (some ⟨p, 0, none⟩), .int .i64 t] w fun e w' =>
    ∃ v, e = .returned (.tuple #[v, .int .i64 0]) ∧ Kd.R (Kd.int .i64) 3 w' w.heap.size (fun _ => True) v (dueL L t) ∧ Cl w' B p b (rest L t) ∧ Kp (fun k => k = b) w w' := by
  obtain ⟨hp, hb⟩ := H.lt
  obtain ⟨W0, hW0⟩ : ∃ W0, W0 = w.alloc (.cells #[.pointer (some ⟨p, 0, none⟩)] 24) := ⟨_, rfl⟩
  have hB0 : Below w.heap.size w W0 := by rw [hW0]; exact (Below.refl _ w).alloc (Nat.le_refl _) _
  have hz0 : W0.heap.size = w.heap.size + 1 := by rw [hW0]; simp
  have hg0 : W0.heap[w.heap.size]? = some (.cells #[.pointer (some ⟨p, 0, none⟩)] 24 (0, 0)) := by rw [hW0]; exact Array.getElem?_push_size
  have H0 := H.below hB0
  have c0 := H0.cell
  obtain ⟨ho, D, hown, hs⟩ := H0.2.2.2
  have hsz : Maps.size D ≤ 256 := by rw [hs.size]; exact ho.len
  have HN := Aside0.mk (And.intro H (And.intro ht (And.intro ho (And.intro hs (And.intro hp (And.intro hb (And.intro hB0 (And.intro hg0 (And.intro hz0 hsz)))))))))
  rw [hW0] at hown c0
  have HO := Aside0.mk hown
  have HW := Aside0.mk hW0
  clear H ht ho hown hs hp hb hB0 hg0 hz0 H0 hW0 hsz
  have tok : Aside0 True := ⟨trivial⟩
  go_enter Try.func11, Try.ntmps11
  go_wp2_with (first | (go_at_call 21; refine (big_calls _ _).mono ?_; rintro e w' ⟨rfl, rfl⟩; rw [HN.out.2.1]) | (at_range; refine wpList_range_own _ rfl _ 58 rfl 3 3 law3 Try.underlying58 _ b _ _ rfl HO.out ?_; intro w0 hrg0 hg0 hs0; have HR := Aside0.mk (And.intro hrg0 (And.intro hg0 hs0)); clear hrg0 hg0 hs0))
  go_frame
  have e1 : (w.alloc (.cells #[.pointer (some ⟨p, 0, none⟩)] 24)).heap.size = w.heap.size + 1 := by simp
  rw [e1] at HR
  rw [e1]
  have HR' : Aside0 (w0.ranges Try.prog 3 (plainElem Try.prog 3) b (w.heap.size + 1) (Maps.size D) D (Maps.has D) (Maps.size D) ∧ Below w.heap.size w w0 ∧ w0.heap[w.heap.size]? = some (.cells #[.pointer (some ⟨p, 0, none⟩)] 24 (0, 0)) ∧ w0.heap.size = w.heap.size + 2) := by
    obtain ⟨r1, r2, r3⟩ := HR.out
    rw [← HW.out] at r2
    have hz := HN.out.2.2.2.2.2.2.2.2.1
    have hlow : ∀ k, k < W0.heap.size → w0.heap[k]? = W0.heap[k]? := fun k hk => r2.block k hk (by simp)
    have hB := HN.out.2.2.2.2.2.2.1
    exact ⟨⟨r1, ⟨r2.os.trans hB.os, r2.tape.trans hB.tape, r2.output.trans hB.output, by omega, fun k hk => (hlow k (by omega)).trans (hB.block k hk)⟩, (hlow _ (by omega)).trans HN.out.2.2.2.2.2.2.2.1, by omega⟩⟩
  clear HR e1
  go_loopw [6] (fun ov wr => ∃ (xs : List Int) (left : Lit → Bool) (cnt : Nat), Aside0 (Kd.R (Kd.int .i64) 3 wr (w.heap.size + 2) (fun _ => True) ov xs ∧ wr.ranges Try.prog 3 (plainElem Try.prog 3) b (w.heap.size + 1) (Maps.size D) D left cnt ∧ Got L t left xs ∧ xs.length + cnt ≤ 256) ∧ Aside0 (Below w.heap.size w wr ∧ wr.heap[w.heap.size]? = some (.cells #[.pointer (some ⟨p, 0, none⟩)] 24 (0, 0)) ∧ w.heap.size + 2 ≤ wr.heap.size))
    (fun _ wr => wr.rangeLeft b (w.heap.size + 1))
  case atStart => exact ⟨[], _, _, ⟨Kd.R_nil _ _ _ _ _, HR'.out.1, Got.start HN.out.2.2.2.1 t, by have := HN.out.2.2.2.2.2.2.2.2.2; simp; omega⟩, ⟨HR'.out.2.1, HR'.out.2.2.1, by have := HR'.out.2.2.2; omega⟩⟩
  case round =>
    obtain ⟨xs, left, cnt, hI, hB⟩ := hrel
    go_wp2_with (at_next; refine wpList_next_ranges_ii _ rfl _ rfl 3 3 .i64 .i64 law3 Try.underlying3 Try.underlying3 b (w.heap.size + 1) _ _ _ _ rfl hI.out.2.1 ?_ ?_)
    · intro _ hl0
      have hperm := Got.end_ HN.out.2.2.1 hI.out.2.2.1 hl0
      have hsrt := sortFunc_calls B p b w.heap.size (w.heap.size + 2) t L u6 xs wr (HN.out.1.below hB.out.1) hB.out.2.1 (by have := HN.out.2.2.2.2.1; omega) (by have := HN.out.2.2.2.2.2.1; omega) (by omega) hB.out.2.2 hI.out.1 hperm
      have HS := Aside0.mk hsrt
      have hdl : (dueL L t).length ≤ 256 := Nat.le_trans (due_len L t) HN.out.2.2.1.len
      have hml : ((dueL L t).length : Int) ≤ 256 := by omega
      have HD := Aside0.mk hdl
      clear hperm hl0 hsrt hdl
      go_wp2_with (go_at_call 22; refine HS.out.mono ?_; rintro e w2 ⟨rfl, hR2, hB2⟩; obtain ⟨A2, c2, rfl⟩ := Kd.R_slice hR2; have HR2 := Aside0.mk (And.intro hR2 hB2); clear hR2 hB2)
      go_loopw [38] (fun i wr2 => ∃ k : Nat, k ≤ (dueL L t).length ∧ i = .int .i64 k ∧ Aside0 (Cl wr2 B p b (strike L ((dueL L t).take k)) ∧ Kp (fun k => k = b) w2 wr2)) (fun i _ => (dueL L t).length - (intOf i).toNat)
      case atStart => exact ⟨0, Nat.zero_le _, rfl, ⟨(HN.out.1.below hB.out.1).move (kp_base HR2.out.2) (by have := HN.out.2.2.2.2.1; omega) (by have := HN.out.2.2.2.2.2.1; omega), Kp.refl _ _⟩⟩
      case round =>
        obtain ⟨k, hk, rfl, HC⟩ := hrel
        by_cases hlt : k < (dueL L t).length
        · have hltI : (k : Int) < ((dueL L t).length : Int) := by omega
          have hKb := HC.out.2
          have hR3 := R_kpb HR2.out.1 hKb (fun b' hb' e => by have := HN.out.2.2.2.2.2.1; omega)
          obtain ⟨ad, hA, x0⟩ := int_at hR3 k hlt
          have hbx := due_big HN.out.2.2.1 _ (List.getElem_mem hlt)
          have hst := strike_snoc L ((dueL L t).take k) ((dueL L t)[k])
          rw [List.take_append_getElem] at hst
          generalize (dueL L t)[k] = x at *
          have hwf : (Lit.int .i64 x).wf = true := by have := big_iff.1 hbx; exact wf_big (by omega) (by omega)
          obtain ⟨w3, hrun, hM, hK3⟩ := HC.out.1.2.2.2.del x hwf 0
          have hC3 := HC.out.1.turn hK3 hM
          have c4 := HC.out.1.cell
          have cg : wr.cell? ⟨w.heap.size, 0, none⟩ = some (.pointer (some ⟨p, 0, none⟩)) := (blk_cell (hKb.blk ((HR2.out.2.block _ (by omega)).trans hB.out.2.1) (by have := HN.out.2.2.2.2.2.1; omega)) 0).trans rfl
          rw [← hst] at hC3
          have HX := Aside0.mk (And.intro hC3 (And.intro (hKb.step hK3 (fun _ h => .inl h)) hlt))
          clear hC3 hK3 hM hst hR3 hKb hwf hbx hlt
          subst hA
          go_wp2
          exact ⟨⟨k + 1, HX.out.2.2, by congr 1, ⟨HX.out.1, HX.out.2.1⟩⟩, by have := HX.out.2.2; simp only [intOf]; omega⟩
        · obtain rfl : k = (dueL L t).length := by omega
          rw [List.take_length, strike_due HN.out.2.2.1] at HC
          go_wp2
          go_ret2
          refine ⟨_, rfl, ?_, HC.out.1, ?_⟩
          · exact Kd.R_lower (R_kpb HR2.out.1 HC.out.2 (fun b' hb' e => by have := HN.out.2.2.2.2.2.1; omega)) (by omega)
          · exact ((Kp.of_below (S := fun k => k = b) hB.out.1).step (kp_base HR2.out.2) (fun k h => .inr (by omega))).step HC.out.2 (fun _ h => .inl h)
    · intro x c w1 cnt1 hwx hwc hlx hat hrg1 hlt hg1 hs1 hen
      have he := range_at HN.out.2.2.2.1 hat
      have hcnt : wr.rangeLeft b (w.heap.size + 1) = cnt := hI.out.2.1.left_eq
      have hK1 : Kp (fun k => k = w.heap.size + 1) wr w1 := Kp.of_grown hg1
      have hR1 := R_kpb hI.out.1 hK1 (fun b' hb' e => by omega)
      have hB1 : Below w.heap.size w w1 := pw_below_grown hB.out.1 _ hB.out.1.size hg1 (fun k e => by injection e with e; omega)
      have hx1 := hK1.blk hB.out.2.1 (by omega)
      have hsz1 : w.heap.size + 2 ≤ w1.heap.size := by have := hB.out.2.2; omega
      have hlen := hI.out.2.2.2
      by_cases hc : c ≤ t
      · have hgot := hI.out.2.2.1.take he hlx hc
        have d1 : decide (c ≤ t) = true := by simpa using hc
        have HX := Aside0.mk (And.intro hrg1 (And.intro hR1 (And.intro hB1 (And.intro hx1 (And.intro hsz1 (And.intro hgot (And.intro hcnt (And.intro hlt hlen))))))))
        clear hrg1 hR1 hB1 hx1 hsz1 hgot hcnt hlt hlen hg1 hs1 hlx hat he hc hK1
        go_wp2_with (at_builtin; refine Kd.R_append (W := w1) (Kd.int .i64) (w0 := w1) (w.heap.size + 2) rfl (.tmp 29) (.tmp 31) 26 3 (.int .i64 0) 8 rfl Try.underlying26 info3i rfl (by decide) (by decide) u6 xs x [.int .i64 x] (fun _ => True) (fun _ => False) ?e1 ?e2 rfl (fun _ h => h.elim) (fun _ _ => trivial) ?sO ?sB ?sS ?sL ?_; (case e1 => simp [Act.eval, Act.put]); (case e2 => simp [Act.eval, Act.put]); (case sO => exact HX.out.2.1); (case sB => exact Below.refl _ _); (case sS => exact HX.out.2.2.2.2.1); (case sL => have := HX.out.2.2.2.2.2.2.2; omega); intro v1 w2 hR2 hB2 hg2 _; have HR2 := Aside0.mk (And.intro hR2 (And.intro hB2 hg2)); clear hR2 hB2 hg2)
        obtain ⟨hrg1, hR1, hB1, hx1, hsz1, hgot, hcnt, hlt, hlen⟩ := HX.out
        obtain ⟨hR2, hB2, hg2⟩ := HR2.out
        have hrow : ∀ k, k < w.heap.size + 2 → some k ≠ Value.ownBlock u6 := fun k hk e => by have := (R_lt hR1 k e.symm).1; omega
        have hrg2 := hrg1.kept hg2 (hrow b (by have := HN.out.2.2.2.2.2.1; omega)) (hrow _ (by omega))
        have hb2 : Below w.heap.size w w2 := ⟨hB2.os.trans hB1.os, hB2.tape.trans hB1.tape, hB2.output.trans hB1.output, Nat.le_trans hB1.size hB2.size, fun k hk => (hB2.block k (by omega)).trans (hB1.block k hk)⟩
        exact ⟨⟨xs ++ [x], _, cnt1, ⟨hR2, hrg2, hgot, by simp; omega⟩, ⟨hb2, (hB2.block _ (by omega)).trans hx1, Nat.le_trans hsz1 hB2.size⟩⟩, by rw [hrg2.left_eq, hcnt]; exact hlt⟩
      · have hgot := hI.out.2.2.1.pass he hc
        have d1 : decide (c ≤ t) = false := by simpa using hc
        have HX := Aside0.mk (And.intro hrg1 (And.intro hR1 (And.intro hB1 (And.intro hx1 (And.intro hsz1 (And.intro hgot (And.intro hcnt (And.intro hlt hlen))))))))
        clear hrg1 hR1 hB1 hx1 hsz1 hgot hcnt hlt hlen hg1 hs1 hlx hat he hc hK1
        go_wp2
        obtain ⟨hrg1, hR1, hB1, hx1, hsz1, hgot, hcnt, hlt, hlen⟩ := HX.out
        exact ⟨⟨xs, _, cnt1, ⟨hR1, hrg1, hgot, by omega⟩, ⟨hB1, hx1, hsz1⟩⟩, by rw [hrg1.left_eq, hcnt]; exact hlt⟩
/-- What Due comes to. -/
def due (L : List S53) (t : Int) : List Int × Int × List S53 := if big t = false then ([], 1, L) else (dueL L t, 0, rest L t)
theorem due_calls (B p b : Nat) (L : List S53) (t : Int) (w : World) (H : Cl w B p b L) : Calls Try.prog 11 #[.pointer (some ⟨p, 0, none⟩), .int .i64 t] w fun e w' =>
    ∃ v, e = .returned (.tuple #[v, .int .i64 (due L t).2.1]) ∧ Kd.R (Kd.int .i64) 3 w' w.heap.size (fun _ => True) v (due L t).1 ∧ Cl w' B p b (due L t).2.2 ∧ Kp (fun k => k = b) w w' := by
  unfold due
  by_cases c1 : big t = false
  · simp only [if_pos c1]
    exact (due_arg _ t w c1).mono fun e w' ⟨h, hb⟩ => ⟨_, h, Kd.R_nil _ _ _ _ _, H.below hb, Kp.of_below hb⟩
  · simp only [if_neg c1]
    exact due_ok B p b L t w H (by simpa using c1)
end Go.Proofs.Ytnenheaijacphaa.PAlarm
