/- The reference's Stop, Due; Set as a whole. -/
import Derived.Test.YtnenheaijacphaaRSets
import Derived.Test.YtnenheaijacphaaDue
namespace Go.Proofs.Ytnenheaijacphaa.PAlarm
open Go Go.RowKit Go.Maps Go.Proofs.YtnenheaijacphaaW.PrintWords Go.Proofs.YtnenheaijacphaaW.PrintLast Go.Proofs.YtnenheaijacphaaW.PrintMore Go.Proofs.Ytnenheaijacphaa.Sl
set_option linter.unusedVariables false
set_option linter.unusedSimpArgs false

theorem rset_calls (B q : Nat) (o : Option Nat) (L : List S53) (n t : Int) (w : World) (H : RC w B q o L) (hB : B ≤ w.heap.size) (hk : Ok L) :
    Calls Try.prog 16 #[.pointer (some ⟨q, 0, none⟩), .int .i64 n, .int .i64 t] w fun e w' => e = .returned (.int .i64 (set L n t).1) ∧ Thn w w' B q o (set L n t).2 := by
  unfold set
  by_cases c1 : (big n && big t) = false
  · simp only [if_pos c1]
    exact (rset_arg _ n t w c1).mono fun e w' ⟨h, hw⟩ => by subst hw; exact ⟨h, .same H (Below.refl _ _)⟩
  · simp only [if_neg c1]
    have c1' : big n = true ∧ big t = true := by cases h1 : big n <;> cases h2 : big t <;> simp [h1, h2] at c1 ⊢
    by_cases c2 : at_ L n = none ∧ L.length = 256
    · simp only [if_pos c2]
      exact (rset_full B q o L n t w H hk c1'.1 c1'.2 c2.1 c2.2).mono fun e w' ⟨h, hb⟩ => ⟨h, .same H hb⟩
    · simp only [if_neg c2]
      refine rset_ok B q o L n t w H hB hk c1'.1 c1'.2 ?_
      have := hk.len
      cases h : at_ L n with
      | some c => exact .inl rfl
      | none => exact .inr (by have : ¬ L.length = 256 := fun e => c2 ⟨h, e⟩; omega)
theorem fnd_ge {L : List S53} (h : Ok L) (n : Int) : decide (0 ≤ fnd L n) = (at_ L n).isSome := by
  have := fnd_neg h n
  cases e : at_ L n with
  | none => have := this.2 e; simp; omega
  | some c => rw [e] at this; simp at this; simpa using this
theorem rstop_calls (B q : Nat) (o : Option Nat) (L : List S53) (n : Int) (w : World) (H : RC w B q o L) (hB : B ≤ w.heap.size) (hk : Ok L) :
    Calls Try.prog 17 #[.pointer (some ⟨q, 0, none⟩), .int .i64 n] w fun e w' => e = .returned (.tuple #[.bool (stop L n).1, .int .i64 (stop L n).2.1]) ∧ Thn w w' B q o (stop L n).2.2 := by
  unfold stop
  cases hn : big n with
  | false =>
    simp only [if_true]
    have HN := Aside0.mk (And.intro hn H)
    clear hn H hk hB
    go_enter Try.func17, Try.ntmps17
    go_wp2_with (go_at_call 26; refine (rbig_calls _ _).mono ?_; rintro e w' ⟨rfl, rfl⟩; rw [HN.out.1])
    go_ret2
    exact ⟨rfl, .same HN.out.2 (Below.refl _ _)⟩
  | true =>
    simp only [Bool.true_eq_false, if_false]
    have hf := fnd_ge hk n
    have hl := hk.len
    have HN := Aside0.mk (And.intro hn (And.intro H (And.intro hf (And.intro hB hl))))
    clear hn H hk hf hB hl
    go_enter Try.func17, Try.ntmps17
    go_wp2_with (first | (go_at_call 26; refine (rbig_calls _ _).mono ?_; rintro e w' ⟨rfl, rfl⟩; rw [HN.out.1]) | (go_at_call 20; refine (find_calls B q o L n _ HN.out.2.1 (by have := HN.out.2.2.2.2; omega)).mono ?_; rintro e w1 ⟨rfl, hb⟩; have HB := Aside0.mk hb; clear hb) | (go_at_call 27; refine (drop_calls B q o L n _ (HN.out.2.1.below HB.out) (by have := HN.out.2.2.2.2; omega) (Nat.le_trans HN.out.2.2.2.1 HB.out.size)).mono ?_; rintro e w2 ⟨rfl, hT⟩; have HT := Aside0.mk hT; clear hT))
    go_ret2
    exact ⟨by rw [← HN.out.2.2.1]; rfl, Thn.after HB.out HT.out⟩
/-! ### Due -/
theorem due_snoc_le (L : List S53) (t : Int) (k : Nat) (hk : k < L.length) (h : (rd_T53 L (k : Int)).f1 ≤ t) : dueL (L.take (k + 1)) t = dueL (L.take k) t ++ [(rd_T53 L (k : Int)).f0] ∧ rest (L.take (k + 1)) t = rest (L.take k) t := by
  rw [take_snoc L k hk]
  unfold dueL rest
  rw [List.filter_append, List.filter_append]
  constructor
  · rw [List.filter_cons_of_pos (by simpa using h), List.map_append]; rfl
  · rw [List.filter_cons_of_neg (by simp; omega)]; simp
theorem due_snoc_gt (L : List S53) (t : Int) (k : Nat) (hk : k < L.length) (h : ¬ (rd_T53 L (k : Int)).f1 ≤ t) : dueL (L.take (k + 1)) t = dueL (L.take k) t ∧ rest (L.take (k + 1)) t = rest (L.take k) t ++ [rd_T53 L (k : Int)] := by
  rw [take_snoc L k hk]
  unfold dueL rest
  rw [List.filter_append, List.filter_append]
  constructor
  · rw [List.filter_cons_of_neg (by simpa using h)]; simp
  · rw [List.filter_cons_of_pos (by simp; omega)]; rfl
theorem rest_le (L : List S53) (t : Int) : (rest L t).length ≤ L.length := List.length_filter_le _ _
/-- Two rows of this call's own lie apart: each lies in blocks that the other one shuns. -/
theorem R_tightI {e base : Nat} {ok : Nat → Prop} {w : World} {v : Value} {l : List Int} (h : Kd.R (Kd.int .i64) e w base ok v l) : Kd.R (Kd.int .i64) e w base (fun k => some k = v.ownBlock) v l :=
  Kd.R_of_own (h1 := fun _ => rfl) (Kd.own_of_R h) (fun k h => h.symm)
/-- The one row grows, the other stays. -/
theorem apart_grow {α : Type} {d : Kd α} {e base : Nat} {W w1 : World} {u v v1 : Value} {l : List α} (h : Kd.R d e W base (fun k => some k = u.ownBlock) u l) (hd : ∀ k, some k = v.ownBlock → some k ≠ u.ownBlock) (hg : W.grownBy w1 v.ownBlock) (hl : v1.ownBlock = v.ownBlock ∨ ∃ b, v1.ownBlock = some b ∧ W.heap.size ≤ b) :
    Kd.R d e w1 base (fun k => some k = u.ownBlock) u l ∧ ∀ k, some k = v1.ownBlock → some k ≠ u.ownBlock := by
  refine ⟨Kd.R_grown h hg (fun k hk e => hd k e hk), fun k hk e => ?_⟩
  rcases hl with hl | ⟨b, hl, hb⟩
  · exact hd k (by rw [← hl]; exact hk) e
  · rw [hl] at hk
    obtain rfl := Option.some.inj hk
    have := (R_lt h k e.symm).2
    omega
set_option maxHeartbeats 2000000 in
set_option maxRecDepth 100000 in
theorem rdue_ok (B q : Nat) (o : Option Nat) (L : List S53) (t : Int) (w : World) (H : RC w B q o L) (hB : B ≤ w.heap.size) (hl : L.length ≤ 256) (ht : big t = true) :
    Calls Try.prog 18 #[.pointer (some ⟨q, 0, none⟩), .int .i64 t] w fun e w' => ∃ v, e = .returned (.tuple #[v, .int .i64 0]) ∧ Kd.R (Kd.int .i64) 3 w' w.heap.size (fun _ => True) v (dueL L t) ∧ Thn w w' B q o (rest L t) := by
  have hu53 := Try.underlying53
  obtain ⟨A, cp, f1, f2, f3, f4, f5⟩ := H.open_
  have c0 : w.cell? ⟨q, 0, none⟩ = some (.slice A L.length cp) := (blk_cell f2 0).trans rfl
  obtain ⟨_, hlc, hC⟩ := Kd.R_reads' f5
  have HH := Aside0.mk (And.intro hC (And.intro hlc (And.intro H (And.intro hB (And.intro hl (And.intro f2 ht))))))
  have hm : (L.length : Int) ≤ 256 := by omega
  clear H hl f1 f2 f3 f4 f5 hlc hC hB ht
  go_enter Try.func18, Try.ntmps18
  go_wp2_with (go_at_call 26; refine (rbig_calls _ _).mono ?_; rintro e w' ⟨rfl, rfl⟩; rw [HH.out.2.2.2.2.2.2])
  go_loopw [6, 7, 18] (fun ov rv i wr => ∃ k : Nat, k ≤ L.length ∧ i = .int .i64 k ∧ Aside0 (Kd.R (Kd.int .i64) 3 wr w.heap.size (fun k => some k = ov.ownBlock) ov (dueL (L.take k) t) ∧ Kd.R k53 53 wr w.heap.size (fun k => some k = rv.ownBlock) rv (rest (L.take k) t) ∧ (∀ k, some k = ov.ownBlock → some k ≠ rv.ownBlock)) ∧ Aside0 (Below w.heap.size w wr)) (fun _ _ i _ => L.length - (intOf i).toNat)
  case atStart => exact ⟨0, Nat.zero_le _, rfl, ⟨Kd.R_nil _ _ _ _ _, Kd.R_nil _ _ _ _ _, fun k h => by simp [Value.ownBlock] at h⟩, ⟨Below.refl _ _⟩⟩
  case round =>
    obtain ⟨k, hk, rfl, HR, HB⟩ := hrel
    by_cases hlt : k < L.length
    · have hltI : (k : Int) < (L.length : Int) := by omega
      obtain ⟨ad, hA, x0, x1⟩ := at_T53 (Kd.C_below HH.out.1 HB.out) (k : Int) (by omega) hltI
      have e1 := due_snoc_le L t k hlt
      have e2 := due_snoc_gt L t k hlt
      simp only [Int.toNat_natCast] at x0 x1
      generalize rd_T53 L (k : Int) = x at *
      have hal := (Below.refl wr.heap.size wr).alloc (Nat.le_refl _) (.cells #[.int .i64 x.f0, .int .i64 x.f1] 53)
      have hB' : Below w.heap.size w (wr.alloc (.cells #[.int .i64 x.f0, .int .i64 x.f1] 53)) := HB.out.alloc HB.out.size _
      have hR1 := Kd.R_below HR.out.1 hal
      have hR2 := Kd.R_below HR.out.2.1 hal
      have hdl := due_len (L.take k) t
      have hrl := rest_le (L.take k) t
      have htk : (L.take k).length ≤ L.length := by simp; omega
      have HN := Aside0.mk (And.intro e1 (And.intro e2 (And.intro hlt (And.intro hB' (And.intro hR1 (And.intro hR2 (And.intro hdl (And.intro hrl htk))))))))
      clear e1 e2 hlt hB' hR1 hR2 hdl hrl htk hal
      subst hA
      by_cases hx : x.f1 ≤ t
      · have d : decide (x.f1 ≤ t) = true := by simpa using hx
        have HX := Aside0.mk hx
        clear hx
        go_wp2_with (at_builtin; refine Kd.R_append (W := wr.alloc (.cells #[.int .i64 x.f0, .int .i64 x.f1] 53)) (Kd.int .i64) (w0 := w) w.heap.size rfl (.tmp 26) (.tmp 29) 26 3 (.int .i64 0) 8 rfl Try.underlying26 info3i rfl (by decide) (by decide) u6 (dueL (L.take k) t) x.f0 [.int .i64 x.f0] (fun k => some k = Value.ownBlock u6 ∨ (wr.alloc (.cells #[.int .i64 x.f0, .int .i64 x.f1] 53)).heap.size ≤ k) (fun _ => False) ?e1 ?e2 rfl (fun _ h => h.elim) (fun _ h => .inr h) ?sO ?sB ?sS ?sL ?_; (case e1 => simp [Act.eval, Act.put]); (case e2 => simp [Act.eval, Act.put, World.setCell]); (case sO => exact Kd.R_mono HN.out.2.2.2.2.1 (fun _ h => .inl h)); (case sB => exact HN.out.2.2.2.1); (case sS => exact HN.out.2.2.2.1.size); (case sL => have := HN.out.2.2.2.2.2.2; have := HH.out.2.2.2.2.1; omega); intro v1 w1 hR1 hB1 hg1 hl1; have HA := Aside0.mk (And.intro (R_tightI hR1) (And.intro (apart_grow HN.out.2.2.2.2.2.1 HR.out.2.2 hg1 hl1) hB1)); clear hR1 hB1 hg1 hl1)
        exact ⟨⟨k + 1, HN.out.2.2.1, by congr 1, ⟨by rw [(HN.out.1 HX.out).1]; exact HA.out.1, by rw [(HN.out.1 HX.out).2]; exact HA.out.2.1.1, HA.out.2.1.2⟩, ⟨HA.out.2.2⟩⟩, by have := HN.out.2.2.1; simp only [intOf]; omega⟩
      · have d : decide (x.f1 ≤ t) = false := by simpa using hx
        have HX := Aside0.mk hx
        clear hx
        go_wp2_with (at_builtin; refine Kd.R_append (W := wr.alloc (.cells #[.int .i64 x.f0, .int .i64 x.f1] 53)) k53 (w0 := w) w.heap.size rfl (.tmp 31) (.tmp 33) 42 53 (.agg #[(.int .i64 0), (.int .i64 0)]) 16 rfl Try.underlying42 info53 rfl (by decide) (by decide) u7 (rest (L.take k) t) x [.int .i64 x.f0, .int .i64 x.f1] (fun k => some k = Value.ownBlock u7 ∨ (wr.alloc (.cells #[.int .i64 x.f0, .int .i64 x.f1] 53)).heap.size ≤ k) (fun _ => False) ?e1 ?e2 (k53_mkM _ _ _ _) (fun _ h => h.elim) (fun _ h => .inr h) ?sO ?sB ?sS ?sL ?_; (case e1 => simp [Act.eval, Act.put]); (case e2 => simp [Act.eval, Act.put, World.setCell]); (case sO => exact Kd.R_mono HN.out.2.2.2.2.2.1 (fun _ h => .inl h)); (case sB => exact HN.out.2.2.2.1); (case sS => exact HN.out.2.2.2.1.size); (case sL => have := HN.out.2.2.2.2.2.2; have := HH.out.2.2.2.2.1; omega); intro v1 w1 hR1 hB1 hg1 hl1; have HA := Aside0.mk (And.intro (R_tight hR1) (And.intro (apart_grow HN.out.2.2.2.2.1 (fun k h e => HR.out.2.2 k e h) hg1 hl1) hB1)); clear hR1 hB1 hg1 hl1)
        exact ⟨⟨k + 1, HN.out.2.2.1, by congr 1, ⟨by rw [(HN.out.2.1 HX.out).1]; exact HA.out.2.1.1, by rw [(HN.out.2.1 HX.out).2]; exact HA.out.1, fun k h e => HA.out.2.1.2 k e h⟩, ⟨HA.out.2.2⟩⟩, by have := HN.out.2.2.1; simp only [intOf]; omega⟩
    · obtain rfl : k = L.length := by omega
      rw [List.take_length] at HR
      have hbk := (HB.out.block q (blk_lt HH.out.2.2.2.2.2.1)).trans HH.out.2.2.2.2.2.1
      have b0 : wr.cell? ⟨q, 0, none⟩ = some (.slice A L.length cp) := (blk_cell hbk 0).trans rfl
      have g0 : wr.frozen? ⟨q, 0, none⟩ = false := blk_frozen hbk 0
      clear hbk
      obtain ⟨A3, c3, rfl⟩ := Kd.R_slice HR.out.2.1
      go_wp2
      go_ret2
      refine ⟨_, rfl, ?_, rc_store HH.out.2.2.1 HB.out HH.out.2.2.2.1 (Kd.R_mono HR.out.2.1 (fun _ _ => trivial)) (Nat.le_refl _)⟩
      refine Kd.R_mono (R_kpb HR.out.1 ((Kp.refl (fun k => k = q) wr).set (p := ⟨q, 0, none⟩) (.inl rfl) _) (fun b hb e => ?_)) (fun _ _ => trivial)
      have := blk_lt HH.out.2.2.2.2.2.1
      omega
theorem rdue_arg (p : Option Addr) (t : Int) (w : World) (h : big t = false) : Calls Try.prog 18 #[.pointer p, .int .i64 t] w fun e w' => e = .returned (.tuple #[.slice none 0 0, .int .i64 1]) ∧ w = w' := by
  have HN := Aside0.mk h
  clear h
  go_enter Try.func18, Try.ntmps18
  go_wp2_with (go_at_call 26; refine (rbig_calls _ _).mono ?_; rintro e w' ⟨rfl, rfl⟩; rw [HN.out])
  go_ret2
  exact ⟨rfl, rfl⟩
theorem rdue_calls (B q : Nat) (o : Option Nat) (L : List S53) (t : Int) (w : World) (H : RC w B q o L) (hB : B ≤ w.heap.size) (hk : Ok L) :
    Calls Try.prog 18 #[.pointer (some ⟨q, 0, none⟩), .int .i64 t] w fun e w' => ∃ v, e = .returned (.tuple #[v, .int .i64 (due L t).2.1]) ∧ Kd.R (Kd.int .i64) 3 w' w.heap.size (fun _ => True) v (due L t).1 ∧ Thn w w' B q o (due L t).2.2 := by
  unfold due
  by_cases c1 : big t = false
  · simp only [if_pos c1]
    exact (rdue_arg _ t w c1).mono fun e w' ⟨h, hb⟩ => by subst hb; exact ⟨_, h, Kd.R_nil _ _ _ _ _, .same H (Below.refl _ _)⟩
  · simp only [if_neg c1]
    exact rdue_ok B q o L t w H hB hk.len (by simpa using c1)
end Go.Proofs.Ytnenheaijacphaa.PAlarm
