/- The reference's clock in memory; Find, drop, Stop. -/
import Derived.Test.YtnenheaijacphaaClock
import Derived.Deep.RegionLaw
namespace Go.Proofs.Ytnenheaijacphaa.PAlarm
open Go Go.RowKit Go.Maps Go.Proofs.YtnenheaijacphaaW.PrintWords Go.Proofs.YtnenheaijacphaaW.PrintLast Go.Proofs.YtnenheaijacphaaW.PrintMore Go.Proofs.Ytnenheaijacphaa.Sl
set_option linter.unusedVariables false
set_option linter.unusedSimpArgs false

/-- The reference's clock at block q, its alarms in the block o. -/
def RC (w : World) (B q : Nat) (o : Option Nat) (L : List S53) : Prop :=
  ∃ v, B ≤ q ∧ w.heap[q]? = some (.cells #[v] 44 (0, 0)) ∧ v.ownBlock = o ∧ some q ≠ o ∧ Kd.R k53 53 w B (fun k => some k = o) v L
def Its (q : Nat) (o : Option Nat) (k : Nat) : Prop := k = q ∨ some k = o
theorem RC.move {S : Nat → Prop} {w W : World} {B q : Nat} {o : Option Nat} {L : List S53} (h : RC w B q o L) (k : Kp S w W) (hn : ∀ b, Its q o b → ¬ S b) : RC W B q o L := by
  obtain ⟨v, h1, h2, h3, h4, h5⟩ := h
  exact ⟨v, h1, k.blk h2 (hn q (.inl rfl)), h3, h4, R_kp h5 k (fun b hb => hn b (.inr hb))⟩
theorem RC.below {w W : World} {B q : Nat} {o : Option Nat} {L : List S53} (h : RC w B q o L) (k : Below w.heap.size w W) : RC W B q o L :=
  h.move (Kp.of_below (S := fun _ => False) k) (fun _ _ h => h)
theorem RC.its {w : World} {B q : Nat} {o : Option Nat} {L : List S53} (h : RC w B q o L) : ∀ k, Its q o k → B ≤ k ∧ k < w.heap.size := by
  obtain ⟨v, h1, h2, h3, h4, h5⟩ := h
  intro k hk
  rcases hk with rfl | hk
  · exact ⟨h1, blk_lt h2⟩
  · exact R_lt h5 k (by rw [h3]; exact hk.symm)
theorem RC.open_ {w : World} {B q : Nat} {o : Option Nat} {L : List S53} (h : RC w B q o L) : ∃ A cp, B ≤ q ∧ w.heap[q]? = some (.cells #[.slice A L.length cp] 44 (0, 0)) ∧ (Value.slice A L.length cp).ownBlock = o ∧ some q ≠ o ∧ Kd.R k53 53 w B (fun k => some k = o) (.slice A L.length cp) L := by
  obtain ⟨v, h1, h2, h3, h4, h5⟩ := h
  obtain ⟨A, c, rfl⟩ := Kd.R_slice h5
  exact ⟨A, c, h1, h2, h3, h4, h5⟩
/-- Behind a method: the alarms are L now; the row is the elder one or a new one. -/
def Thn (w w' : World) (B q : Nat) (o : Option Nat) (L : List S53) : Prop :=
  ∃ o', RC w' B q o' L ∧ Kp (Its q o) w w' ∧ ∀ b, o' = some b → o = some b ∨ w.heap.size ≤ b
theorem Thn.same {w w' : World} {B q : Nat} {o : Option Nat} {L : List S53} (h : RC w B q o L) (k : Below w.heap.size w w') : Thn w w' B q o L :=
  ⟨o, h.below k, Kp.of_below k, fun b e => .inl e⟩
theorem Thn.after {w w1 w2 : World} {B q : Nat} {o : Option Nat} {L : List S53} (k : Below w.heap.size w w1) (h : Thn w1 w2 B q o L) : Thn w w2 B q o L := by
  obtain ⟨o', h1, h2, h3⟩ := h
  exact ⟨o', h1, (Kp.of_below k).step h2 (fun b hb => .inl hb), fun b e => (h3 b e).imp_right (fun h => Nat.le_trans k.size h)⟩
theorem Thn.before {w w1 w2 : World} {B q : Nat} {o : Option Nat} {L : List S53} (h : Thn w w1 B q o L) (k : Below w1.heap.size w1 w2) : Thn w w2 B q o L := by
  obtain ⟨o', h1, h2, h3⟩ := h
  exact ⟨o', h1.below k, h2.below k, h3⟩
theorem Thn.trans {w w1 w2 : World} {B q : Nat} {o o1 : Option Nat} {L : List S53} (k : Kp (Its q o) w w1) (ho : ∀ b, o1 = some b → o = some b ∨ w.heap.size ≤ b) (h : Thn w1 w2 B q o1 L) : Thn w w2 B q o L := by
  obtain ⟨o', h1, h2, h3⟩ := h
  refine ⟨o', h1, k.step h2 (fun b hb => ?_), fun b e => ?_⟩
  · rcases hb with hb | hb
    · exact .inl (.inl hb)
    · exact (ho b hb.symm).imp (fun e => .inr e.symm) id
  · rcases h3 b e with h | h
    · exact ho b h
    · exact .inr (Nat.le_trans k.size h)
/-- The field is given a new row. -/
theorem rc_store {w W : World} {B q hi : Nat} {o : Option Nat} {L M : List S53} {v : Value} (H : RC w B q o L) (hb : Below w.heap.size w W) (hB : B ≤ w.heap.size) (hR : Kd.R k53 53 W hi (fun _ => True) v M) (hhi : w.heap.size ≤ hi) : Thn w (W.setCell ⟨q, 0, none⟩ v) B q o M := by
  obtain ⟨A, cp, f1, f2, f3, f4, f5⟩ := H.open_
  have hp := blk_lt f2
  have k1 : Kp (fun k => k = q) W (W.setCell ⟨q, 0, none⟩ v) := (Kp.refl (fun k => k = q) W).set (p := ⟨q, 0, none⟩) (.inl rfl) v
  have hown := R_lt hR
  have hblk : (W.setCell ⟨q, 0, none⟩ v).heap[q]? = some (.cells #[v] 44 (0, 0)) := Go.Joins.block_setCell (i := 0) ((hb.block q hp).trans f2) v
  refine ⟨v.ownBlock, ⟨v, f1, hblk, rfl, fun e => ?_, ?_⟩, ?_, fun b e => .inr ?_⟩
  · have := (hown q e.symm).1; omega
  · refine Kd.R_lower (R_kp (R_tight hR) k1 (fun b hb' e => ?_)) (Nat.le_trans hB hhi)
    have := (hown b hb'.symm).1
    omega
  · exact ((Kp.of_below (S := Its q o) hb).set (p := ⟨q, 0, none⟩) (.inl (.inl rfl)) _)
  · have := (hown b e).1; omega

theorem rd_get {L : List S53} {k : Nat} (h : k < L.length) : rd_T53 L (k : Int) = L[k] := by simp [rd_T53, List.getD_eq_getElem?_getD, List.getElem?_eq_getElem h]
theorem take_snoc (L : List S53) (k : Nat) (h : k < L.length) : L.take (k + 1) = L.take k ++ [rd_T53 L (k : Int)] := by
  rw [rd_get h, List.take_append_getElem]
def fnd (L : List S53) (n : Int) : Int := (at_ L n).getD (-1)
theorem fnd_hit {L : List S53} {n : Int} {k : Nat} (hk : k < L.length) (h0 : at_ (L.take k) n = none) (h1 : (rd_T53 L (k : Int)).f0 = n) : fnd L n = (rd_T53 L (k : Int)).f1 := by
  have e : L = L.take k ++ (rd_T53 L (k : Int)) :: L.drop (k + 1) := by rw [rd_get hk]; simp
  unfold fnd at_ at *
  rw [Option.map_eq_none_iff] at h0
  conv => lhs; rw [e]
  rw [List.find?_append, h0, Option.none_or, List.find?_cons_of_pos (by simp [h1])]
  rfl
theorem fnd_snoc {L : List S53} {n : Int} {k : Nat} (hk : k < L.length) (h0 : at_ (L.take k) n = none) (h1 : (rd_T53 L (k : Int)).f0 ≠ n) : at_ (L.take (k + 1)) n = none := by
  rw [take_snoc L k hk]
  unfold at_ at *
  rw [Option.map_eq_none_iff] at *
  rw [List.find?_append, h0, Option.none_or, List.find?_cons_of_neg (by simpa using h1)]
  rfl
set_option maxHeartbeats 1000000 in
set_option maxRecDepth 100000 in
theorem find_calls (B q : Nat) (o : Option Nat) (L : List S53) (n : Int) (w : World) (H : RC w B q o L) (hl : L.length ≤ 100000) :
    Calls Try.prog 20 #[.pointer (some ⟨q, 0, none⟩), .int .i64 n] w fun e w' => e = .returned (.int .i64 (fnd L n)) ∧ Below w.heap.size w w' := by
  have hu53 := Try.underlying53
  obtain ⟨A, cp, f1, f2, f3, f4, f5⟩ := H.open_
  have c0 : w.cell? ⟨q, 0, none⟩ = some (.slice A L.length cp) := (blk_cell f2 0).trans rfl
  obtain ⟨_, hlc, hC⟩ := Kd.R_reads' f5
  have HH := Aside0.mk (And.intro hC hlc)
  have hm : (L.length : Int) ≤ 100000 := by omega
  clear H hl f1 f2 f3 f4 f5 hlc hC
  go_enter Try.func20, Try.ntmps20
  go_wp2
  go_loopw [12] (fun i wr => ∃ k : Nat, k ≤ L.length ∧ i = .int .i64 k ∧ Aside0 (at_ (L.take k) n = none) ∧ Aside0 (Below w.heap.size w wr)) (fun i _ => L.length - (intOf i).toNat)
  case atStart => exact ⟨0, Nat.zero_le _, rfl, ⟨rfl⟩, ⟨Below.refl _ _⟩⟩
  case round =>
    obtain ⟨k, hk, rfl, HR, HB⟩ := hrel
    by_cases hlt : k < L.length
    · have hltI : (k : Int) < (L.length : Int) := by omega
      obtain ⟨ad, hA, x0, x1⟩ := at_T53 (Kd.C_below HH.out.1 HB.out) (k : Int) (by omega) hltI
      have e1 := fnd_hit (n := n) hlt HR.out
      have e2 := fnd_snoc (n := n) hlt HR.out
      simp only [Int.toNat_natCast] at x0 x1
      generalize rd_T53 L (k : Int) = x at *
      have hB' : Below w.heap.size w (wr.alloc (.cells #[.int .i64 x.f0, .int .i64 x.f1] 53)) := HB.out.alloc HB.out.size _
      have HN := Aside0.mk (And.intro e1 (And.intro e2 (And.intro hlt hB')))
      clear e1 e2 hlt hB'
      subst hA
      by_cases hx : x.f0 = n
      · have d : (x.f0 == n) = true := by simp [hx]
        have HX := Aside0.mk hx
        clear hx
        go_wp2
        go_ret
        exact ⟨by rw [HN.out.1 HX.out]; rfl, HN.out.2.2.2⟩
      · have d : (x.f0 == n) = false := by simpa using hx
        have HX := Aside0.mk hx
        clear hx
        go_wp2
        exact ⟨⟨k + 1, HN.out.2.2.1, by congr 1, ⟨HN.out.2.1 HX.out⟩, ⟨HN.out.2.2.2⟩⟩, by have := HN.out.2.2.1; simp only [intOf]; omega⟩
    · obtain rfl : k = L.length := by omega
      have hf : fnd L n = -1 := by unfold fnd; have := HR.out; rw [List.take_length] at this; rw [this]; rfl
      have HF := Aside0.mk hf
      clear hf
      go_wp2
      go_ret
      exact ⟨by rw [HF.out]; rfl, HB.out⟩
theorem drp_snoc_ne (L : List S53) (n : Int) (k : Nat) (hk : k < L.length) (h : (rd_T53 L (k : Int)).f0 ≠ n) : drp (L.take (k + 1)) n = drp (L.take k) n ++ [rd_T53 L (k : Int)] := by
  rw [take_snoc L k hk]
  unfold drp
  rw [List.filter_append]
  congr 1
  rw [List.filter_cons_of_pos (by simpa using h)]
  rfl
theorem drp_snoc_eq (L : List S53) (n : Int) (k : Nat) (hk : k < L.length) (h : (rd_T53 L (k : Int)).f0 = n) : drp (L.take (k + 1)) n = drp (L.take k) n := by
  rw [take_snoc L k hk]
  unfold drp
  rw [List.filter_append, List.filter_cons_of_neg (by simp [h])]
  simp
theorem drp_le (L : List S53) (n : Int) : (drp L n).length ≤ L.length := List.length_filter_le _ _
set_option maxHeartbeats 1000000 in
set_option maxRecDepth 100000 in
theorem drop_calls (B q : Nat) (o : Option Nat) (L : List S53) (n : Int) (w : World) (H : RC w B q o L) (hl : L.length ≤ 100000) (hB : B ≤ w.heap.size) :
    Calls Try.prog 27 #[.pointer (some ⟨q, 0, none⟩), .int .i64 n] w fun e w' => e = .returned (.tuple #[]) ∧ Thn w w' B q o (drp L n) := by
  have hu53 := Try.underlying53
  obtain ⟨A, cp, f1, f2, f3, f4, f5⟩ := H.open_
  have c0 : w.cell? ⟨q, 0, none⟩ = some (.slice A L.length cp) := (blk_cell f2 0).trans rfl
  obtain ⟨_, hlc, hC⟩ := Kd.R_reads' f5
  have HH := Aside0.mk (And.intro hC (And.intro hlc (And.intro H (And.intro hB (And.intro hl f2)))))
  have hm : (L.length : Int) ≤ 100000 := by omega
  clear H hl f1 f2 f3 f4 f5 hlc hC hB
  go_enter Try.func27, Try.ntmps27
  go_wp2
  go_loopw [4, 12] (fun ov i wr => ∃ k : Nat, k ≤ L.length ∧ i = .int .i64 k ∧ Aside0 (Kd.R k53 53 wr w.heap.size (fun _ => True) ov (drp (L.take k) n)) ∧ Aside0 (Below w.heap.size w wr)) (fun _ i _ => L.length - (intOf i).toNat)
  case atStart => exact ⟨0, Nat.zero_le _, rfl, ⟨Kd.R_nil _ _ _ _ _⟩, ⟨Below.refl _ _⟩⟩
  case round =>
    obtain ⟨k, hk, rfl, HR, HB⟩ := hrel
    by_cases hlt : k < L.length
    · have hltI : (k : Int) < (L.length : Int) := by omega
      obtain ⟨ad, hA, x0, x1⟩ := at_T53 (Kd.C_below HH.out.1 HB.out) (k : Int) (by omega) hltI
      have e1 := drp_snoc_ne L n k hlt
      have e2 := drp_snoc_eq L n k hlt
      simp only [Int.toNat_natCast] at x0 x1
      generalize rd_T53 L (k : Int) = x at *
      have hB' : Below w.heap.size w (wr.alloc (.cells #[.int .i64 x.f0, .int .i64 x.f1] 53)) := HB.out.alloc HB.out.size _
      have hR' := Kd.R_below HR.out ((Below.refl wr.heap.size wr).alloc (Nat.le_refl _) (.cells #[.int .i64 x.f0, .int .i64 x.f1] 53))
      have hdl := drp_le (L.take k) n
      have htk : (L.take k).length ≤ L.length := by simp; omega
      have HN := Aside0.mk (And.intro e1 (And.intro e2 (And.intro hlt (And.intro hB' (And.intro hR' (And.intro hdl htk))))))
      clear e1 e2 hlt hB' hR' hdl htk
      subst hA
      by_cases hx : x.f0 = n
      · have d : (x.f0 != n) = false := by simp [hx]
        have HX := Aside0.mk hx
        clear hx
        go_wp2
        exact ⟨⟨k + 1, HN.out.2.2.1, by congr 1, ⟨by rw [HN.out.2.1 HX.out]; exact HN.out.2.2.2.2.1⟩, ⟨HN.out.2.2.2.1⟩⟩, by have := HN.out.2.2.1; simp only [intOf]; omega⟩
      · have d : (x.f0 != n) = true := by simpa using hx
        have HX := Aside0.mk hx
        clear hx
        go_wp2_with (at_builtin; refine Kd.R_append (W := wr.alloc (.cells #[.int .i64 x.f0, .int .i64 x.f1] 53)) k53 (w0 := w) w.heap.size rfl (.tmp 20) (.tmp 22) 42 53 (.agg #[(.int .i64 0), (.int .i64 0)]) 16 rfl Try.underlying42 info53 rfl (by decide) (by decide) u4 (drp (L.take k) n) x [.int .i64 x.f0, .int .i64 x.f1] (fun _ => True) (fun _ => False) ?e1 ?e2 (k53_mkM _ _ _ _) (fun _ h => h.elim) (fun _ _ => trivial) ?sO ?sB ?sS ?sL ?_; (case e1 => simp [Act.eval, Act.put]); (case e2 => simp [Act.eval, Act.put, World.setCell]); (case sO => exact HN.out.2.2.2.2.1); (case sB => exact HN.out.2.2.2.1); (case sS => exact HN.out.2.2.2.1.size); (case sL => have := HN.out.2.2.2.2.2; have := HH.out.2.2.2.2.1; omega); intro v1 w1 hR1 hB1 _ _; have HR1 := Aside0.mk hR1; have HB1 := Aside0.mk hB1; clear hR1 hB1)
        exact ⟨⟨k + 1, HN.out.2.2.1, by congr 1, ⟨by rw [HN.out.1 HX.out]; exact HR1.out⟩, HB1⟩, by have := HN.out.2.2.1; simp only [intOf]; omega⟩
    · obtain rfl : k = L.length := by omega
      rw [List.take_length] at HR
      have hbk := (HB.out.block q (blk_lt HH.out.2.2.2.2.2)).trans HH.out.2.2.2.2.2
      have b0 : wr.cell? ⟨q, 0, none⟩ = some (.slice A L.length cp) := (blk_cell hbk 0).trans rfl
      have g0 : wr.frozen? ⟨q, 0, none⟩ = false := blk_frozen hbk 0
      clear hbk
      obtain ⟨A2, c2, rfl⟩ := Kd.R_slice HR.out
      go_wp2
      go_end0
      exact ⟨rfl, rc_store HH.out.2.2.1 HB.out HH.out.2.2.2.1 HR.out (Nat.le_refl _)⟩
end Go.Proofs.Ytnenheaijacphaa.PAlarm
