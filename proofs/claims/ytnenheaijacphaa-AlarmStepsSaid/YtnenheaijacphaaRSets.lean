/- The reference's Set, Stop. -/
import Derived.Test.YtnenheaijacphaaRClock
import Derived.Test.YtnenheaijacphaaMethods
namespace Go.Proofs.Ytnenheaijacphaa.PAlarm
open Go Go.RowKit Go.Maps Go.Proofs.YtnenheaijacphaaW.PrintWords Go.Proofs.YtnenheaijacphaaW.PrintLast Go.Proofs.YtnenheaijacphaaW.PrintMore Go.Proofs.Ytnenheaijacphaa.Sl
set_option linter.unusedVariables false
set_option linter.unusedSimpArgs false

theorem rbig_calls (n : Int) (w : World) : Calls Try.prog 26 #[.int .i64 n] w fun e w' => e = .returned (.bool (big n)) ∧ w = w' := by
  unfold big
  by_cases h : 0 ≤ n
  · have d : decide (0 ≤ n) = true := by simpa using h
    rw [d]
    go_enter Try.func26, Try.ntmps26
    go_wp2
    go_ret
    exact ⟨by simp, rfl⟩
  · have d : decide (0 ≤ n) = false := by simpa using h
    rw [d]
    go_enter Try.func26, Try.ntmps26
    go_wp2
    go_ret
    exact ⟨by simp, rfl⟩
theorem rset_arg (p : Option Addr) (n t : Int) (w : World) (h : (big n && big t) = false) : Calls Try.prog 16 #[.pointer p, .int .i64 n, .int .i64 t] w fun e w' => e = .returned (.int .i64 1) ∧ w = w' := by
  cases hn : big n with
  | false =>
    have HN := Aside0.mk hn
    clear hn h
    go_enter Try.func16, Try.ntmps16
    go_wp2_with (go_at_call 26; refine (rbig_calls _ _).mono ?_; rintro e w' ⟨rfl, rfl⟩; rw [HN.out])
    go_ret
    exact ⟨rfl, rfl⟩
  | true =>
    rw [hn, Bool.true_and] at h
    have HN := Aside0.mk (And.intro hn h)
    clear hn h
    go_enter Try.func16, Try.ntmps16
    go_wp2_with (go_at_call 26; refine (rbig_calls _ _).mono ?_; rintro e w' ⟨rfl, rfl⟩; first | rw [HN.out.1] | rw [HN.out.2])
    go_ret
    exact ⟨rfl, rfl⟩
theorem fnd_neg {L : List S53} (h : Ok L) (n : Int) : fnd L n < 0 ↔ at_ L n = none := by
  unfold fnd
  cases e : at_ L n with
  | none => simp
  | some c => have := (at_rng h e).2; simp; omega
theorem rc_cell {w w1 : World} {B q : Nat} {o : Option Nat} {L : List S53} (H : RC w B q o L) (hb : Below w.heap.size w w1) : ∃ A cp, w1.cell? ⟨q, 0, none⟩ = some (.slice A L.length cp) ∧ w1.frozen? ⟨q, 0, none⟩ = false := by
  obtain ⟨A, cp, f1, f2, f3, f4, f5⟩ := (H.below hb).open_
  exact ⟨A, cp, (blk_cell f2 0).trans rfl, blk_frozen f2 0⟩
theorem rset_full (B q : Nat) (o : Option Nat) (L : List S53) (n t : Int) (w : World) (H : RC w B q o L) (hk : Ok L) (hn : big n = true) (ht : big t = true) (hl : at_ L n = none) (hf : L.length = 256) :
    Calls Try.prog 16 #[.pointer (some ⟨q, 0, none⟩), .int .i64 n, .int .i64 t] w fun e w' => e = .returned (.int .i64 5) ∧ Below w.heap.size w w' := by
  have hfn : fnd L n = -1 := by unfold fnd; rw [hl]; rfl
  have HN := Aside0.mk (And.intro hn (And.intro ht (And.intro H (And.intro hfn hf))))
  clear hn ht H hl hf hfn hk
  go_enter Try.func16, Try.ntmps16
  go_wp2_with (first | (go_at_call 26; refine (rbig_calls _ _).mono ?_; rintro e w' ⟨rfl, rfl⟩; first | rw [HN.out.1] | rw [HN.out.2.1]) | (go_at_call 20; refine (find_calls B q o L n _ HN.out.2.2.1 (by have := HN.out.2.2.2.2; omega)).mono ?_; rintro e w1 ⟨rfl, hb⟩; rw [HN.out.2.2.2.1]; obtain ⟨A, cp, c0, _⟩ := rc_cell HN.out.2.2.1 hb; rw [HN.out.2.2.2.2] at c0; have HB := Aside0.mk hb; clear hb))
  go_ret
  exact ⟨rfl, HB.out⟩
theorem box_row {wr w1 : World} {base : Nat} {v : Value} {M : List S53} {c0 c1 : Value} {t : Nat} (hR : Kd.R k53 53 wr base (fun _ => True) v M) (hg : (wr.alloc (.cells #[c0, c1] t)).grownBy w1 v.ownBlock) :
    w1.cell? ⟨wr.heap.size, 0, none⟩ = some c0 ∧ w1.cell? ⟨wr.heap.size, 1, none⟩ = some c1 := by
  have hb : (wr.alloc (.cells #[c0, c1] t)).heap[wr.heap.size]? = some (.cells #[c0, c1] t (0, 0)) := Array.getElem?_push_size
  have h2 := (hg.block wr.heap.size (by simp) (fun e => by have := (R_lt hR _ e.symm).2; omega)).trans hb
  exact ⟨(blk_cell h2 0).trans rfl, (blk_cell h2 1).trans rfl⟩
def rest_ (pb : Bool) (l : List S53) (n t : Int) : List S53 := if pb = true then l else ins l n t
theorem drop_rd (L : List S53) (k : Nat) (h : k < L.length) : L.drop k = rd_T53 L (k : Int) :: L.drop (k + 1) := by
  rw [rd_get h, List.drop_eq_getElem_cons h]
theorem ins_aft {a : S53} {l : List S53} {n t : Int} (h : aft a n t = true) : ins (a :: l) n t = ⟨n, t⟩ :: a :: l := by unfold ins; rw [if_pos h]
theorem ins_naft {a : S53} {l : List S53} {n t : Int} (h : aft a n t = false) : ins (a :: l) n t = a :: ins l n t := by
  rw [show ins (a :: l) n t = (if aft a n t = true then ⟨n, t⟩ :: a :: l else a :: ins l n t) from rfl, if_neg (by simp [h])]
set_option maxHeartbeats 4000000 in
set_option maxRecDepth 100000 in
theorem rset_ok (B q : Nat) (o : Option Nat) (L : List S53) (n t : Int) (w : World) (H : RC w B q o L) (hB : B ≤ w.heap.size) (hk : Ok L) (hn : big n = true) (ht : big t = true) (hl : (at_ L n).isSome = true ∨ L.length < 256) :
    Calls Try.prog 16 #[.pointer (some ⟨q, 0, none⟩), .int .i64 n, .int .i64 t] w fun e w' => e = .returned (.int .i64 0) ∧ Thn w w' B q o (put L n t) := by
  have hu53 := Try.underlying53
  have hll := hk.len
  have hg : fnd L n < 0 → L.length < 256 := fun h => by
    rw [fnd_neg hk] at h
    rcases hl with e | e
    · rw [h] at e; cases e
    · exact e
  have HN := Aside0.mk (And.intro hn (And.intro ht (And.intro H (And.intro hB (And.intro hg hll)))))
  clear hn ht H hl hk hB hg hll
  rcases Decidable.em (fnd L n < 0) with hf | hf
  · have d2 : decide ((256 : Int) ≤ (L.length : Int)) = false := by have := HN.out.2.2.2.2.1 hf; simp; omega
    have d1 : decide (fnd L n < 0) = true := by simpa using hf
    clear hf
    go_enter Try.func16, Try.ntmps16
    go_wp2_with (first | (go_at_call 26; refine (rbig_calls _ _).mono ?_; rintro e w' ⟨rfl, rfl⟩; first | rw [HN.out.1] | rw [HN.out.2.1]) | (go_at_call 20; refine (find_calls B q o L n _ HN.out.2.2.1 (by have := HN.out.2.2.2.2.2; omega)).mono ?_; rintro e w1 ⟨rfl, hb⟩; obtain ⟨A, cp, c0, _⟩ := rc_cell HN.out.2.2.1 hb; have HB := Aside0.mk hb; clear hb) | (go_at_call 27; refine (drop_calls B q o L n _ (HN.out.2.2.1.below HB.out) (by have := HN.out.2.2.2.2.2; omega) (Nat.le_trans HN.out.2.2.2.1 HB.out.size)).mono ?_; rintro e w2 ⟨rfl, hT⟩; obtain ⟨o2, hrc, hkp, ho2⟩ := hT; obtain ⟨A2, cp2, f1, f2, f3, f4, f5⟩ := hrc.open_; have c2 : w2.cell? ⟨q, 0, none⟩ = some (.slice A2 (drp L n).length cp2) := (blk_cell f2 0).trans rfl; obtain ⟨_, hlc, hC⟩ := Kd.R_reads' f5; have HT := Aside0.mk (And.intro hrc (And.intro hkp (And.intro ho2 (And.intro hC (And.intro hlc f2))))); have hml : ((drp L n).length : Int) ≤ 256 := (by have := drp_le L n; have := HN.out.2.2.2.2.2; omega); clear hrc hkp ho2 f1 f2 f3 f4 f5 hlc hC))
    generalize hDD : drp L n = D at *
    have HD := Aside0.mk hDD
    clear hDD
    go_loopw [7, 8, 39] (fun ov pv i wr => ∃ (k : Nat) (pb : Bool) (M : List S53), k ≤ D.length ∧ i = .int .i64 k ∧ pv = .bool pb ∧ Aside0 (Kd.R k53 53 wr w2.heap.size (fun _ => True) ov M ∧ M ++ rest_ pb (D.drop k) n t = ins D n t ∧ M.length ≤ k + pb.toNat) ∧ Aside0 (Below w2.heap.size w2 wr)) (fun _ _ i _ => D.length - (intOf i).toNat)
    case atStart => exact ⟨0, false, [], Nat.zero_le _, rfl, rfl, ⟨Kd.R_nil _ _ _ _ _, by simp [rest_], by simp⟩, ⟨Below.refl _ _⟩⟩
    case round =>
      obtain ⟨k, pb, M, hk, rfl, rfl, HR, HB2⟩ := hrel
      by_cases hlt : k < D.length
      · have hltI : (k : Int) < (D.length : Int) := by omega
        obtain ⟨ad, hA, x0, x1⟩ := at_T53 (Kd.C_below HT.out.2.2.2.1 HB2.out) (k : Int) (by omega) hltI
        have hdr := drop_rd D k hlt
        simp only [Int.toNat_natCast] at x0 x1
        generalize rd_T53 D (k : Int) = x at *
        have hB' : Below w2.heap.size w2 (wr.alloc (.cells #[.int .i64 x.f0, .int .i64 x.f1] 53)) := HB2.out.alloc HB2.out.size _
        have hR' := Kd.R_below HR.out.1 ((Below.refl wr.heap.size wr).alloc (Nat.le_refl _) (.cells #[.int .i64 x.f0, .int .i64 x.f1] 53))
        have HX := Aside0.mk (And.intro hdr (And.intro hlt (And.intro hR' hB')))
        clear hdr hlt hR' hB'
        subst hA
        cases pb with
        | true =>
          go_wp2_with (at_builtin; refine Kd.R_append (W := (wr.alloc (.cells #[.int .i64 x.f0, .int .i64 x.f1] 53))) k53 (w0 := w2) w2.heap.size rfl (.tmp 69) (.tmp 71) 42 53 (.agg #[(.int .i64 0), (.int .i64 0)]) 16 rfl Try.underlying42 info53 rfl (by decide) (by decide) u7 M x [.int .i64 x.f0, .int .i64 x.f1] (fun _ => True) (fun _ => False) ?e1 ?e2 (k53_mkM _ _ _ _) (fun _ h => h.elim) (fun _ _ => trivial) ?sO ?sB ?sS ?sL ?_; (case e1 => simp [Act.eval, Act.put]); (case e2 => simp [Act.eval, Act.put, World.setCell]); (case sO => exact HX.out.2.2.1); (case sB => exact HX.out.2.2.2); (case sS => exact (HX.out.2.2.2).size); (case sL => have hm := HR.out.2.2; have := HX.out.2.1; have hdd : D.length ≤ L.length := (by rw [← HD.out]; exact drp_le L n); have := HN.out.2.2.2.2.2; (try simp only [List.length_append, List.length_cons, List.length_nil]); (try simp only [Bool.toNat_true, Bool.toNat_false] at hm); omega); intro v1 w3 hR1 hB1 _ _; have HR1 := Aside0.mk hR1; have HB1 := Aside0.mk hB1; clear hR1 hB1)
          exact ⟨⟨k + 1, true, M ++ [x], HX.out.2.1, by congr 1, rfl, ⟨HR1.out, by have h := HR.out.2.1; rw [HX.out.1] at h; unfold rest_ at h ⊢; rw [if_pos rfl] at h ⊢; rw [← h]; simp, by have := HR.out.2.2; simp only [List.length_append, List.length_cons, List.length_nil, Bool.toNat_true, Bool.toNat_false] at this ⊢; omega⟩, HB1⟩, by have := HX.out.2.1; simp only [intOf]; omega⟩
        | false =>
          by_cases h1 : t < x.f1
          · have e1 : decide (t < x.f1) = true := by simpa using h1
            have HA : Aside0 (aft x n t = true) := ⟨by unfold aft; rw [e1]; rfl⟩
            clear h1
            have tok : Aside0 True := ⟨trivial⟩
            go_wp2_with (first | (have _t := tok; at_builtin; refine Kd.R_append (W := (wr.alloc (.cells #[.int .i64 x.f0, .int .i64 x.f1] 53))) k53 (w0 := w2) w2.heap.size rfl (.tmp 63) (.tmp 67) 42 53 (.agg #[(.int .i64 0), (.int .i64 0)]) 16 rfl Try.underlying42 info53 rfl (by decide) (by decide) u7 M ⟨n, t⟩ [.int .i64 n, .int .i64 t] (fun _ => True) (fun _ => False) ?e1 ?e2 (k53_mkM _ _ _ _) (fun _ h => h.elim) (fun _ _ => trivial) ?sO ?sB ?sS ?sL ?_; (case e1 => simp [Act.eval, Act.put]); (case e2 => simp [Act.eval, Act.put, World.setCell]); (case sO => exact HX.out.2.2.1); (case sB => exact HX.out.2.2.2); (case sS => exact (HX.out.2.2.2).size); (case sL => have hm := HR.out.2.2; have := HX.out.2.1; have hdd : D.length ≤ L.length := (by rw [← HD.out]; exact drp_le L n); have := HN.out.2.2.2.2.2; (try simp only [List.length_append, List.length_cons, List.length_nil]); (try simp only [Bool.toNat_true, Bool.toNat_false] at hm); omega); intro v1 w3 hR1 hB1 hg1 _; obtain ⟨y0, y1⟩ := box_row HR.out.1 hg1; have HR1 := Aside0.mk hR1; have HB1 := Aside0.mk hB1; clear hR1 hB1 hg1 tok) | (at_builtin; refine Kd.R_append (W := w3) k53 (w0 := w2) w2.heap.size rfl (.tmp 69) (.tmp 71) 42 53 (.agg #[(.int .i64 0), (.int .i64 0)]) 16 rfl Try.underlying42 info53 rfl (by decide) (by decide) v1 (M ++ [⟨n, t⟩]) x [.int .i64 x.f0, .int .i64 x.f1] (fun _ => True) (fun _ => False) ?e1 ?e2 (k53_mkM _ _ _ _) (fun _ h => h.elim) (fun _ _ => trivial) ?sO ?sB ?sS ?sL ?_; (case e1 => simp [Act.eval, Act.put]); (case e2 => simp [Act.eval, Act.put, World.setCell]); (case sO => exact HR1.out); (case sB => exact HB1.out); (case sS => exact (HB1.out).size); (case sL => have hm := HR.out.2.2; have := HX.out.2.1; have hdd : D.length ≤ L.length := (by rw [← HD.out]; exact drp_le L n); have := HN.out.2.2.2.2.2; (try simp only [List.length_append, List.length_cons, List.length_nil]); (try simp only [Bool.toNat_true, Bool.toNat_false] at hm); omega); intro v2 w4 hR2 hB2 _ _; have HR2 := Aside0.mk hR2; have HB2' := Aside0.mk hB2; clear hR2 hB2))
            exact ⟨⟨k + 1, true, M ++ [⟨n, t⟩] ++ [x], HX.out.2.1, by congr 1, rfl, ⟨HR2.out, by have h := HR.out.2.1; rw [HX.out.1] at h; unfold rest_ at h ⊢; rw [if_neg (by simp), ins_aft HA.out] at h; rw [if_pos rfl, ← h]; simp, by have h := HR.out.2.2; simp only [List.length_append, List.length_cons, List.length_nil, Bool.toNat_true, Bool.toNat_false] at h ⊢; omega⟩, HB2'⟩, by have := HX.out.2.1; simp only [intOf]; omega⟩
          · have e1 : decide (t < x.f1) = false := by simpa using h1
            by_cases h2 : x.f1 = t
            · have e2 : (x.f1 == t) = true := by simpa using h2
              by_cases h3 : n < x.f0
              · have e3 : decide (n < x.f0) = true := by simpa using h3
                have HA : Aside0 (aft x n t = true) := ⟨by unfold aft; rw [e1, e2, e3]; rfl⟩
                clear h1 h2 h3
                have tok : Aside0 True := ⟨trivial⟩
                go_wp2_with (first | (have _t := tok; at_builtin; refine Kd.R_append (W := (wr.alloc (.cells #[.int .i64 x.f0, .int .i64 x.f1] 53))) k53 (w0 := w2) w2.heap.size rfl (.tmp 63) (.tmp 67) 42 53 (.agg #[(.int .i64 0), (.int .i64 0)]) 16 rfl Try.underlying42 info53 rfl (by decide) (by decide) u7 M ⟨n, t⟩ [.int .i64 n, .int .i64 t] (fun _ => True) (fun _ => False) ?e1 ?e2 (k53_mkM _ _ _ _) (fun _ h => h.elim) (fun _ _ => trivial) ?sO ?sB ?sS ?sL ?_; (case e1 => simp [Act.eval, Act.put]); (case e2 => simp [Act.eval, Act.put, World.setCell]); (case sO => exact HX.out.2.2.1); (case sB => exact HX.out.2.2.2); (case sS => exact (HX.out.2.2.2).size); (case sL => have hm := HR.out.2.2; have := HX.out.2.1; have hdd : D.length ≤ L.length := (by rw [← HD.out]; exact drp_le L n); have := HN.out.2.2.2.2.2; (try simp only [List.length_append, List.length_cons, List.length_nil]); (try simp only [Bool.toNat_true, Bool.toNat_false] at hm); omega); intro v1 w3 hR1 hB1 hg1 _; obtain ⟨y0, y1⟩ := box_row HR.out.1 hg1; have HR1 := Aside0.mk hR1; have HB1 := Aside0.mk hB1; clear hR1 hB1 hg1 tok) | (at_builtin; refine Kd.R_append (W := w3) k53 (w0 := w2) w2.heap.size rfl (.tmp 69) (.tmp 71) 42 53 (.agg #[(.int .i64 0), (.int .i64 0)]) 16 rfl Try.underlying42 info53 rfl (by decide) (by decide) v1 (M ++ [⟨n, t⟩]) x [.int .i64 x.f0, .int .i64 x.f1] (fun _ => True) (fun _ => False) ?e1 ?e2 (k53_mkM _ _ _ _) (fun _ h => h.elim) (fun _ _ => trivial) ?sO ?sB ?sS ?sL ?_; (case e1 => simp [Act.eval, Act.put]); (case e2 => simp [Act.eval, Act.put, World.setCell]); (case sO => exact HR1.out); (case sB => exact HB1.out); (case sS => exact (HB1.out).size); (case sL => have hm := HR.out.2.2; have := HX.out.2.1; have hdd : D.length ≤ L.length := (by rw [← HD.out]; exact drp_le L n); have := HN.out.2.2.2.2.2; (try simp only [List.length_append, List.length_cons, List.length_nil]); (try simp only [Bool.toNat_true, Bool.toNat_false] at hm); omega); intro v2 w4 hR2 hB2 _ _; have HR2 := Aside0.mk hR2; have HB2' := Aside0.mk hB2; clear hR2 hB2))
                exact ⟨⟨k + 1, true, M ++ [⟨n, t⟩] ++ [x], HX.out.2.1, by congr 1, rfl, ⟨HR2.out, by have h := HR.out.2.1; rw [HX.out.1] at h; unfold rest_ at h ⊢; rw [if_neg (by simp), ins_aft HA.out] at h; rw [if_pos rfl, ← h]; simp, by have h := HR.out.2.2; simp only [List.length_append, List.length_cons, List.length_nil, Bool.toNat_true, Bool.toNat_false] at h ⊢; omega⟩, HB2'⟩, by have := HX.out.2.1; simp only [intOf]; omega⟩
              · have e3 : decide (n < x.f0) = false := by simpa using h3
                have HA : Aside0 (aft x n t = false) := ⟨by unfold aft; rw [e1, e2, e3]; rfl⟩
                clear h1 h2 h3
                go_wp2_with (at_builtin; refine Kd.R_append (W := (wr.alloc (.cells #[.int .i64 x.f0, .int .i64 x.f1] 53))) k53 (w0 := w2) w2.heap.size rfl (.tmp 69) (.tmp 71) 42 53 (.agg #[(.int .i64 0), (.int .i64 0)]) 16 rfl Try.underlying42 info53 rfl (by decide) (by decide) u7 M x [.int .i64 x.f0, .int .i64 x.f1] (fun _ => True) (fun _ => False) ?e1 ?e2 (k53_mkM _ _ _ _) (fun _ h => h.elim) (fun _ _ => trivial) ?sO ?sB ?sS ?sL ?_; (case e1 => simp [Act.eval, Act.put]); (case e2 => simp [Act.eval, Act.put, World.setCell]); (case sO => exact HX.out.2.2.1); (case sB => exact HX.out.2.2.2); (case sS => exact (HX.out.2.2.2).size); (case sL => have hm := HR.out.2.2; have := HX.out.2.1; have hdd : D.length ≤ L.length := (by rw [← HD.out]; exact drp_le L n); have := HN.out.2.2.2.2.2; (try simp only [List.length_append, List.length_cons, List.length_nil]); (try simp only [Bool.toNat_true, Bool.toNat_false] at hm); omega); intro v1 w3 hR1 hB1 _ _; have HR1 := Aside0.mk hR1; have HB1 := Aside0.mk hB1; clear hR1 hB1)
                exact ⟨⟨k + 1, false, M ++ [x], HX.out.2.1, by congr 1, rfl, ⟨HR1.out, by have h := HR.out.2.1; rw [HX.out.1] at h; unfold rest_ at h ⊢; rw [if_neg (by simp), ins_naft HA.out] at h; rw [if_neg (by simp), ← h]; simp, by have := HR.out.2.2; simp only [List.length_append, List.length_cons, List.length_nil, Bool.toNat_true, Bool.toNat_false] at this ⊢; omega⟩, HB1⟩, by have := HX.out.2.1; simp only [intOf]; omega⟩
            · have e2 : (x.f1 == t) = false := by simpa using h2
              have HA : Aside0 (aft x n t = false) := ⟨by unfold aft; rw [e1, e2]; rfl⟩
              clear h1 h2
              go_wp2_with (at_builtin; refine Kd.R_append (W := (wr.alloc (.cells #[.int .i64 x.f0, .int .i64 x.f1] 53))) k53 (w0 := w2) w2.heap.size rfl (.tmp 69) (.tmp 71) 42 53 (.agg #[(.int .i64 0), (.int .i64 0)]) 16 rfl Try.underlying42 info53 rfl (by decide) (by decide) u7 M x [.int .i64 x.f0, .int .i64 x.f1] (fun _ => True) (fun _ => False) ?e1 ?e2 (k53_mkM _ _ _ _) (fun _ h => h.elim) (fun _ _ => trivial) ?sO ?sB ?sS ?sL ?_; (case e1 => simp [Act.eval, Act.put]); (case e2 => simp [Act.eval, Act.put, World.setCell]); (case sO => exact HX.out.2.2.1); (case sB => exact HX.out.2.2.2); (case sS => exact (HX.out.2.2.2).size); (case sL => have hm := HR.out.2.2; have := HX.out.2.1; have hdd : D.length ≤ L.length := (by rw [← HD.out]; exact drp_le L n); have := HN.out.2.2.2.2.2; (try simp only [List.length_append, List.length_cons, List.length_nil]); (try simp only [Bool.toNat_true, Bool.toNat_false] at hm); omega); intro v1 w3 hR1 hB1 _ _; have HR1 := Aside0.mk hR1; have HB1 := Aside0.mk hB1; clear hR1 hB1)
              exact ⟨⟨k + 1, false, M ++ [x], HX.out.2.1, by congr 1, rfl, ⟨HR1.out, by have h := HR.out.2.1; rw [HX.out.1] at h; unfold rest_ at h ⊢; rw [if_neg (by simp), ins_naft HA.out] at h; rw [if_neg (by simp), ← h]; simp, by have := HR.out.2.2; simp only [List.length_append, List.length_cons, List.length_nil, Bool.toNat_true, Bool.toNat_false] at this ⊢; omega⟩, HB1⟩, by have := HX.out.2.1; simp only [intOf]; omega⟩
      · obtain rfl : k = D.length := by omega
        have hbk := (HB2.out.block q (blk_lt HT.out.2.2.2.2.2)).trans HT.out.2.2.2.2.2
        cases pb with
        | true =>
          have b0 : wr.cell? ⟨q, 0, none⟩ = some (.slice A2 D.length cp2) := (blk_cell hbk 0).trans rfl
          have g0 : wr.frozen? ⟨q, 0, none⟩ = false := blk_frozen hbk 0
          clear hbk
          obtain ⟨A3, c3, rfl⟩ := Kd.R_slice HR.out.1
          have he : M = ins D n t := by have h := HR.out.2.1; rw [List.drop_length] at h; unfold rest_ at h; rw [if_pos rfl] at h; simpa using h
          have HE := Aside0.mk he
          clear he
          go_wp2
          go_ret
          have h := rc_store HT.out.1 HB2.out (Nat.le_trans HN.out.2.2.2.1 (Nat.le_trans HB.out.size HT.out.2.1.size)) HR.out.1 (Nat.le_refl _)
          refine ⟨rfl, ?_⟩
          unfold put
          rw [HD.out, ← HE.out]
          exact Thn.after HB.out (Thn.trans HT.out.2.1 HT.out.2.2.1 h)
        | false =>
          have HK := Aside0.mk hbk
          clear hbk
          go_wp2_with (at_builtin; refine Kd.R_append (W := wr) k53 (w0 := w2) w2.heap.size rfl (.tmp 76) (.tmp 80) 42 53 (.agg #[(.int .i64 0), (.int .i64 0)]) 16 rfl Try.underlying42 info53 rfl (by decide) (by decide) u7 M ⟨n, t⟩ [.int .i64 n, .int .i64 t] (fun _ => True) (fun _ => False) ?e1 ?e2 (k53_mkM _ _ _ _) (fun _ h => h.elim) (fun _ _ => trivial) ?sO ?sB ?sS ?sL ?_; (case e1 => simp [Act.eval, Act.put]); (case e2 => simp [Act.eval, Act.put, World.setCell]); (case sO => exact HR.out.1); (case sB => exact HB2.out); (case sS => exact (HB2.out).size); (case sL => have hm := HR.out.2.2; have := drp_le L n; have := HN.out.2.2.2.2.2; have := HD.out; have hdd : D.length ≤ L.length := (by rw [← HD.out]; exact drp_le L n); (try simp only [List.length_append, List.length_cons, List.length_nil]); (try simp only [Bool.toNat_true, Bool.toNat_false] at hm); omega); intro v1 w3 hR1 hB1 hg1 _; obtain ⟨A3, c3, rfl⟩ := Kd.R_slice hR1; have b0 : w3.cell? ⟨q, 0, none⟩ = some (.slice A2 D.length cp2) := (blk_cell ((hB1.block q (blk_lt HT.out.2.2.2.2.2)).trans HT.out.2.2.2.2.2) 0).trans rfl; have g0 : w3.frozen? ⟨q, 0, none⟩ = false := blk_frozen ((hB1.block q (blk_lt HT.out.2.2.2.2.2)).trans HT.out.2.2.2.2.2) 0; have HR1 := Aside0.mk hR1; have HB1 := Aside0.mk hB1; clear hR1 hB1 hg1)
          go_ret
          have he : M ++ [⟨n, t⟩] = ins D n t := by have h := HR.out.2.1; rw [List.drop_length] at h; unfold rest_ at h; rw [if_neg (by simp)] at h; exact h
          have h := rc_store HT.out.1 HB1.out (Nat.le_trans HN.out.2.2.2.1 (Nat.le_trans HB.out.size HT.out.2.1.size)) HR1.out (Nat.le_refl _)
          rw [List.length_append] at h
          refine ⟨rfl, ?_⟩
          unfold put
          rw [HD.out, ← he]
          exact Thn.after HB.out (Thn.trans HT.out.2.1 HT.out.2.2.1 h)
  · have d1 : decide (fnd L n < 0) = false := by simpa using hf
    clear hf
    go_enter Try.func16, Try.ntmps16
    go_wp2_with (first | (go_at_call 26; refine (rbig_calls _ _).mono ?_; rintro e w' ⟨rfl, rfl⟩; first | rw [HN.out.1] | rw [HN.out.2.1]) | (go_at_call 20; refine (find_calls B q o L n _ HN.out.2.2.1 (by have := HN.out.2.2.2.2.2; omega)).mono ?_; rintro e w1 ⟨rfl, hb⟩; obtain ⟨A, cp, c0, _⟩ := rc_cell HN.out.2.2.1 hb; have HB := Aside0.mk hb; clear hb) | (go_at_call 27; refine (drop_calls B q o L n _ (HN.out.2.2.1.below HB.out) (by have := HN.out.2.2.2.2.2; omega) (Nat.le_trans HN.out.2.2.2.1 HB.out.size)).mono ?_; rintro e w2 ⟨rfl, hT⟩; obtain ⟨o2, hrc, hkp, ho2⟩ := hT; obtain ⟨A2, cp2, f1, f2, f3, f4, f5⟩ := hrc.open_; have c2 : w2.cell? ⟨q, 0, none⟩ = some (.slice A2 (drp L n).length cp2) := (blk_cell f2 0).trans rfl; obtain ⟨_, hlc, hC⟩ := Kd.R_reads' f5; have HT := Aside0.mk (And.intro hrc (And.intro hkp (And.intro ho2 (And.intro hC (And.intro hlc f2))))); have hml : ((drp L n).length : Int) ≤ 256 := (by have := drp_le L n; have := HN.out.2.2.2.2.2; omega); clear hrc hkp ho2 f1 f2 f3 f4 f5 hlc hC))
    generalize hDD : drp L n = D at *
    have HD := Aside0.mk hDD
    clear hDD
    go_loopw [7, 8, 39] (fun ov pv i wr => ∃ (k : Nat) (pb : Bool) (M : List S53), k ≤ D.length ∧ i = .int .i64 k ∧ pv = .bool pb ∧ Aside0 (Kd.R k53 53 wr w2.heap.size (fun _ => True) ov M ∧ M ++ rest_ pb (D.drop k) n t = ins D n t ∧ M.length ≤ k + pb.toNat) ∧ Aside0 (Below w2.heap.size w2 wr)) (fun _ _ i _ => D.length - (intOf i).toNat)
    case atStart => exact ⟨0, false, [], Nat.zero_le _, rfl, rfl, ⟨Kd.R_nil _ _ _ _ _, by simp [rest_], by simp⟩, ⟨Below.refl _ _⟩⟩
    case round =>
      obtain ⟨k, pb, M, hk, rfl, rfl, HR, HB2⟩ := hrel
      by_cases hlt : k < D.length
      · have hltI : (k : Int) < (D.length : Int) := by omega
        obtain ⟨ad, hA, x0, x1⟩ := at_T53 (Kd.C_below HT.out.2.2.2.1 HB2.out) (k : Int) (by omega) hltI
        have hdr := drop_rd D k hlt
        simp only [Int.toNat_natCast] at x0 x1
        generalize rd_T53 D (k : Int) = x at *
        have hB' : Below w2.heap.size w2 (wr.alloc (.cells #[.int .i64 x.f0, .int .i64 x.f1] 53)) := HB2.out.alloc HB2.out.size _
        have hR' := Kd.R_below HR.out.1 ((Below.refl wr.heap.size wr).alloc (Nat.le_refl _) (.cells #[.int .i64 x.f0, .int .i64 x.f1] 53))
        have HX := Aside0.mk (And.intro hdr (And.intro hlt (And.intro hR' hB')))
        clear hdr hlt hR' hB'
        subst hA
        cases pb with
        | true =>
          go_wp2_with (at_builtin; refine Kd.R_append (W := (wr.alloc (.cells #[.int .i64 x.f0, .int .i64 x.f1] 53))) k53 (w0 := w2) w2.heap.size rfl (.tmp 69) (.tmp 71) 42 53 (.agg #[(.int .i64 0), (.int .i64 0)]) 16 rfl Try.underlying42 info53 rfl (by decide) (by decide) u7 M x [.int .i64 x.f0, .int .i64 x.f1] (fun _ => True) (fun _ => False) ?e1 ?e2 (k53_mkM _ _ _ _) (fun _ h => h.elim) (fun _ _ => trivial) ?sO ?sB ?sS ?sL ?_; (case e1 => simp [Act.eval, Act.put]); (case e2 => simp [Act.eval, Act.put, World.setCell]); (case sO => exact HX.out.2.2.1); (case sB => exact HX.out.2.2.2); (case sS => exact (HX.out.2.2.2).size); (case sL => have hm := HR.out.2.2; have := HX.out.2.1; have hdd : D.length ≤ L.length := (by rw [← HD.out]; exact drp_le L n); have := HN.out.2.2.2.2.2; (try simp only [List.length_append, List.length_cons, List.length_nil]); (try simp only [Bool.toNat_true, Bool.toNat_false] at hm); omega); intro v1 w3 hR1 hB1 _ _; have HR1 := Aside0.mk hR1; have HB1 := Aside0.mk hB1; clear hR1 hB1)
          exact ⟨⟨k + 1, true, M ++ [x], HX.out.2.1, by congr 1, rfl, ⟨HR1.out, by have h := HR.out.2.1; rw [HX.out.1] at h; unfold rest_ at h ⊢; rw [if_pos rfl] at h ⊢; rw [← h]; simp, by have := HR.out.2.2; simp only [List.length_append, List.length_cons, List.length_nil, Bool.toNat_true, Bool.toNat_false] at this ⊢; omega⟩, HB1⟩, by have := HX.out.2.1; simp only [intOf]; omega⟩
        | false =>
          by_cases h1 : t < x.f1
          · have e1 : decide (t < x.f1) = true := by simpa using h1
            have HA : Aside0 (aft x n t = true) := ⟨by unfold aft; rw [e1]; rfl⟩
            clear h1
            have tok : Aside0 True := ⟨trivial⟩
            go_wp2_with (first | (have _t := tok; at_builtin; refine Kd.R_append (W := (wr.alloc (.cells #[.int .i64 x.f0, .int .i64 x.f1] 53))) k53 (w0 := w2) w2.heap.size rfl (.tmp 63) (.tmp 67) 42 53 (.agg #[(.int .i64 0), (.int .i64 0)]) 16 rfl Try.underlying42 info53 rfl (by decide) (by decide) u7 M ⟨n, t⟩ [.int .i64 n, .int .i64 t] (fun _ => True) (fun _ => False) ?e1 ?e2 (k53_mkM _ _ _ _) (fun _ h => h.elim) (fun _ _ => trivial) ?sO ?sB ?sS ?sL ?_; (case e1 => simp [Act.eval, Act.put]); (case e2 => simp [Act.eval, Act.put, World.setCell]); (case sO => exact HX.out.2.2.1); (case sB => exact HX.out.2.2.2); (case sS => exact (HX.out.2.2.2).size); (case sL => have hm := HR.out.2.2; have := HX.out.2.1; have hdd : D.length ≤ L.length := (by rw [← HD.out]; exact drp_le L n); have := HN.out.2.2.2.2.2; (try simp only [List.length_append, List.length_cons, List.length_nil]); (try simp only [Bool.toNat_true, Bool.toNat_false] at hm); omega); intro v1 w3 hR1 hB1 hg1 _; obtain ⟨y0, y1⟩ := box_row HR.out.1 hg1; have HR1 := Aside0.mk hR1; have HB1 := Aside0.mk hB1; clear hR1 hB1 hg1 tok) | (at_builtin; refine Kd.R_append (W := w3) k53 (w0 := w2) w2.heap.size rfl (.tmp 69) (.tmp 71) 42 53 (.agg #[(.int .i64 0), (.int .i64 0)]) 16 rfl Try.underlying42 info53 rfl (by decide) (by decide) v1 (M ++ [⟨n, t⟩]) x [.int .i64 x.f0, .int .i64 x.f1] (fun _ => True) (fun _ => False) ?e1 ?e2 (k53_mkM _ _ _ _) (fun _ h => h.elim) (fun _ _ => trivial) ?sO ?sB ?sS ?sL ?_; (case e1 => simp [Act.eval, Act.put]); (case e2 => simp [Act.eval, Act.put, World.setCell]); (case sO => exact HR1.out); (case sB => exact HB1.out); (case sS => exact (HB1.out).size); (case sL => have hm := HR.out.2.2; have := HX.out.2.1; have hdd : D.length ≤ L.length := (by rw [← HD.out]; exact drp_le L n); have := HN.out.2.2.2.2.2; (try simp only [List.length_append, List.length_cons, List.length_nil]); (try simp only [Bool.toNat_true, Bool.toNat_false] at hm); omega); intro v2 w4 hR2 hB2 _ _; have HR2 := Aside0.mk hR2; have HB2' := Aside0.mk hB2; clear hR2 hB2))
            exact ⟨⟨k + 1, true, M ++ [⟨n, t⟩] ++ [x], HX.out.2.1, by congr 1, rfl, ⟨HR2.out, by have h := HR.out.2.1; rw [HX.out.1] at h; unfold rest_ at h ⊢; rw [if_neg (by simp), ins_aft HA.out] at h; rw [if_pos rfl, ← h]; simp, by have h := HR.out.2.2; simp only [List.length_append, List.length_cons, List.length_nil, Bool.toNat_true, Bool.toNat_false] at h ⊢; omega⟩, HB2'⟩, by have := HX.out.2.1; simp only [intOf]; omega⟩
          · have e1 : decide (t < x.f1) = false := by simpa using h1
            by_cases h2 : x.f1 = t
            · have e2 : (x.f1 == t) = true := by simpa using h2
              by_cases h3 : n < x.f0
              · have e3 : decide (n < x.f0) = true := by simpa using h3
                have HA : Aside0 (aft x n t = true) := ⟨by unfold aft; rw [e1, e2, e3]; rfl⟩
                clear h1 h2 h3
                have tok : Aside0 True := ⟨trivial⟩
                go_wp2_with (first | (have _t := tok; at_builtin; refine Kd.R_append (W := (wr.alloc (.cells #[.int .i64 x.f0, .int .i64 x.f1] 53))) k53 (w0 := w2) w2.heap.size rfl (.tmp 63) (.tmp 67) 42 53 (.agg #[(.int .i64 0), (.int .i64 0)]) 16 rfl Try.underlying42 info53 rfl (by decide) (by decide) u7 M ⟨n, t⟩ [.int .i64 n, .int .i64 t] (fun _ => True) (fun _ => False) ?e1 ?e2 (k53_mkM _ _ _ _) (fun _ h => h.elim) (fun _ _ => trivial) ?sO ?sB ?sS ?sL ?_; (case e1 => simp [Act.eval, Act.put]); (case e2 => simp [Act.eval, Act.put, World.setCell]); (case sO => exact HX.out.2.2.1); (case sB => exact HX.out.2.2.2); (case sS => exact (HX.out.2.2.2).size); (case sL => have hm := HR.out.2.2; have := HX.out.2.1; have hdd : D.length ≤ L.length := (by rw [← HD.out]; exact drp_le L n); have := HN.out.2.2.2.2.2; (try simp only [List.length_append, List.length_cons, List.length_nil]); (try simp only [Bool.toNat_true, Bool.toNat_false] at hm); omega); intro v1 w3 hR1 hB1 hg1 _; obtain ⟨y0, y1⟩ := box_row HR.out.1 hg1; have HR1 := Aside0.mk hR1; have HB1 := Aside0.mk hB1; clear hR1 hB1 hg1 tok) | (at_builtin; refine Kd.R_append (W := w3) k53 (w0 := w2) w2.heap.size rfl (.tmp 69) (.tmp 71) 42 53 (.agg #[(.int .i64 0), (.int .i64 0)]) 16 rfl Try.underlying42 info53 rfl (by decide) (by decide) v1 (M ++ [⟨n, t⟩]) x [.int .i64 x.f0, .int .i64 x.f1] (fun _ => True) (fun _ => False) ?e1 ?e2 (k53_mkM _ _ _ _) (fun _ h => h.elim) (fun _ _ => trivial) ?sO ?sB ?sS ?sL ?_; (case e1 => simp [Act.eval, Act.put]); (case e2 => simp [Act.eval, Act.put, World.setCell]); (case sO => exact HR1.out); (case sB => exact HB1.out); (case sS => exact (HB1.out).size); (case sL => have hm := HR.out.2.2; have := HX.out.2.1; have hdd : D.length ≤ L.length := (by rw [← HD.out]; exact drp_le L n); have := HN.out.2.2.2.2.2; (try simp only [List.length_append, List.length_cons, List.length_nil]); (try simp only [Bool.toNat_true, Bool.toNat_false] at hm); omega); intro v2 w4 hR2 hB2 _ _; have HR2 := Aside0.mk hR2; have HB2' := Aside0.mk hB2; clear hR2 hB2))
                exact ⟨⟨k + 1, true, M ++ [⟨n, t⟩] ++ [x], HX.out.2.1, by congr 1, rfl, ⟨HR2.out, by have h := HR.out.2.1; rw [HX.out.1] at h; unfold rest_ at h ⊢; rw [if_neg (by simp), ins_aft HA.out] at h; rw [if_pos rfl, ← h]; simp, by have h := HR.out.2.2; simp only [List.length_append, List.length_cons, List.length_nil, Bool.toNat_true, Bool.toNat_false] at h ⊢; omega⟩, HB2'⟩, by have := HX.out.2.1; simp only [intOf]; omega⟩
              · have e3 : decide (n < x.f0) = false := by simpa using h3
                have HA : Aside0 (aft x n t = false) := ⟨by unfold aft; rw [e1, e2, e3]; rfl⟩
                clear h1 h2 h3
                go_wp2_with (at_builtin; refine Kd.R_append (W := (wr.alloc (.cells #[.int .i64 x.f0, .int .i64 x.f1] 53))) k53 (w0 := w2) w2.heap.size rfl (.tmp 69) (.tmp 71) 42 53 (.agg #[(.int .i64 0), (.int .i64 0)]) 16 rfl Try.underlying42 info53 rfl (by decide) (by decide) u7 M x [.int .i64 x.f0, .int .i64 x.f1] (fun _ => True) (fun _ => False) ?e1 ?e2 (k53_mkM _ _ _ _) (fun _ h => h.elim) (fun _ _ => trivial) ?sO ?sB ?sS ?sL ?_; (case e1 => simp [Act.eval, Act.put]); (case e2 => simp [Act.eval, Act.put, World.setCell]); (case sO => exact HX.out.2.2.1); (case sB => exact HX.out.2.2.2); (case sS => exact (HX.out.2.2.2).size); (case sL => have hm := HR.out.2.2; have := HX.out.2.1; have hdd : D.length ≤ L.length := (by rw [← HD.out]; exact drp_le L n); have := HN.out.2.2.2.2.2; (try simp only [List.length_append, List.length_cons, List.length_nil]); (try simp only [Bool.toNat_true, Bool.toNat_false] at hm); omega); intro v1 w3 hR1 hB1 _ _; have HR1 := Aside0.mk hR1; have HB1 := Aside0.mk hB1; clear hR1 hB1)
                exact ⟨⟨k + 1, false, M ++ [x], HX.out.2.1, by congr 1, rfl, ⟨HR1.out, by have h := HR.out.2.1; rw [HX.out.1] at h; unfold rest_ at h ⊢; rw [if_neg (by simp), ins_naft HA.out] at h; rw [if_neg (by simp), ← h]; simp, by have := HR.out.2.2; simp only [List.length_append, List.length_cons, List.length_nil, Bool.toNat_true, Bool.toNat_false] at this ⊢; omega⟩, HB1⟩, by have := HX.out.2.1; simp only [intOf]; omega⟩
            · have e2 : (x.f1 == t) = false := by simpa using h2
              have HA : Aside0 (aft x n t = false) := ⟨by unfold aft; rw [e1, e2]; rfl⟩
              clear h1 h2
              go_wp2_with (at_builtin; refine Kd.R_append (W := (wr.alloc (.cells #[.int .i64 x.f0, .int .i64 x.f1] 53))) k53 (w0 := w2) w2.heap.size rfl (.tmp 69) (.tmp 71) 42 53 (.agg #[(.int .i64 0), (.int .i64 0)]) 16 rfl Try.underlying42 info53 rfl (by decide) (by decide) u7 M x [.int .i64 x.f0, .int .i64 x.f1] (fun _ => True) (fun _ => False) ?e1 ?e2 (k53_mkM _ _ _ _) (fun _ h => h.elim) (fun _ _ => trivial) ?sO ?sB ?sS ?sL ?_; (case e1 => simp [Act.eval, Act.put]); (case e2 => simp [Act.eval, Act.put, World.setCell]); (case sO => exact HX.out.2.2.1); (case sB => exact HX.out.2.2.2); (case sS => exact (HX.out.2.2.2).size); (case sL => have hm := HR.out.2.2; have := HX.out.2.1; have hdd : D.length ≤ L.length := (by rw [← HD.out]; exact drp_le L n); have := HN.out.2.2.2.2.2; (try simp only [List.length_append, List.length_cons, List.length_nil]); (try simp only [Bool.toNat_true, Bool.toNat_false] at hm); omega); intro v1 w3 hR1 hB1 _ _; have HR1 := Aside0.mk hR1; have HB1 := Aside0.mk hB1; clear hR1 hB1)
              exact ⟨⟨k + 1, false, M ++ [x], HX.out.2.1, by congr 1, rfl, ⟨HR1.out, by have h := HR.out.2.1; rw [HX.out.1] at h; unfold rest_ at h ⊢; rw [if_neg (by simp), ins_naft HA.out] at h; rw [if_neg (by simp), ← h]; simp, by have := HR.out.2.2; simp only [List.length_append, List.length_cons, List.length_nil, Bool.toNat_true, Bool.toNat_false] at this ⊢; omega⟩, HB1⟩, by have := HX.out.2.1; simp only [intOf]; omega⟩
      · obtain rfl : k = D.length := by omega
        have hbk := (HB2.out.block q (blk_lt HT.out.2.2.2.2.2)).trans HT.out.2.2.2.2.2
        cases pb with
        | true =>
          have b0 : wr.cell? ⟨q, 0, none⟩ = some (.slice A2 D.length cp2) := (blk_cell hbk 0).trans rfl
          have g0 : wr.frozen? ⟨q, 0, none⟩ = false := blk_frozen hbk 0
          clear hbk
          obtain ⟨A3, c3, rfl⟩ := Kd.R_slice HR.out.1
          have he : M = ins D n t := by have h := HR.out.2.1; rw [List.drop_length] at h; unfold rest_ at h; rw [if_pos rfl] at h; simpa using h
          have HE := Aside0.mk he
          clear he
          go_wp2
          go_ret
          have h := rc_store HT.out.1 HB2.out (Nat.le_trans HN.out.2.2.2.1 (Nat.le_trans HB.out.size HT.out.2.1.size)) HR.out.1 (Nat.le_refl _)
          refine ⟨rfl, ?_⟩
          unfold put
          rw [HD.out, ← HE.out]
          exact Thn.after HB.out (Thn.trans HT.out.2.1 HT.out.2.2.1 h)
        | false =>
          have HK := Aside0.mk hbk
          clear hbk
          go_wp2_with (at_builtin; refine Kd.R_append (W := wr) k53 (w0 := w2) w2.heap.size rfl (.tmp 76) (.tmp 80) 42 53 (.agg #[(.int .i64 0), (.int .i64 0)]) 16 rfl Try.underlying42 info53 rfl (by decide) (by decide) u7 M ⟨n, t⟩ [.int .i64 n, .int .i64 t] (fun _ => True) (fun _ => False) ?e1 ?e2 (k53_mkM _ _ _ _) (fun _ h => h.elim) (fun _ _ => trivial) ?sO ?sB ?sS ?sL ?_; (case e1 => simp [Act.eval, Act.put]); (case e2 => simp [Act.eval, Act.put, World.setCell]); (case sO => exact HR.out.1); (case sB => exact HB2.out); (case sS => exact (HB2.out).size); (case sL => have hm := HR.out.2.2; have := drp_le L n; have := HN.out.2.2.2.2.2; have := HD.out; have hdd : D.length ≤ L.length := (by rw [← HD.out]; exact drp_le L n); (try simp only [List.length_append, List.length_cons, List.length_nil]); (try simp only [Bool.toNat_true, Bool.toNat_false] at hm); omega); intro v1 w3 hR1 hB1 hg1 _; obtain ⟨A3, c3, rfl⟩ := Kd.R_slice hR1; have b0 : w3.cell? ⟨q, 0, none⟩ = some (.slice A2 D.length cp2) := (blk_cell ((hB1.block q (blk_lt HT.out.2.2.2.2.2)).trans HT.out.2.2.2.2.2) 0).trans rfl; have g0 : w3.frozen? ⟨q, 0, none⟩ = false := blk_frozen ((hB1.block q (blk_lt HT.out.2.2.2.2.2)).trans HT.out.2.2.2.2.2) 0; have HR1 := Aside0.mk hR1; have HB1 := Aside0.mk hB1; clear hR1 hB1 hg1)
          go_ret
          have he : M ++ [⟨n, t⟩] = ins D n t := by have h := HR.out.2.1; rw [List.drop_length] at h; unfold rest_ at h; rw [if_neg (by simp)] at h; exact h
          have h := rc_store HT.out.1 HB1.out (Nat.le_trans HN.out.2.2.2.1 (Nat.le_trans HB.out.size HT.out.2.1.size)) HR1.out (Nat.le_refl _)
          rw [List.length_append] at h
          refine ⟨rfl, ?_⟩
          unfold put
          rw [HD.out, ← he]
          exact Thn.after HB.out (Thn.trans HT.out.2.1 HT.out.2.2.1 h)
end Go.Proofs.Ytnenheaijacphaa.PAlarm
