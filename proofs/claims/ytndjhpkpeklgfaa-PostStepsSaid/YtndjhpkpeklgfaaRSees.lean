/- The reference's See and Send: at letters in order they are the post's. -/
import Derived.Test.YtndjhpkpeklgfaaRAdds
import Derived.Test.YtndjhpkpeklgfaaSorted
import Derived.Test.YtndjhpkpeklgfaaTrioCalls
namespace Go.Proofs.Ytndjhpkpeklgfaa.PPost
open Go Go.RowKit Go.Proofs.YtndjhpkpeklgfaaW.PrintWords Go.Proofs.YtndjhpkpeklgfaaW.PrintLast Go.Proofs.YtndjhpkpeklgfaaW.PrintMore Go.Proofs.Ytndjhpkpeklgfaa.Sl
set_option linter.unusedVariables false
set_option linter.unusedSimpArgs false
set_option maxHeartbeats 4000000 in
set_option maxRecDepth 100000 in
theorem rsee_calls (B p : Nat) (o : Option Nat) (nodes last : Int) (l : List S52) (n : Int) (w : World) (H : Po 51 52 w B p o nodes last l) (U : Up l) (hl : l.length ≤ 2048) :
    Calls Try.prog 28 #[.pointer (some ⟨p, 0, none⟩), .int .i64 n] w fun e w' => e = .returned (.tuple #[.agg #[.int .i64 (see l n).1.f0, .int .i64 (see l n).1.f1, .int .i64 (see l n).1.f2, .string (see l n).1.f3], .int .i64 (see l n).2]) ∧ Below w.heap.size w w' := by
  have hu52 := Try.underlying52
  obtain ⟨A, cp, f1, f2, f3, f4, f5⟩ := H.open_
  obtain ⟨_, hlc, hC⟩ := Kd.R_reads' f5
  have HH := Aside0.mk (And.intro hC (And.intro U f2))
  have hm : (l.length : Int) ≤ 2048 := by omega
  clear H hl f1 f2 f3 f4 f5 hlc hC U
  go_enter Try.func28, Try.ntmps28
  go_wp2_with (first | (((with_reducible refine gate_dst (N := 4) rfl ?_); (try (refine gate_guard (by rfl) ?_; dsimp only)); refine box_event ?hg (N := 4) ?hd (cs := #[.int .i64 0, .int .i64 0, .int .i64 0, .string ⟨#[]⟩]) (t := 52) ?hr ?_; (case hd => rfl); (case hg => rfl); (case hr => first | (go_simp; done) | (go_simp; rfl)); intro gb hg w3 hbox hb; have HX := Aside0.mk (And.intro hg (And.intro hbox hb)); clear hg hbox hb); obtain ⟨_, c0, c1, c2, _, _, _⟩ := po_cells HH.out.2.2 HX.out.2.2))
  go_loopw [13] (fun i wr => ∃ k : Nat, k ≤ l.length ∧ i = .int .i64 k ∧ Aside0 (∀ j : Nat, j < k → (rd_T52 l (j : Int)).f0 ≠ n) ∧ Aside0 (Below w3.heap.size w3 wr)) (fun i _ => l.length - (intOf i).toNat)
  case atStart => exact ⟨0, Nat.zero_le _, rfl, ⟨fun j h => absurd h (by omega)⟩, ⟨Below.refl _ _⟩⟩
  case round =>
    obtain ⟨k, hk, rfl, HQ, HB⟩ := hrel
    have hbw := HX.out.2.2.trans (HB.out.mono HX.out.2.2.size)
    by_cases hlt : k < l.length
    · have hltI : (k : Int) < (l.length : Int) := by omega
      obtain ⟨ad, hA, x0, x1, x2, x3⟩ := at_T52 (Kd.C_below HH.out.1 hbw) (k : Int) (by omega) hltI
      simp only [Int.toNat_natCast] at x0 x1 x2 x3
      obtain ⟨x, hx⟩ : ∃ x, x = rd_T52 l (k : Int) := ⟨_, rfl⟩
      rw [← hx] at x0 x1 x2 x3
      have hse := see_at HH.out.2.1 hlt
      rw [← hx] at hse
      by_cases hxn : x.f0 = n
      · have d0 : (x.f0 == n) = true := by simp [hxn]
        rw [hxn] at hse
        have HN := Aside0.mk hse
        clear hse hxn hx hlt hbw
        subst hA
        go_wp2_with (first | ((with_reducible refine gate_dst (N := 7) rfl ?_); (try (refine gate_guard (by rfl) ?_; dsimp only)); refine box_event ?hg (N := 7) ?hd (cs := #[.int .i64 0, .int .i64 0, .int .i64 0, .string ⟨#[]⟩]) (t := 52) ?hr ?_; (case hd => rfl); (case hg => rfl); (case hr => first | (go_simp; done) | (go_simp; rfl)); intro gc hg w5 hbox hb; have hgb := (hb.block gb (by have := HX.out.1; have := HB.out.size; have := (blk_lt HX.out.2.1); omega)).trans ((HB.out.block gb (blk_lt HX.out.2.1)).trans HX.out.2.1); obtain ⟨g0, g1, g2, g3, e0, e1, e2, e3⟩ := box_cells hgb; obtain ⟨h0, h1, h2, h3, m0, m1, m2, m3⟩ := box_cells hbox; have hn1 : ¬ gb = gc := (by have := HB.out.size; have := (blk_lt HX.out.2.1); omega); have hn2 : ¬ gc = gb := (fun h => hn1 h.symm); have HY := Aside0.mk (And.intro hgb (And.intro (HB.out.trans (hb.mono HB.out.size)) (show w3.heap.size ≤ gc by have := HB.out.size; omega))); clear hg hbox hb hgb))
        refine bodyPost_ret (results_ct rfl _ _ gb 52 (let4 x) (0, 0) _ rfl (put4 ((far4 w5 hn1 (.int .i64 x.f0) (.int .i64 x.f1) (.int .i64 x.f2) (.string x.f3)).trans HY.out.1) _ _ _ _) Try.underlying52 rfl size52) rfl ?_
        rw [HN.out]
        refine ⟨rfl, ?_⟩
        have hz := HY.out.2.1
        exact below4 (below4 (HX.out.2.2.trans (hz.mono HX.out.2.2.size)) (g := gc) (by have := HY.out.2.2; have := HX.out.2.2.size; omega) _ _ _ _) (g := gb) (by have := HX.out.1; omega) _ _ _ _
      · have d0 : (x.f0 == n) = false := by simpa using hxn
        have HN := Aside0.mk (And.intro hlt (show ∀ j : Nat, j < k + 1 → (rd_T52 l (j : Int)).f0 ≠ n from fun j hj => by
          by_cases e : j = k
          · rw [e, ← hx]; exact hxn
          · exact HQ.out j (by omega)))
        clear hse hxn hx hlt hbw
        subst hA
        go_wp2_with (first | ((with_reducible refine gate_dst (N := 7) rfl ?_); (try (refine gate_guard (by rfl) ?_; dsimp only)); refine box_event ?hg (N := 7) ?hd (cs := #[.int .i64 0, .int .i64 0, .int .i64 0, .string ⟨#[]⟩]) (t := 52) ?hr ?_; (case hd => rfl); (case hg => rfl); (case hr => first | (go_simp; done) | (go_simp; rfl)); intro gc hg w5 hbox hb; have hgb := (hb.block gb (by have := HX.out.1; have := HB.out.size; have := (blk_lt HX.out.2.1); omega)).trans ((HB.out.block gb (blk_lt HX.out.2.1)).trans HX.out.2.1); obtain ⟨g0, g1, g2, g3, e0, e1, e2, e3⟩ := box_cells hgb; obtain ⟨h0, h1, h2, h3, m0, m1, m2, m3⟩ := box_cells hbox; have hn1 : ¬ gb = gc := (by have := HB.out.size; have := (blk_lt HX.out.2.1); omega); have hn2 : ¬ gc = gb := (fun h => hn1 h.symm); have HY := Aside0.mk (And.intro hgb (And.intro (HB.out.trans (hb.mono HB.out.size)) (show w3.heap.size ≤ gc by have := HB.out.size; omega))); clear hg hbox hb hgb))
        exact ⟨⟨k + 1, HN.out.1, by congr 1, ⟨HN.out.2⟩, ⟨below4 HY.out.2.1 (g := gc) HY.out.2.2 _ _ _ _⟩⟩, by have := HN.out.1; simp only [intOf]; omega⟩
    · obtain rfl : k = l.length := by omega
      have hse : see l n = (z52, 6) := see_not (there_no HQ.out)
      have hgb := (HB.out.block gb (blk_lt HX.out.2.1)).trans HX.out.2.1
      obtain ⟨g0, g1, g2, g3, e0, e1, e2, e3⟩ := box_cells hgb
      have HN := Aside0.mk (And.intro hse (And.intro hgb hbw))
      clear hse hlt hk hgb hbw
      go_wp2
      refine bodyPost_ret (results_ct rfl _ _ gb 52 #[.int .i64 0, .int .i64 0, .int .i64 0, .string ⟨#[]⟩] (0, 0) _ rfl (put4 HN.out.2.1 _ _ _ _) Try.underlying52 rfl size52) rfl ?_
      rw [HN.out.1]
      exact ⟨rfl, below4 HN.out.2.2 (g := gb) (by have := HX.out.1; omega) _ _ _ _⟩
end Go.Proofs.Ytndjhpkpeklgfaa.PPost
