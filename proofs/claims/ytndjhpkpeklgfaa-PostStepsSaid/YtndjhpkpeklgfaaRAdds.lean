/- The reference's New, add: what is answered, what the post is behind it. -/
import Derived.Test.YtndjhpkpeklgfaaAdds
import Derived.Deep.RegionLaw
namespace Go.Proofs.Ytndjhpkpeklgfaa.PPost
open Go Go.RowKit Go.Proofs.YtndjhpkpeklgfaaW.PrintWords Go.Proofs.YtndjhpkpeklgfaaW.PrintLast Go.Proofs.YtndjhpkpeklgfaaW.PrintMore Go.Proofs.Ytndjhpkpeklgfaa.Sl
set_option linter.unusedVariables false
set_option linter.unusedSimpArgs false

theorem rnew_bad (n : Int) (w : World) (h : n < 1 ∨ 32 < n) : Calls Try.prog 16 #[.int .i64 n] w fun e w' => e = .returned (.tuple #[.pointer none, .int .i64 1]) ∧ Below w.heap.size w w' := by
  rcases h with h | h
  · go_enter Try.func16, Try.ntmps16
    go_wp2
    go_ret2
    exact ⟨rfl, Below.refl _ _⟩
  · have h1 : ¬ n < 1 := by omega
    go_enter Try.func16, Try.ntmps16
    go_wp2
    go_ret2
    exact ⟨rfl, Below.refl _ _⟩
theorem rnew_ok (n : Int) (w : World) (h1 : 1 ≤ n) (h2 : n ≤ 32) : Calls Try.prog 16 #[.int .i64 n] w fun e w' => ∃ p, e = .returned (.tuple #[.pointer (some ⟨p, 0, none⟩), .int .i64 0]) ∧ Po 51 52 w' w.heap.size p none n 0 [] ∧ Below w.heap.size w w' := by
  go_enter Try.func16, Try.ntmps16
  go_wp2
  go_ret2
  exact ⟨w.heap.size, rfl, po_new 51 52 w n, (Below.refl _ w).alloc (Nat.le_refl _) _⟩
set_option maxHeartbeats 4000000 in
theorem radd_full (B p : Nat) (o : Option Nat) (nodes last : Int) (l : List S52) (x : S52) (w : World) (H : Po 51 52 w B p o nodes last l) (hl : l.length = 2048) :
    Calls Try.prog 33 #[.pointer (some ⟨p, 0, none⟩), .agg #[.int .i64 x.f0, .int .i64 x.f1, .int .i64 x.f2, .string x.f3]] w fun e w' => e = .returned (.tuple #[.int .i64 0, .int .i64 5]) ∧ Below w.heap.size w w' := by
  have hu52 := Try.underlying52
  obtain ⟨v, h1, h2, h3, h4, h5⟩ := H
  obtain ⟨A, c, rfl⟩ := Kd.R_slice h5
  rw [hl] at h2
  have H2 := Aside0.mk h2
  clear h1 h3 h4 h5 h2
  go_enter Try.func33, Try.ntmps33
  go_wp2_with ((with_reducible refine gate_dst (N := 3) rfl ?_); (try (refine gate_guard (by rfl) ?_; dsimp only)); refine box_event ?hg (N := 3) ?hd (cs := #[.int .i64 x.f0, .int .i64 x.f1, .int .i64 x.f2, .string x.f3]) (t := 52) ?hr ?_; (case hd => rfl); (case hg => rfl); (case hr => first | (go_simp; done) | (go_simp; rfl)); intro gb hg w3 hbox hb; have b2 : w3.cell? ⟨p, 2, none⟩ = some (.slice A 2048 c) := (blk_cell ((Kp.of_below (S := fun _ => False) hb).blk H2.out (fun h => h)) 2).trans rfl; have HB := Aside0.mk hb; clear hb hbox)
  go_ret2
  exact ⟨rfl, HB.out⟩
set_option maxHeartbeats 4000000 in
set_option maxRecDepth 100000 in
theorem radd_room (B p : Nat) (o : Option Nat) (nodes last : Int) (l : List S52) (x : S52) (w : World) (H : Po 51 52 w B p o nodes last l) (hB : B ≤ w.heap.size) (hl : l.length < 2048) (h0 : 0 ≤ last) (hm : last < 1000000000000000000) :
    Calls Try.prog 33 #[.pointer (some ⟨p, 0, none⟩), .agg #[.int .i64 x.f0, .int .i64 x.f1, .int .i64 x.f2, .string x.f3]] w fun e w' => e = .returned (.tuple #[.int .i64 (last + 1), .int .i64 0]) ∧ ∃ o', Po 51 52 w' B p o' nodes (last + 1) (l ++ [⟨last + 1, x.f1, x.f2, x.f3⟩]) ∧ Kp (Its p o) w w' ∧ (o' = o ∨ ∃ b, o' = some b ∧ w.heap.size ≤ b) := by
  have hu52 := Try.underlying52
  obtain ⟨v, h1, h2, h3, h4, h5⟩ := H
  obtain ⟨A, c, rfl⟩ := Kd.R_slice h5
  have hp := (Array.getElem?_eq_some_iff.1 h2).1
  have hne : ((l.length : Int) == 2048) = false := by simpa using (by omega : ¬ (l.length : Int) = 2048)
  have hne2 : decide ((2048 : Int) ≤ (l.length : Int)) = false := decide_eq_false (by omega)
  have HH := Aside0.mk (And.intro h1 (And.intro h2 (And.intro h3 (And.intro h4 (And.intro h5 hp)))))
  clear h1 h2 h3 h4 h5 hp
  go_enter Try.func33, Try.ntmps33
  go_wp2_with ((with_reducible refine gate_dst (N := 3) rfl ?_); (try (refine gate_guard (by rfl) ?_; dsimp only)); refine box_event ?hg (N := 3) ?hd (cs := #[.int .i64 x.f0, .int .i64 x.f1, .int .i64 x.f2, .string x.f3]) (t := 52) ?hr ?_; (case hd => rfl); (case hg => rfl); (case hr => first | (go_simp; done) | (go_simp; rfl)); intro gb hg w3 hbox hb; obtain ⟨b9, b0, b1, b2, f0, f1, f2⟩ := po_cells HH.out.2.1 hb; obtain ⟨g0, g1, g2, g3, e0, e1, e2, e3⟩ := box_cells hbox; have hn1 : ¬ p = gb := (fun h => (by have := HH.out.2.2.2.2.2; omega)); have hn2 : ¬ gb = p := fun h => hn1 h.symm; have H3 := Aside0.mk b9; clear b9; have HB := Aside0.mk hb; have HG := Aside0.mk hg; have HX := Aside0.mk hbox; clear hb hbox hg)
  obtain ⟨h1, h2, h3, h4, h5, hp⟩ := HH.out
  obtain ⟨W, hW⟩ : ∃ W, W = (w3.setCell ⟨p, 1, none⟩ (.int .i64 (last + 1))).setCell ⟨gb, 0, none⟩ (.int .i64 (last + 1)) := ⟨_, rfl⟩
  have hg := HG.out
  have hK : Kp (fun k => k = p) w W := by rw [hW]; exact ((Kp.of_below (S := fun k => k = p) HB.out).set (p := ⟨p, 1, none⟩) (.inl rfl) _).set (p := ⟨gb, 0, none⟩) (.inr (show w.heap.size ≤ gb by omega)) _
  have hX : W.heap[gb]? = some (.cells #[.int .i64 (last + 1), .int .i64 x.f1, .int .i64 x.f2, .string x.f3] 52 (0, 0)) := by
    rw [hW]; exact Go.Joins.block_setCell (i := 0) ((Below.heap_setCell w3 ⟨p, 1, none⟩ _ gb hn2).trans HX.out) (.int .i64 (last + 1))
  have hP : W.heap[p]? = some (.cells #[.int .i64 nodes, .int .i64 (last + 1), .slice A l.length c] 51 (0, 0)) := by
    rw [hW]; exact (Below.heap_setCell _ ⟨gb, 0, none⟩ _ p hn1).trans (Go.Joins.block_setCell (i := 1) H3.out (.int .i64 (last + 1)))
  have hR : Kd.R k52 52 W B (fun k => some k = o ∨ w.heap.size ≤ k) (.slice A l.length c) l := Kd.R_mono (R_kp h5 hK (fun b hb e => h4 (by rw [← e]; exact hb))) (fun k hk => .inl hk)
  have hs := hK.size
  obtain ⟨d9, d0, d1, d2, m0, m1, m2⟩ := po_cells hP (Below.refl _ W)
  obtain ⟨u0, u1, u2, u3, q0, q1, q2, q3⟩ := box_cells hX
  obtain ⟨_, _, _, d2a, _, _, _⟩ := po_cells hP ((Below.refl _ W).alloc (Nat.le_refl _) (.cells #[.int .i64 (last + 1), .int .i64 x.f1, .int .i64 x.f2, .string x.f3] 52))
  rw [← hW]
  have hs2 : ∀ k, W.drew.heap.size ≤ k → (some k = o ∨ w.heap.size ≤ k) := fun k hk => .inr (Nat.le_trans hs hk)
  have hR2 : Kd.R k52 52 W.drew B (fun k => some k = o ∨ w.heap.size ≤ k) (.slice A l.length c) l := Kd.R_step hR (fun _ _ _ => rfl)
  have hB2 : Below B w W.drew := (hK.toBelow (fun k hk => by rw [hk]; exact h1) hB).drew
  have hB3 : B ≤ W.drew.heap.size := Nat.le_trans hB hs
  have hl2 : (l.length + 1) * 40 ≤ 140737488355328 := by omega
  have HA := Aside0.mk (And.intro hs2 (And.intro hR2 (And.intro hB2 (And.intro hB3 hl2))))
  clear hs2 hR2 hB2 hB3 hl2
  have HR := Aside0.mk hR
  have HK := Aside0.mk hK
  have HS := Aside0.mk (And.intro h3 (And.intro hB (And.intro hs (And.intro d9 (And.intro hp (And.intro h4 h1))))))
  clear hW hK hX hP hR hs d9 H3 HX HG hg h1 h2 h3 h4 h5 hp b0 b1 b2 f0 f1 f2 g0 g1 g2 g3 e0 e1 e2 e3 HB hn1 hn2
  go_region_law (refine Kd.R_append_step (W := W.drew) k52 B rfl (.tmp 29) (.tmp 31) 49 52 (.agg #[(.int .i64 0), (.int .i64 0), (.int .i64 0), (.string ⟨#[]⟩)]) 40 rfl Try.underlying49 info52 rfl (by decide) (by decide) (.slice A l.length c) l ⟨last + 1, x.f1, x.f2, x.f3⟩ [.int .i64 (last + 1), .int .i64 x.f1, .int .i64 x.f2, .string x.f3] (fun k => some k = o ∨ w.heap.size ≤ k) (fun _ => False) (by simp [Act.eval, Act.put]) (by simp [Act.eval, Act.put]) (k52_mkM _ _ _ _) (fun _ h => h.elim) HA.out.1 HA.out.2.1 HA.out.2.2.1 HA.out.2.2.2.1 HA.out.2.2.2.2 ?_; intro v1 w1 hR1 hB1 hg1 ho1; obtain ⟨A1, c1, rfl⟩ := Kd.R_slice hR1; simp only [List.length_append, List.length_cons, List.length_nil, Nat.zero_add] at hR1 ho1; obtain ⟨z9, z0, z1, z2, y0, y1, y2⟩ := po_grown HS.out.2.2.2.1 hg1 (by rw [HS.out.1]; exact HS.out.2.2.2.2.2.1); have HZ := Aside0.mk (And.intro hR1 (And.intro hg1 (And.intro ho1 z9))); clear hR1 hB1 hg1 ho1 z9)
  all_goals
    go_wp2
    go_ret2
    exact ⟨rfl, add_end HK.out HS.out.1 hB HS.out.2.2.2.2.1 HS.out.2.2.2.2.2.1 HS.out.2.2.2.2.2.2 HZ.out.1 HZ.out.2.1 HZ.out.2.2.1 HZ.out.2.2.2⟩
end Go.Proofs.Ytndjhpkpeklgfaa.PPost
