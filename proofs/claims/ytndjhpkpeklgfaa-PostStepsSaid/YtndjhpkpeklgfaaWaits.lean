/- post.Waiting: the numbers of all letters that wait. -/
import Derived.Test.YtndjhpkpeklgfaaTakes
namespace Go.Proofs.Ytndjhpkpeklgfaa.PPost
open Go Go.RowKit Go.Proofs.YtndjhpkpeklgfaaW.PrintWords Go.Proofs.YtndjhpkpeklgfaaW.PrintLast Go.Proofs.YtndjhpkpeklgfaaW.PrintMore Go.Proofs.Ytndjhpkpeklgfaa.Sl
set_option linter.unusedVariables false
set_option linter.unusedSimpArgs false

theorem info3i : (Try.prog.info? 3).map (fun i => (i.zero, i.size, i.bytes)) = some (some (.int .i64 0), 1, 8) := by kernel_rfl
def nums (l : List S52) : List Int := l.map (·.f0)
theorem nums_snoc (l : List S52) (k : Nat) (h : k < l.length) : nums (l.take (k + 1)) = nums (l.take k) ++ [(rd_T52 l (k : Int)).f0] := by
  have e : rd_T52 l (k : Int) = l[k] := by simp [rd_T52, List.getD_eq_getElem?_getD, List.getElem?_eq_getElem h]
  rw [e, nums, ← List.take_append_getElem h, List.map_append]; rfl
set_option maxHeartbeats 1000000 in
set_option maxRecDepth 100000 in
theorem waiting_calls (B p : Nat) (o : Option Nat) (nodes last : Int) (l : List S52) (w : World) (H : Po 58 35 w B p o nodes last l) (hl : l.length ≤ 2048) :
    Calls Try.prog 15 #[.pointer (some ⟨p, 0, none⟩)] w fun e w' => ∃ v, e = .returned v ∧ Kd.R (Kd.int .i64) 3 w' w.heap.size (fun _ => True) v (nums l) ∧ Below w.heap.size w w' := by
  have hu35 := Try.underlying35
  obtain ⟨A, cp, f1, f2, f3, f4, f5⟩ := H.open_
  have c2 : w.cell? ⟨p, 2, none⟩ = some (.slice A l.length cp) := (blk_cell f2 2).trans rfl
  obtain ⟨_, hlc, hC⟩ := Kd.R_reads' f5
  have HH := Aside0.mk (And.intro H (And.intro hl (And.intro hC hlc)))
  have hm : (l.length : Int) ≤ 2048 := by omega
  clear H hl f1 f2 f3 f4 f5 hlc hC
  go_enter Try.func15, Try.ntmps15
  go_wp2
  go_loopw [3, 13] (fun ov i wr => ∃ k : Nat, k ≤ l.length ∧ i = .int .i64 k ∧ Aside0 (Kd.R (Kd.int .i64) 3 wr w.heap.size (fun _ => True) ov (nums (l.take k))) ∧ Aside0 (Below w.heap.size w wr)) (fun _ i _ => l.length - (intOf i).toNat)
  case atStart => exact ⟨0, Nat.zero_le _, rfl, ⟨Kd.R_nil _ _ _ _ _⟩, ⟨Below.refl _ _⟩⟩
  case round =>
    obtain ⟨k, hk, rfl, HR, HB⟩ := hrel
    by_cases hlt : k < l.length
    · have hltI : (k : Int) < (l.length : Int) := by omega
      obtain ⟨ad, hA, x0, x1, x2, x3⟩ := at_T52 (Kd.C_below HH.out.2.2.1 HB.out) (k : Int) (by omega) hltI
      have hns := nums_snoc l k hlt
      simp only [Int.toNat_natCast] at x0 x1 x2 x3
      generalize rd_T52 l (k : Int) = x at *
      have HN := Aside0.mk (And.intro hns hlt)
      clear hns hlt
      subst hA
      go_wp2_with (first | ((with_reducible refine gate_dst (N := 5) rfl ?_); (try (refine gate_guard (by rfl) ?_; dsimp only)); refine box_event ?hg (N := 5) ?hd (cs := #[.int .i64 0, .int .i64 0, .int .i64 0, .string ⟨#[]⟩]) (t := 35) ?hr ?_; (case hd => rfl); (case hg => rfl); (case hr => first | (go_simp; done) | (go_simp; rfl)); intro gb hg w3 hbox hb; obtain ⟨g0, g1, g2, g3, e0, e1, e2, e3⟩ := box_cells hbox; have HX := Aside0.mk (And.intro hg (And.intro hb hbox)); clear hb hg hbox) | (at_builtin; refine Kd.R_append (W := (((w3.setCell ⟨gb, 0, none⟩ (.int .i64 x.f0)).setCell ⟨gb, 1, none⟩ (.int .i64 x.f1)).setCell ⟨gb, 2, none⟩ (.int .i64 x.f2)).setCell ⟨gb, 3, none⟩ (.string x.f3)) (Kd.int .i64) (w0 := w) w.heap.size rfl (.tmp 17) (.tmp 20) 30 3 (.int .i64 0) 8 rfl Try.underlying30 info3i rfl (by decide) (by decide) u3 (nums (l.take k)) x.f0 [.int .i64 x.f0] (fun _ => True) (fun _ => False) ?e1 ?e2 rfl (fun _ h => h.elim) (fun _ _ => trivial) ?sO ?sB ?sS ?sL ?_; (case e1 => simp [Act.eval, Act.put]); (case e2 => simp [Act.eval, Act.put, World.setCell]); (case sO => exact Kd.R_below HR.out (below4 HX.out.2.1 (by have := HX.out.1; omega) _ _ _ _)); (case sB => exact HB.out.trans ((below4 HX.out.2.1 (by have := HX.out.1; omega) _ _ _ _).mono HB.out.size)); (case sS => exact (HB.out.trans ((below4 HX.out.2.1 (by have := HX.out.1; omega) _ _ _ _).mono HB.out.size)).size); (case sL => simp only [nums, List.length_map, List.length_take]; omega); intro v1 w1 hR1 hB1 _ _; have HR1 := Aside0.mk hR1; have HB1 := Aside0.mk hB1; clear hR1 hB1))
      exact ⟨⟨k + 1, HN.out.2, by congr 1, ⟨by rw [HN.out.1]; exact HR1.out⟩, HB1⟩, by have := HN.out.2; simp only [intOf]; omega⟩
    · obtain rfl : k = l.length := by omega
      rw [List.take_length] at HR
      go_wp2
      go_ret
      exact ⟨_, rfl, HR.out, HB.out⟩
theorem waiting_nil (w : World) : Calls Try.prog 15 #[.pointer none] w fun e w' => e = .returned (.slice none 0 0) ∧ Below w.heap.size w w' := by
  go_enter Try.func15, Try.ntmps15
  go_wp2
  go_ret
  exact ⟨rfl, Below.refl _ _⟩
end Go.Proofs.Ytndjhpkpeklgfaa.PPost
