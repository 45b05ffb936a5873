/- sextonlaw04.does: the post and the reference do a step alike. -/
import Derived.Test.YtndjhpkpeklgfaaDuo
namespace Go.Proofs.Ytndjhpkpeklgfaa.PPost
open Go Go.RowKit Go.Proofs.YtndjhpkpeklgfaaW.PrintWords Go.Proofs.YtndjhpkpeklgfaaW.PrintLast Go.Proofs.YtndjhpkpeklgfaaW.PrintMore Go.Proofs.Ytndjhpkpeklgfaa.Sl
set_option linter.unusedVariables false
set_option linter.unusedSimpArgs false
/-- What a step leaves. -/
def Did (w0 w : World) (B p r : Nat) (nodes : Int) (k : Nat) : Prop :=
  ∃ (o q : Option Nat) (last : Int) (L : List S52), Duo (fun _ => False) w0 w B p r o q nodes last last L L ∧ Fit L last k
variable {w0 : World} {B p r : Nat} {o q : Option Nat} {nodes last : Int} {L : List S52}
set_option maxHeartbeats 4000000 in
set_option maxRecDepth 100000 in
theorem does_send (w : World) (k : Nat) (h : Duo (fun _ => False) w0 w B p r o q nodes last last L L) (F : Fit L last k) (hk : k < 2047) (x : S29) (hx : x.f0 = 0 ∨ x.f0 = 1) :
    Calls Try.prog 17 #[.pointer (some ⟨p, 0, none⟩), .pointer (some ⟨r, 0, none⟩), .agg #[.int .i64 x.f0, .int .i64 x.f1, .int .i64 x.f2, .int .i64 x.f3, .string x.f4]] w fun e w' => e = .returned (.bool true) ∧ Did w0 w' B p r nodes (k + 1) := by
  have F1 : Fit (snd nodes last L x.f1 x.f2 x.f4).2.2.2 (snd nodes last L x.f1 x.f2 x.f4).2.2.1 (k + 1) := F.snd (by omega) nodes x.f1 x.f2 x.f4
  obtain ⟨y, hy⟩ : ∃ y, y = snd nodes last L x.f1 x.f2 x.f4 := ⟨_, rfl⟩
  rw [← hy] at F1
  have HM := Aside0.mk (And.intro (show L.length ≤ 2048 by have := F.len; omega) (And.intro F.last0 (show last < 1000000000000000000 by have := F.lastk; omega)))
  have HI := Aside0.mk (And.intro h (And.intro F1 hy))
  clear h F F1 hy hk
  rcases hx with hx | hx
  · have d0 : (x.f0 == 0) = true := by simp [hx]
    clear hx
    go_enter Try.func17, Try.ntmps17
    go_wp2_with (first | ((with_reducible refine gate_dst (N := 5) rfl ?_); (try (refine gate_guard (by rfl) ?_; dsimp only)); refine box_event ?hg (N := 5) ?hd (cs := #[.int .i64 x.f0, .int .i64 x.f1, .int .i64 x.f2, .int .i64 x.f3, .string x.f4]) (t := 29) ?hr ?_; (case hd => rfl); (case hg => rfl); (case hr => first | (go_simp; done) | (go_simp; rfl)); intro gb hg w5 hbox hb; obtain ⟨g0, g1, g2, g3, g4, e0, e1, e2, e3, e4⟩ := box5_cells hbox; have hd5 := Aside0.mk (HI.out.1.box hb hg (blk_lt hbox)); have hx5 := Aside0.mk hbox; have HD5 := hd5; have HX5 := hx5; clear hd5 hx5 hg hb hbox) | (go_at_call 10; refine (duo_send HD5.out HM.out.1 HM.out.2.1 HM.out.2.2 x.f1 x.f2 x.f4).mono ?_; rw [← HI.out.2.2]; rintro e w6 ⟨rfl, o6, h6, hg6⟩; have hgb := (hg6 gb (.inr rfl)).trans HX5.out; obtain ⟨a0, a1, a2, a3, a4, b0, b1, b2, b3, b4⟩ := box5_cells hgb; have HD6 := Aside0.mk h6; have HX6 := Aside0.mk hgb; clear h6 hg6 hgb) | (go_at_call 23; refine (duo_rsend HD6.out HM.out.1 HM.out.2.1 HM.out.2.2 x.f1 x.f2 x.f4).mono ?_; rw [← HI.out.2.2]; rintro e w7 ⟨rfl, o7, h7, hg7⟩; have hgb := (hg7 gb (.inr rfl)).trans HX6.out; obtain ⟨a0, a1, a2, a3, a4, b0, b1, b2, b3, b4⟩ := box5_cells hgb; have HD7 := Aside0.mk h7; have HX7 := Aside0.mk hgb; clear h7 hg7 hgb))
    go_ret
    exact ⟨rfl, _, _, _, _, HD7.out.drop, HI.out.2.1⟩
  · have d0 : (x.f0 == 0) = false := by simp [hx]
    have d1 : (x.f0 == 1) = true := by simp [hx]
    clear hx
    go_enter Try.func17, Try.ntmps17
    go_wp2_with (first | ((with_reducible refine gate_dst (N := 5) rfl ?_); (try (refine gate_guard (by rfl) ?_; dsimp only)); refine box_event ?hg (N := 5) ?hd (cs := #[.int .i64 x.f0, .int .i64 x.f1, .int .i64 x.f2, .int .i64 x.f3, .string x.f4]) (t := 29) ?hr ?_; (case hd => rfl); (case hg => rfl); (case hr => first | (go_simp; done) | (go_simp; rfl)); intro gb hg w5 hbox hb; obtain ⟨g0, g1, g2, g3, g4, e0, e1, e2, e3, e4⟩ := box5_cells hbox; have hd5 := Aside0.mk (HI.out.1.box hb hg (blk_lt hbox)); have hx5 := Aside0.mk hbox; have HD5 := hd5; have HX5 := hx5; clear hd5 hx5 hg hb hbox) | (go_at_call 10; refine (duo_send HD5.out HM.out.1 HM.out.2.1 HM.out.2.2 x.f1 x.f2 x.f4).mono ?_; rw [← HI.out.2.2]; rintro e w6 ⟨rfl, o6, h6, hg6⟩; have hgb := (hg6 gb (.inr rfl)).trans HX5.out; obtain ⟨a0, a1, a2, a3, a4, b0, b1, b2, b3, b4⟩ := box5_cells hgb; have HD6 := Aside0.mk h6; have HX6 := Aside0.mk hgb; clear h6 hg6 hgb) | (go_at_call 23; refine (duo_rsend HD6.out HM.out.1 HM.out.2.1 HM.out.2.2 x.f1 x.f2 x.f4).mono ?_; rw [← HI.out.2.2]; rintro e w7 ⟨rfl, o7, h7, hg7⟩; have hgb := (hg7 gb (.inr rfl)).trans HX6.out; obtain ⟨a0, a1, a2, a3, a4, b0, b1, b2, b3, b4⟩ := box5_cells hgb; have HD7 := Aside0.mk h7; have HX7 := Aside0.mk hgb; clear h7 hg7 hgb))
    go_ret
    exact ⟨rfl, _, _, _, _, HD7.out.drop, HI.out.2.1⟩
set_option maxHeartbeats 4000000 in
set_option maxRecDepth 100000 in
theorem does_again (w : World) (k : Nat) (h : Duo (fun _ => False) w0 w B p r o q nodes last last L L) (F : Fit L last k) (hk : k < 2047) (x : S29) (hx : x.f0 = 4) :
    Calls Try.prog 17 #[.pointer (some ⟨p, 0, none⟩), .pointer (some ⟨r, 0, none⟩), .agg #[.int .i64 x.f0, .int .i64 x.f1, .int .i64 x.f2, .int .i64 x.f3, .string x.f4]] w fun e w' => e = .returned (.bool true) ∧ Did w0 w' B p r nodes (k + 1) := by
  have F1 : Fit (agn last L x.f3).2.2.2 (agn last L x.f3).2.2.1 (k + 1) := F.agn (by omega) x.f3
  obtain ⟨y, hy⟩ : ∃ y, y = agn last L x.f3 := ⟨_, rfl⟩
  rw [← hy] at F1
  have HM := Aside0.mk (And.intro (show L.length ≤ 2048 by have := F.len; omega) (And.intro F.last0 (show last < 1000000000000000000 by have := F.lastk; omega)))
  have HI := Aside0.mk (And.intro h (And.intro F1 (And.intro hy F.up)))
  have d0 : (x.f0 == 0) = false := by simp [hx]
  have d1 : (x.f0 == 1) = false := by simp [hx]
  have d2 : (x.f0 == 2) = false := by simp [hx]
  have d3 : (x.f0 == 3) = false := by simp [hx]
  have d4 : (x.f0 == 4) = true := by simp [hx]
  clear h F F1 hy hk hx
  go_enter Try.func17, Try.ntmps17
  go_wp2_with (first | ((with_reducible refine gate_dst (N := 5) rfl ?_); (try (refine gate_guard (by rfl) ?_; dsimp only)); refine box_event ?hg (N := 5) ?hd (cs := #[.int .i64 x.f0, .int .i64 x.f1, .int .i64 x.f2, .int .i64 x.f3, .string x.f4]) (t := 29) ?hr ?_; (case hd => rfl); (case hg => rfl); (case hr => first | (go_simp; done) | (go_simp; rfl)); intro gb hg w5 hbox hb; obtain ⟨g0, g1, g2, g3, g4, e0, e1, e2, e3, e4⟩ := box5_cells hbox; have hd5 := Aside0.mk (HI.out.1.box hb hg (blk_lt hbox)); have hx5 := Aside0.mk hbox; have HD5 := hd5; have HX5 := hx5; clear hd5 hx5 hg hb hbox) | (go_at_call 11; refine (duo_again HD5.out HM.out.1 HM.out.2.1 HM.out.2.2 x.f3).mono ?_; rw [← HI.out.2.2.1]; rintro e w6 ⟨rfl, o6, h6, hg6⟩; have hgb := (hg6 gb (.inr rfl)).trans HX5.out; obtain ⟨a0, a1, a2, a3, a4, b0, b1, b2, b3, b4⟩ := box5_cells hgb; have HD6 := Aside0.mk h6; have HX6 := Aside0.mk hgb; clear h6 hg6 hgb) | (go_at_call 26; refine (duo_ragain HD6.out HI.out.2.2.2 HM.out.1 HM.out.2.1 HM.out.2.2 x.f3).mono ?_; rw [← HI.out.2.2.1]; rintro e w7 ⟨rfl, o7, h7, hg7⟩; have hgb := (hg7 gb (.inr rfl)).trans HX6.out; obtain ⟨a0, a1, a2, a3, a4, b0, b1, b2, b3, b4⟩ := box5_cells hgb; have HD7 := Aside0.mk h7; have HX7 := Aside0.mk hgb; clear h7 hg7 hgb))
  go_ret
  exact ⟨rfl, _, _, _, _, HD7.out.drop, HI.out.2.1⟩
end Go.Proofs.Ytndjhpkpeklgfaa.PPost
