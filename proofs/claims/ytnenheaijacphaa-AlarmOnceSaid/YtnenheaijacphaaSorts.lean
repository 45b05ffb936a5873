/- slices.SortFunc at the numbers that are due: they stand in the alarms' order. -/
import Derived.Test.YtnenheaijacphaaLays
import Derived.Test.YtnenheaijacphaaOrder
namespace Go.Proofs.Ytnenheaijacphaa.PAlarm
open Go Go.RowKit Go.Maps Go.Sort Go.Shelf Go.Proofs Go.Proofs.YtnenheaijacphaaW.PrintWords Go.Proofs.YtnenheaijacphaaW.PrintLast Go.Proofs.YtnenheaijacphaaW.PrintMore Go.Proofs.Ytnenheaijacphaa.Sl
set_option linter.unusedVariables false
set_option linter.unusedSimpArgs false

theorem num_wf (x : Num) : (Lit.int .i64 x.1).wf = true := by have := big_iff.1 x.2; exact wf_big (by omega) (by omega)
theorem grown_below {w W : World} {base g : Nat} (h : w.grownBy W (some g)) (hg : base ≤ g) (hb : base ≤ w.heap.size) : Below base w W :=
  ⟨h.os, h.tape, h.output, h.size, fun k hk => h.block k (by omega) (fun e => by injection e with e; omega)⟩
theorem sortFunc_calls (B p b gb base : Nat) (tt : Int) (L : List S53) (v : Value) (xs : List Int) (wr : World) (H : Cl wr B p b L) (hg : wr.heap[gb]? = some (.cells #[.pointer (some ⟨p, 0, none⟩)] 24 (0, 0)))
    (h1 : p < base) (h2 : b < base) (h3 : gb < base) (hbase : base ≤ wr.heap.size) (hR : Kd.R (Kd.int .i64) 3 wr base (fun _ => True) v xs) (hx : xs.Perm (dueL L tt)) :
    Calls Try.prog 22 #[v, .func (.func 23) #[] #[.pointer (some ⟨gb, 0, none⟩)]] wr fun e w' => e = .returned (.tuple #[]) ∧ Kd.R (Kd.int .i64) 3 w' base (fun _ => True) v (dueL L tt) ∧ Below base wr w' := by
  have ho := H.ok
  have hlen : xs.length ≤ 256 := by rw [hx.length_eq]; exact Nat.le_trans (due_len L tt) ho.len
  obtain ⟨ys, hys⟩ := lift_nums xs (fun x hm => due_big ho x (hx.mem_iff.1 hm))
  have hown := Kd.own_of_R hR
  rcases Nat.eq_zero_or_pos xs.length with h0 | h0
  · have hxs : xs = [] := List.eq_nil_of_length_eq_zero h0
    subst hxs
    have hd : dueL L tt = [] := by simpa using hx.symm.eq_nil
    rw [hd]
    obtain ⟨A, c, rfl⟩ := Kd.R_slice hR
    have hS := AnyF.slices_SortFunc_none (P := Try.prog) (ρ := sortL_ren) { sortL with } A c (.func (.func 23) #[] #[.pointer (some ⟨gb, 0, none⟩)]) wr
    exact hS.mono fun e w' ⟨he, hw⟩ => by subst hw; exact ⟨he, hR, Below.refl _ _⟩
  · rcases hown.2 with ⟨hn, _⟩ | ⟨g, cap, cur, hv, hgb, hb, k1, k2, k3, k4⟩
    · exfalso
      obtain ⟨A, c, hA⟩ := Kd.R_slice hR
      rw [hn] at hA
      simp only [Value.slice.injEq] at hA
      omega
    · subst hv
      have hyl : ys.length = xs.length := by rw [← hys]; simp
      have hcur : cur.toList.take ys.length = ys.map encN := by
        rw [hyl]
        have e : ys.map encN = encs (Value.int .i64) xs := by rw [← hys]; simp [encs, encN]
        rw [e]
        simpa using k4
      have hH : Holds encN wr g 0 ys.toArray := holds_gen hb hcur
      have eg : ∀ args w, (callFunc 23 args).run Try.prog w = .ok (.enter 23 args) w := enters_of Try.func23 (by kernel_rfl) rfl
      have hg0 : gb ≠ g := by omega
      have hcmp : CmpLays1 Try.prog 23 #[.pointer (some ⟨gb, 0, none⟩)] encN (cfN L) g 0 ys.toArray.size wr := by
        intro m os dk hs x y
        have hgr : wr.grownBy (sortWorld encN wr g 0 m dk os) (some g) := grownBy_gen dk
        have hbl := grown_below hgr hgb hbase
        have hK : Kp (fun k => k = g) wr (sortWorld encN wr g 0 m dk os) := Kp.of_grown hgr
        have hC := H.move hK (by omega) (by omega)
        have hc : (sortWorld encN wr g 0 m dk os).cell? ⟨gb, 0, none⟩ = some (.pointer (some ⟨p, 0, none⟩)) := (blk_cell (hK.blk hg hg0) 0).trans rfl
        exact closure_calls B p b gb L x.1 y.1 _ hC hc (num_wf x) (num_wf y)
      have hS := Any.slices_SortFunc_total sortL encN (fun _ => rfl) (cfN L) (swoN L) 23 #[.pointer (some ⟨gb, 0, none⟩)] g 0 cap ys.toArray wr eg hcmp hH (blk_lt hb) (by simp; omega) (totN L)
      have hsz : ys.toArray.size = xs.length := by simpa using hyl
      rw [hsz] at hS
      refine hS.mono fun e w' ⟨he, n, os, hw⟩ => ?_
      refine ⟨he, ?_, ?_⟩
      · have hsd := sorted_due ho (t := tt) (ys := ys) (by rw [hys]; exact hx)
        have hml : (ys.mergeSort fun x y => !(ltN L) y x).length = xs.length := by rw [List.length_mergeSort]; exact hyl
        rw [hw]
        have hdl : (dueL L tt).length = xs.length := hx.length_eq.symm
        have ho2 := own_gen (enc := encN) (w := wr) (n := n) (os := os) (ss := ys) (ts := ys.mergeSort fun x y => !(ltN L) y x) (by rw [hml, hyl]) hgb hb (by omega) k2 k3
        refine Kd.R_of_own ?_ (fun _ _ => trivial)
        rw [hyl] at ho2
        rw [hdl]
        have e : encs (Value.int .i64) (dueL L tt) = (ys.mergeSort fun x y => !(ltN L) y x).map encN := by rw [← hsd]; simp [encs, encN]
        rw [e]
        exact ho2
      · rw [hw]
        exact grown_below (grownBy_gen _) hgb hbase
end Go.Proofs.Ytnenheaijacphaa.PAlarm
