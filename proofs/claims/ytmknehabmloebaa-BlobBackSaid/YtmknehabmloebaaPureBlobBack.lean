/- The pure law of sexton/sextonlaw08.BlobBack: for every input the function that the code computes answers true. No program stands here. -/
import Derived.Test.YtmknehabmloebaaPBlobx15
import Derived.Test.YtmknehabmloebaaOpenBlob
import Derived.Test.YtmknehabmloebaaMore
namespace Go.Proofs.Ytmknehabmloebaa.PBlob
open Go Go.RowKit Go.Proofs.YtmknehabmloebaaW.PrintWords Go.Proofs.YtmknehabmloebaaW.PrintLast Go.Proofs.YtmknehabmloebaaW.PrintMore
set_option linter.unusedVariables false

theorem back_j1 {l r : List S41} {a : Int} {d : ByteArray} (hc : chk 0 l = true) (hr : chk 0 r = true) (h0 : 0 ≤ a) (hs : a + d.size ≤ 1048576) (hv : ∀ i, val r i = if a ≤ i ∧ i < a + d.size then some (bt d (i - a)) else val l i) :
    Ev (fun k => sextonlaw08_BlobBack.j1 k l a d r false) true := by
  have e1 : wrap64 (a - 100) = a - 100 := wrap_id (by omega) (by omega)
  have e2 : wrap64 (a + (d.size : Int)) = a + d.size := wrap_id (by omega) (by omega)
  have hj2 : ∀ p, 0 ≤ p → p ≤ a → a - p ≤ 100 → Ev (fun k => sextonlaw08_BlobBack.j2 k l a d r p) true := fun p p0 p1 p2 => by
    have e3 : wrap64 (a - p) = a - p := wrap_id (by omega) (by omega)
    obtain ⟨x, x1, x2⟩ := read_same hc hr (p := p) (n := a - p) p0 (by omega) (by omega) fun i i1 i2 => by rw [hv, if_neg (by omega)]
    obtain ⟨y, y1, y2⟩ := read_same hc hr (p := a + d.size) (n := 100) (by omega) (by omega) (by omega) fun i i1 i2 => by rw [hv, if_neg (by omega)]
    refine Ev.step (f := fun _ => some true) (fun k => ?_) (Ev.now _)
    simp only [sextonlaw08_BlobBack.j2]
    rw [e3, e2, x1, x2, y1, y2]
    simp only [Option.bind_some, if_true, five_true]
  by_cases c : a - 100 < 0
  · exact Ev.step (fun k => by simp only [sextonlaw08_BlobBack.j1]; rw [e1, if_neg (by simp), if_pos c]) (hj2 0 (by omega) (by omega) (by omega))
  · exact Ev.step (fun k => by simp only [sextonlaw08_BlobBack.j1]; rw [e1, if_neg (by simp), if_neg c]) (hj2 (a - 100) (by omega) (by omega) (by omega))
theorem BlobBack_pure : ∀ (l0 : List (S41)) (a1 : Int) (a2 : ByteArray), ((l0.length * 24 ≤ reachBytes ∧ ∀ x ∈ l0, b41 x)) → ((Lit.int .i64 a1).wf = true) → (a2.size ≤ reachBytes) → ∃ k, sextonlaw08_BlobBack.f k l0 a1 a2 = some true := by
  intro l0 a1 a2 ⟨hl, _⟩ _ hz
  have hb : reachBytes = 0x7ffffffff000 := rfl
  refine Ev.rounds ?_
  obtain ⟨b, hh⟩ := heavy_f l0 a2 (by omega)
  refine Ev.bind hh ?_
  have h5 : Ev (fun k => sextonlaw08_BlobBack.j0 k l0 a1 a2 true) true := Ev.step (f := fun _ => some true) (fun k => by simp only [sextonlaw08_BlobBack.j0]; rw [five_true]; rfl) (Ev.now _)
  cases b with
  | true => exact h5
  | false =>
    simp only [Bool.false_eq_true, if_false]
    by_cases c : (a2.size : Int) > 512
    · rw [decide_eq_true c]; exact h5
    rw [decide_eq_false c]
    rcases write_cases l0 a1 a2 with ⟨hc, h0, hs⟩ | h
    · obtain ⟨r, hw, hr, hv⟩ := write_ok hc h0 hs
      have hrd := read_eq hr (p := a1) (n := a2.size) h0 (by omega) (by omega)
      have he : strOfNums ((List.range (min (a2.size : Int) (1048576 - a1)).toNat).map fun j : Nat => byteAt r (a1 + j)) = a2 := by
        rw [show (min (a2.size : Int) (1048576 - a1)).toNat = a2.size by omega]
        have hsz : (strOfNums ((List.range a2.size).map fun j : Nat => byteAt r (a1 + j))).size = a2.size := by rw [strOfNums_size]; simp
        refine bytes_ext hsz fun i hi => ?_
        rw [hsz] at hi
        rw [bt_nums _ i (by simpa using hi) fun x hx => by obtain ⟨j, _, rfl⟩ := List.mem_map.1 hx; exact byteAt_range _ _]
        rw [List.getElem_map, List.getElem_range]
        unfold byteAt
        rw [hv, if_pos (by omega), show a1 + (i : Int) - a1 = i by omega]
        rfl
      rw [he] at hrd
      have hck := check_ev (l := r) (by have := (chk_few (by omega) hr).1; omega)
      rw [hr, if_pos rfl] at hck
      refine Ev.step (f := fun k => (blob_Check.f k r).bind fun t224 => sextonlaw08_BlobBack.j1 k l0 a1 a2 r (t224 != 0)) (fun k => ?_) (Ev.bind hck (back_j1 hc hr h0 hs hv))
      simp only [sextonlaw08_BlobBack.j0]
      rw [if_neg (by simp), hw, Option.bind_some]
      simp only []
      rw [if_pos trivial, hrd, Option.bind_some]
      simp only []
      rw [if_pos trivial, if_pos trivial]
    · refine Ev.step (f := fun _ => some true) (fun k => ?_) (Ev.now _)
      simp only [sextonlaw08_BlobBack.j0]
      rw [if_neg (by simp), write_bad h, Option.bind_some]
      simp only []
      rw [if_neg (by split <;> (try split) <;> decide), if_pos (by simp), five_true]
      rfl

end Go.Proofs.Ytmknehabmloebaa.PBlob
