/- The pure law of sexton/sextonlaw08.BlobGone: for every input the function that the code computes answers true. No program stands here. -/
import Derived.Test.YtmknehabmloebaaPBlobx23
import Derived.Test.YtmknehabmloebaaOpenBlob
import Derived.Test.YtmknehabmloebaaMore
namespace Go.Proofs.Ytmknehabmloebaa.PBlob
open Go Go.RowKit Go.Proofs.YtmknehabmloebaaW.PrintWords Go.Proofs.YtmknehabmloebaaW.PrintLast Go.Proofs.YtmknehabmloebaaW.PrintMore
set_option linter.unusedVariables false

theorem gone_j1 {l c : List S41} {a : Int} (hl : chk 0 l = true) (hc : chk 0 c = true) (h0 : 0 ≤ a) (ha : a ≤ 1048576) (hv : ∀ i, val c i = if 0 ≤ i ∧ i < a then val l i else none) : Ev (fun k => sextonlaw08_BlobGone.j1 k l a c false) true := by
  have e1 : wrap64 (a - 512) = a - 512 := wrap_id (by omega) (by omega)
  have e2 : wrap64 (a - 0) = a := by rw [Int.sub_zero]; exact wrap_id (by omega) (by omega)
  have e3 : wrap64 (a - (a - 512)) = 512 := by rw [wrap_id (by omega) (by omega)]; omega
  refine Ev.step (f := fun _ => some true) (fun k => ?_) (Ev.now _)
  simp only [sextonlaw08_BlobGone.j1]
  rw [if_neg (by simp), e1, e2, e3]
  by_cases g : a - 512 < 0
  · obtain ⟨x, x1, x2⟩ := read_same hl hc (p := 0) (n := a) (by omega) (by omega) (by omega) fun i i1 i2 => by rw [hv, if_pos (by omega)]
    rw [if_pos g, x1, x2]
    simp only [Option.bind_some, if_true, five_true]
  · obtain ⟨x, x1, x2⟩ := read_same hl hc (p := a - 512) (n := 512) (by omega) (by omega) (by omega) fun i i1 i2 => by rw [hv, if_pos (by omega)]
    rw [if_neg g, x1, x2]
    simp only [Option.bind_some, if_true, five_true]
theorem BlobGone_pure : ∀ (l0 : List (S41)) (a1 : Int), ((l0.length * 24 ≤ reachBytes ∧ ∀ x ∈ l0, b41 x)) → ((Lit.int .i64 a1).wf = true) → ∃ k, sextonlaw08_BlobGone.f k l0 a1 = some true := by
  intro l0 a ⟨hl, _⟩ _
  have hb : reachBytes = 0x7ffffffff000 := rfl
  refine Ev.rounds ?_
  obtain ⟨b, hh⟩ := heavy_f l0 (⟨#[]⟩ : ByteArray) (by omega)
  refine Ev.bind hh ?_
  have h5 : ∀ c, Ev (fun k => sextonlaw08_BlobGone.j0 k l0 a c true) true := fun c => Ev.step (f := fun _ => some true) (fun k => by simp only [sextonlaw08_BlobGone.j0]; rw [five_true]; rfl) (Ev.now _)
  cases b with
  | true => simp only [if_true, five_true, Option.bind_some]; exact Ev.now _
  | false =>
    simp only [Bool.false_eq_true, if_false, blob_Cut.f, Option.bind_some]
    cases hc : chk 0 l0 with
    | false => exact h5 _
    | true =>
      simp only [if_true]
      by_cases c0 : a < 0
      · simp only [if_pos c0]; exact h5 _
      simp only [if_neg c0, if_true]
      by_cases c1 : a > 1047976
      · rw [decide_eq_true c1]; exact h5 _
      rw [decide_eq_false c1]
      have hk := chk_clip (a := 0) (b := a) (Int.le_refl 0) hc
      have hv := fun i => val_clip l0 0 a i
      have hkk := chk_clip (a := 0) (b := a) (Int.le_refl 0) hk
      have hfix : clip (clip l0 0 a) 0 a = clip l0 0 a := runs_unique hkk hk fun i => by
        rw [val_clip, hv]
        by_cases g : 0 ≤ i ∧ i < a
        · rw [if_pos g]
        · rw [if_neg g, if_neg g]
      have hlen := (chk_few (by omega) hk).1
      have hfin := fin_clip_le (a := 0) (b := a) (e := 0) hc (by omega)
      have hrd := read_eq hk (p := a) (n := 512) (by omega) (by omega) (by omega)
      have hz : ((List.range (min (512 : Int) (1048576 - a)).toNat).map fun j : Nat => byteAt (clip l0 0 a) (a + j)) = List.replicate 512 0 := by
        have hn : (min (512 : Int) (1048576 - a)).toNat = 512 := by omega
        rw [hn]
        refine List.eq_replicate_iff.2 ⟨by simp, fun x hx => ?_⟩
        obtain ⟨j, _, rfl⟩ := List.mem_map.1 hx
        unfold byteAt
        rw [hv, if_neg (by omega)]
        rfl
      rw [hz] at hrd
      refine Ev.step (f := fun k => (sextonplain_Runs.f k (clip l0 0 a) (clip l0 0 a)).bind fun t324 => (if t324 = true then ((blob_End.f k (clip l0 0 a)).bind fun t328 => (sextonlaw08_BlobGone.j1 k l0 a (clip l0 0 a) (decide (t328 > a)))) else (sextonlaw08_BlobGone.j1 k l0 a (clip l0 0 a) true))) (fun k => ?_) ?_
      · simp only [sextonlaw08_BlobGone.j0, blob_Cut.f]
        rw [if_neg (by simp), Option.bind_some, hrd, Option.bind_some, if_pos hk, if_neg c0, hfix]
        simp only [if_true]
        have e9 : (512 : Nat) ≤ 281474976710656 := by omega
        simp only [if_pos e9]
      · refine Ev.bind (runs_f _ (by omega)) ?_
        simp only [if_true]
        refine Ev.bind (end_ev (by omega)) ?_
        rw [hk, if_pos rfl, decide_eq_false (by omega)]
        exact gone_j1 hc hk (by omega) (by omega) hv

end Go.Proofs.Ytmknehabmloebaa.PBlob
