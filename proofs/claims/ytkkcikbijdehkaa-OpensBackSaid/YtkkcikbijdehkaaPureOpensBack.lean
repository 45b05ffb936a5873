/- The pure law of sexton/sextonlaw12.OpensBack: for every input the function that the code computes answers true. No program stands here. -/
import Derived.Test.YtkkcikbijdehkaaPOpensx27
import Derived.Test.YtkkcikbijdehkaaOpenOpens
import Derived.Test.YtkkcikbijdehkaaOpsOpen
import Derived.Test.YtkkcikbijdehkaaOpsClose
import Derived.Test.YtkkcikbijdehkaaOpsLeave
import Derived.Test.YtkkcikbijdehkaaOpsHeld
import Derived.Test.YtkkcikbijdehkaaOpsOf
namespace Go.Proofs.Ytkkcikbijdehkaa.POpens
open Go Go.RowKit Go.Proofs.YtkkcikbijdehkaaW.PrintWords Go.Proofs.YtkkcikbijdehkaaW.PrintLast Go.Proofs.YtkkcikbijdehkaaW.PrintMore
set_option linter.unusedVariables false

theorem heldl_len (l : List S36) (h1 h2 : Int) : (heldl l h1 h2).length ≤ l.length := List.length_filter_le _ _
theorem back_j0 {l a b : List S36} {who h1 h2 : Int} (hc : ask l who = 0) (hx : FitH h1 h2) {fd : Nat} (hf : Free l fd a b) (hfd : fd < 16) :
    Ev (fun k => sextonlaw12_OpensBack.j0 k l who (a ++ ⟨(fd : Int), who, ⟨h1, h2⟩⟩ :: b) fd false h1 h2) true := by
  obtain ⟨hchk, hw1, hw2⟩ := ask_zero hc
  have hlen := chk_len hchk
  have hxf : Fit ⟨(fd : Int), who, ⟨h1, h2⟩⟩ := ⟨⟨by show (0 : Int) ≤ fd; omega, by show (fd : Int) < 16; omega⟩, ⟨hw1, hw2⟩, hx⟩
  have hca := free_chk hchk hf hxf rfl
  have hlen2 := chk_len hca
  have hask : ask (a ++ ⟨(fd : Int), who, ⟨h1, h2⟩⟩ :: b) who = 0 := by unfold ask; rw [if_pos hca, if_pos ⟨hw1, hw2⟩]
  have hnot : ∀ x ∈ l, is who fd x = false := fun x hx => by
    cases h : is who fd x with
    | false => rfl
    | true =>
      have := (is_true.1 h).1
      rw [hf.eq] at hx
      rcases List.mem_append.1 hx with hx | hx
      · have := hf.lo x hx; omega
      · have := hf.hi x hx; omega
  have hna : ∀ x ∈ a, is who fd x = false := fun x hx => hnot x (by rw [hf.eq]; simp [hx])
  have hnb : ∀ x ∈ b, is who fd x = false := fun x hx => hnot x (by rw [hf.eq]; simp [hx])
  have hself : is who fd ⟨(fd : Int), who, ⟨h1, h2⟩⟩ = true := is_true.2 ⟨rfl, rfl⟩
  have hcls : cls (a ++ ⟨(fd : Int), who, ⟨h1, h2⟩⟩ :: b) who fd = (l, h1, h2, 0) := by
    unfold cls
    rw [if_pos hask, List.find?_append, List.find?_eq_none.2 (fun x hx => by simp [hna x hx]), Option.none_or, List.find?_cons, hself]
    simp only []
    rw [List.filter_append, List.filter_cons, if_neg (by simp [hself]), List.filter_eq_self.2 (fun x hx => by simp [hna x hx]), List.filter_eq_self.2 (fun x hx => by simp [hnb x hx]), ← hf.eq]
  have hlev : lev (a ++ ⟨(fd : Int), who, ⟨h1, h2⟩⟩ :: b) who = (stay (a ++ ⟨(fd : Int), who, ⟨h1, h2⟩⟩ :: b) who, gone (a ++ ⟨(fd : Int), who, ⟨h1, h2⟩⟩ :: b) who, 0) := by unfold lev; rw [if_pos hask]
  generalize a ++ ⟨(fd : Int), who, ⟨h1, h2⟩⟩ :: b = m at *
  have hs1 : (stay m who).length ≤ m.length := List.length_filter_le _ _
  have hg1 : (gone m who).length ≤ m.length := by unfold gone; rw [List.length_map]; exact List.length_filter_le _ _
  have hsum : (stay m who).length + (gone m who).length = m.length := by
    unfold stay gone
    rw [List.length_map]
    clear hs1 hg1 hlev hcls hask hlen2 hca hself
    induction m with
    | nil => rfl
    | cons x m ih =>
      rw [List.filter_cons, List.filter_cons]
      cases x.f1 == who <;> simp <;> omega
  have hof0 : ofl (stay m who) who = [] := by
    unfold ofl stay
    rw [List.filter_filter, List.filter_eq_nil_iff.2 (fun x _ => by simp)]
    rfl
  have hofl : (ofl m who).length = (gone m who).length := by unfold ofl gone; rw [List.length_map, List.length_map]
  refine Ev.step (fun k => by simp only [sextonlaw12_OpensBack.j0]; rw [if_neg (by simp)]) (Ev.bind (close_f m (by omega) who fd) (Ev.bind (leave_f m (by omega) who) ?_))
  rw [hcls, hlev]
  simp only [beq_self_eq_true, Bool.and_self, if_true]
  refine Ev.bind (opens_f l (by omega)) ?_
  simp only [if_true]
  refine Ev.bind (of_f (stay m who) (by omega) who) ?_
  rw [hof0]
  have e1 : wrap64 (((stay m who).length : Int) + ((gone m who).length : Int)) = (m.length : Int) := by rw [wrap_id (by omega) (by omega)]; omega
  simp only [e1, List.length_nil, Int.natCast_zero, if_true]
  refine Ev.bind (of_f m (by omega) who) ?_
  rw [hofl]
  simp only [if_true]
  exact Ev.bind two_f (Ev.now _)
theorem OpensBack_pure : ∀ (l0 : List (S36)) (a1 : Int) (x2 : S24), ((l0.length * 32 ≤ reachBytes ∧ ∀ x ∈ l0, b36 x)) → ((Lit.int .i64 a1).wf = true) → (b24 x2) → ∃ k, sextonlaw12_OpensBack.f k l0 a1 x2.f0 x2.f1 = some true := by
  rintro l who ⟨h1, h2⟩ ⟨hl, _⟩ _ _
  have hb : reachBytes = 0x7ffffffff000 := rfl
  refine Ev.rounds ?_
  refine Ev.bind (open_f l (by omega) who _ _) ?_
  have two : Ev (fun k => if (([] : List S36).length : Int) = 0 then ((sextonlaw12_two.f k).bind fun t217 => (some t217)) else (some false)) true := by
    simp only [List.length_nil]
    exact Ev.bind two_f (Ev.now _)
  unfold opn
  by_cases c : ask l who = 0
  · obtain ⟨hchk, hw1, hw2⟩ := ask_zero c
    have hlen := chk_len hchk
    by_cases d : FitH h1 h2
    · by_cases e : l.length = 16
      · have e4 : ¬ (407 : Int) = 0 := by decide
        simp only [if_pos c, if_pos d, if_pos e, if_neg e4]
        exact two
      · obtain ⟨a, b, hf⟩ := free_of hchk
        obtain ⟨e1, e2⟩ := free_full hchk hf
        have hne : lead 0 l ≠ 16 := fun h => e (e1.2 h)
        have hfd : lead 0 l < 16 := by omega
        simp only [if_pos c, if_pos d, if_neg e, if_true]
        have ht : l.take (lead 0 l) = a ∧ l.drop (lead 0 l) = b := by
          have hal := hf.len
          have heq := hf.eq
          generalize lead 0 l = q at *
          subst heq
          subst hal
          exact ⟨List.take_left, List.drop_left⟩
        rw [ht.1, ht.2]
        have hxf : Fit ⟨((lead 0 l : Nat) : Int), who, ⟨h1, h2⟩⟩ := ⟨⟨by show (0 : Int) ≤ (lead 0 l : Nat); omega, by show ((lead 0 l : Nat) : Int) < 16; omega⟩, ⟨hw1, hw2⟩, d⟩
        have hca := free_chk hchk hf hxf rfl
        have hlen2 := chk_len hca
        have hle : (a ++ ⟨((lead 0 l : Nat) : Int), who, ⟨h1, h2⟩⟩ :: b).length = l.length + 1 := by
          have := congrArg List.length hf.eq
          rw [List.length_append] at this
          rw [List.length_append, List.length_cons]; omega
        have hhe : (heldl (a ++ ⟨((lead 0 l : Nat) : Int), who, ⟨h1, h2⟩⟩ :: b) h1 h2).length = (heldl l h1 h2).length + 1 := by
          have : heldl l h1 h2 = heldl a h1 h2 ++ heldl b h1 h2 := by unfold heldl; rw [← List.filter_append, ← hf.eq]
          rw [this]
          unfold heldl
          rw [List.filter_append, List.filter_cons, if_pos (by simp)]
          simp only [List.length_append, List.length_cons]
          omega
        have hhl := heldl_len l h1 h2
        have hck := check_f (a ++ ⟨((lead 0 l : Nat) : Int), who, ⟨h1, h2⟩⟩ :: b) (by omega)
        rw [hca, if_pos rfl] at hck
        refine Ev.bind hck ?_
        have e5 : ((a ++ ⟨((lead 0 l : Nat) : Int), who, ⟨h1, h2⟩⟩ :: b).length : Int) = wrap64 ((l.length : Int) + 1) := by rw [wrap_id (by omega) (by omega)]; omega
        simp only [if_true, if_pos e5]
        refine Ev.bind (held_f _ (by omega) h1 h2) (Ev.bind (held_f l (by omega) h1 h2) ?_)
        have e6 : (((heldl (a ++ ⟨((lead 0 l : Nat) : Int), who, ⟨h1, h2⟩⟩ :: b) h1 h2).length : Int) != wrap64 (((heldl l h1 h2).length : Int) + 1)) = false := by
          rw [wrap_id (by omega) (by omega), hhe]; simp
        simp only [e6]
        exact back_j0 c d hf hfd
    · have e4 : ¬ (1 : Int) = 0 := by decide
      simp only [if_pos c, if_neg d, if_neg e4]
      exact two
  · simp only [if_neg c]
    exact two

end Go.Proofs.Ytkkcikbijdehkaa.POpens
