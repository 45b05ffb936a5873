/- The pure law of sexton/sextonlaw09.ItabChecks: for every table the function that the code computes answers true. No program stands here. -/
import Derived.Test.YtgepphlkibnhdaaPItabx42
import Derived.Test.YtgepphlkibnhdaaRSpecs
import Derived.Test.YtgepphlkibnhdaaFinds
namespace Go.Proofs.Ytgepphlkibnhdaa.PItab
open Go Go.RowKit Go.Proofs.YtgepphlkibnhdaaW.PrintWords Go.Proofs.YtgepphlkibnhdaaW.PrintLast Go.Proofs.YtgepphlkibnhdaaW.PrintMore
set_option linter.unusedVariables false
set_option linter.unusedSimpArgs false

def sumw (l : List S73) (s : Int) : Int := l.foldl (fun n r => wrap64 (n + (r.f1.size : Int))) s
theorem bytes_l0 (l : List S73) (hl : l.length ≤ 9223372036854775806) (d : Nat) : ∀ (i : Nat) (s : Int), i ≤ l.length → l.length - i = d → Ev (fun k => blob_Bytes.l0 k s l l.length i) (sumw (l.drop i) s) := by
  induction d with
  | zero =>
    intro i s h1 h2
    rw [List.drop_eq_nil_of_le (by omega)]
    exact Ev.step (fun k => by simp only [blob_Bytes.l0]; rw [if_neg (by omega)]; rfl) (Ev.now _)
  | succ d ih =>
    intro i s h1 h2
    have hlt : i < l.length := by omega
    rw [List.drop_eq_getElem_cons hlt]
    refine Ev.step (fun k => ?_) (ih (i + 1) (wrap64 (s + ((l[i]).f1.size : Int))) (by omega) (by omega))
    simp only [blob_Bytes.l0, rd73 l i hlt]
    rw [if_pos (by omega), if_pos (by omega), if_pos (by omega), wr1 i (by omega)]
theorem bytes_ev {l : List S73} (hl : l.length ≤ 9223372036854775806) : Ev (fun k => blob_Bytes.f k l) (sumw l 0) := by
  have := bytes_l0 l hl l.length 0 0 (by omega) (by omega)
  simpa [blob_Bytes.f] using this
def tot (l : List S73) : Int := (l.map fun r => (r.f1.size : Int)).sum
theorem wrap_wrap (a b : Int) : wrap64 (wrap64 a + b) = wrap64 (a + b) := by unfold wrap64; omega
theorem sumw_tot : ∀ (l : List S73) (a : Int), wrap64 a = a → sumw l a = wrap64 (a + tot l)
  | [], a, h => by simp [sumw, tot, h]
  | x :: l, a, h => by
    have := sumw_tot l (wrap64 (a + (x.f1.size : Int))) (by have := wrap_wrap (a + (x.f1.size : Int)) 0; simpa using this)
    simp only [sumw, List.foldl_cons] at this ⊢
    rw [this, wrap_wrap]
    congr 1
    simp only [tot, List.map_cons, List.sum_cons]
    omega
theorem sumw_from (l : List S73) (a : Int) (h : wrap64 a = a) : sumw l a = wrap64 (a + sumw l 0) := by
  rw [sumw_tot l a h, sumw_tot l 0 (by unfold wrap64; omega), Int.zero_add]
  have := wrap_wrap (tot l) a
  rw [Int.add_comm a (wrap64 _), this, Int.add_comm]
theorem wrapped_sumw : ∀ (l : List S73) (a : Int), wrap64 a = a → wrap64 (sumw l a) = sumw l a := fun l a h => by
  rw [sumw_tot l a h]
  have := wrap_wrap (a + tot l) 0
  simpa using this
def bys (l : List S30) (s : Int) : Int := l.foldl (fun n x => sumw x.f2 n) s
theorem bytes_t_l0 (l : List S30) (hs : Sm l) (hl : l.length ≤ 8796093022208) (d : Nat) : ∀ (i : Nat) (s : Int), wrap64 s = s → i ≤ l.length → l.length - i = d → Ev (fun k => itab_Bytes.l0 k s l l.length i) (bys (l.drop i) s) := by
  induction d with
  | zero =>
    intro i s hw h1 h2
    rw [List.drop_eq_nil_of_le (by omega)]
    exact Ev.step (fun k => by simp only [itab_Bytes.l0]; rw [if_neg (by omega)]; rfl) (Ev.now _)
  | succ d ih =>
    intro i s hw h1 h2
    have hlt : i < l.length := by omega
    rw [List.drop_eq_getElem_cons hlt]
    refine Ev.step (fun k => by simp only [itab_Bytes.l0]; rw [if_pos (by omega), if_pos (by omega), if_pos (by omega)]) ?_
    simp only [rd30 l i hlt]
    refine Ev.bind (bytes_ev (by have := (hs _ (List.getElem_mem hlt)).1; omega)) ?_
    rw [wr1 i (by omega), ← sumw_from _ s hw]
    exact ih (i + 1) _ (wrapped_sumw _ _ hw) (by omega) (by omega)
theorem rbytes_l1 (l : List S30) (i : Nat) (f : List S73) (hf : f.length ≤ 5900000000000) (r : Int) (h : ∀ s, wrap64 s = s → Ev (fun k => sextonref09_Bytes.l0 k s l l.length (wrap64 ((i : Int) + 1))) (bys (l.drop (i + 1)) s)) (d : Nat) : ∀ (j : Nat) (s : Int), wrap64 s = s → j ≤ f.length → f.length - j = d →
    Ev (fun k => sextonref09_Bytes.l1 k s l l.length i f f.length j) (bys (l.drop (i + 1)) (sumw (f.drop j) s)) := by
  induction d with
  | zero =>
    intro j s hw h1 h2
    have e : f.drop j = [] := List.drop_eq_nil_of_le (by omega)
    rw [e]
    exact Ev.step (fun k => by simp only [sextonref09_Bytes.l1]; rw [if_neg (by omega)]) (h s hw)
  | succ d ih =>
    intro j s hw h1 h2
    have hlt : j < f.length := by omega
    rw [List.drop_eq_getElem_cons hlt]
    refine Ev.step (fun k => ?_) (ih (j + 1) (wrap64 (s + ((f[j]).f1.size : Int))) (by have := wrap_wrap (s + ((f[j]).f1.size : Int)) 0; simpa using this) (by omega) (by omega))
    simp only [sextonref09_Bytes.l1, rd73 f j hlt]
    rw [if_pos (by omega), if_pos (by omega), if_pos (by omega), wr1 j (by omega)]
theorem rbytes_l0 (l : List S30) (hs : Sm l) (hl : l.length ≤ 8796093022208) (d : Nat) : ∀ (i : Nat) (s : Int), wrap64 s = s → i ≤ l.length → l.length - i = d → Ev (fun k => sextonref09_Bytes.l0 k s l l.length i) (bys (l.drop i) s) := by
  induction d with
  | zero =>
    intro i s hw h1 h2
    rw [List.drop_eq_nil_of_le (by omega)]
    exact Ev.step (fun k => by simp only [sextonref09_Bytes.l0]; rw [if_neg (by omega)]; rfl) (Ev.now _)
  | succ d ih =>
    intro i s hw h1 h2
    have hlt : i < l.length := by omega
    rw [List.drop_eq_getElem_cons hlt]
    refine Ev.step (fun k => by simp only [sextonref09_Bytes.l0]; rw [if_pos (by omega), if_pos (by omega), if_pos (by omega)]) ?_
    simp only [rd30 l i hlt]
    have := rbytes_l1 l i (l[i]).f2 (hs _ (List.getElem_mem hlt)).1 0 (fun s hs => by rw [wr1 i (by omega)]; exact ih (i + 1) s hs (by omega) (by omega)) (l[i]).f2.length 0 s hw (by omega) (by omega)
    rw [List.drop_zero] at this
    exact this
theorem rd24 (l : List S24) (i : Nat) (h : i < l.length) : rd_T24 l (i : Int) = l[i] := by
  simp [rd_T24, List.getD_eq_getElem?_getD, List.getElem?_eq_getElem h]
theorem checks_l1 (l : List S30) (hs : Sm l) (hl : l.length ≤ 8796093022208) (u : List S24) (hu : u.length ≤ 8796093022208) (d : Nat) : ∀ i : Nat, i ≤ u.length → u.length - i = d → Ev (fun k => sextonlaw09_ItabChecks.l1 k l u u u.length i) true := by
  induction d with
  | zero =>
    intro i h1 h2
    refine Ev.step (fun k => by simp only [sextonlaw09_ItabChecks.l1]; rw [if_neg (by omega)]) ?_
    refine Ev.bind (tab_ev hs) (Ev.bind (rtab_ev hs) ?_)
    have e : (((if okT l = true then (0 : Int) else 4) == 0) == okT l) = true := by cases okT l <;> rfl
    simp only [e, if_true]
    have w0 : wrap64 0 = 0 := by unfold wrap64; omega
    have b1 := bytes_t_l0 l hs hl l.length 0 0 w0 (by omega) (by omega)
    have b2 := rbytes_l0 l hs hl l.length 0 0 w0 (by omega) (by omega)
    refine Ev.bind b1 (Ev.bind b2 ?_)
    simp only [if_true, itab_New.f, sextonref09_New.f, Option.bind_some]
    refine Ev.bind (inodes_ev (l := [⟨1, (⟨2, 1, 0, 0⟩ : S26), [], [], 0⟩]) (fun x hx => by rw [List.mem_singleton.1 hx]; simp) (by simp)) ?_
    simp only [if_true]
    exact Ev.bind again_ev (Ev.now _)
  | succ d ih =>
    intro i h1 h2
    have hlt : i < u.length := by omega
    refine Ev.step (fun k => ?_) (ih (i + 1) (by omega) (by omega))
    simp only [sextonlaw09_ItabChecks.l1]
    rw [if_pos (by omega), if_pos (by omega), if_pos (by omega), if_pos (by omega), if_neg (by simp), wr1 i (by omega)]
theorem checks_l0 (l : List S30) (hs : Sm l) (hl : l.length ≤ 8796093022207) (d : Nat) : ∀ (i : Nat) (acc : List S24), i ≤ l.length → l.length - i = d → acc.length ≤ i → acc ++ usd l i = usd l 0 → Ev (fun k => sextonlaw09_ItabChecks.l0 k l acc l l.length i) true := by
  induction d with
  | zero =>
    intro i acc h1 h2 h3 h4
    obtain rfl : i = l.length := by omega
    rw [usd_end, List.append_nil] at h4
    subst h4
    refine Ev.step (fun k => by simp only [sextonlaw09_ItabChecks.l0]; rw [if_neg (by omega)]) ?_
    refine Ev.bind (used_ev (by omega)) ?_
    simp only [if_true]
    exact checks_l1 l hs (by omega) _ (by omega) _ 0 (by omega) rfl
  | succ d ih =>
    intro i acc h1 h2 h3 h4
    rw [usd_step l i (by omega)] at h4
    by_cases c : (rd_T30 l i).f1.f0 = 0
    · rw [if_pos c, List.nil_append] at h4
      refine Ev.step (fun k => ?_) (ih (i + 1) acc (by omega) (by omega) (by omega) h4)
      simp only [sextonlaw09_ItabChecks.l0]; rw [if_pos (by omega), if_pos (by omega), if_pos (by omega), if_pos c, wr1 i (by omega)]
    · rw [if_neg c, ← List.append_assoc] at h4
      refine Ev.step (fun k => ?_) (ih (i + 1) _ (by omega) (by omega) (by simp; omega) h4)
      simp only [sextonlaw09_ItabChecks.l0]; rw [if_pos (by omega), if_pos (by omega), if_pos (by omega), if_neg c, if_pos (by omega), wr1 i (by omega)]
theorem ItabChecks_pure : ∀ (l0 : List (S30)), ((l0.length * 96 ≤ reachBytes ∧ ∀ x ∈ l0, b30 x)) → ∃ k, sextonlaw09_ItabChecks.f k l0 = some true := by
  intro l ⟨hl, hb⟩
  have hr : reachBytes = 0x7ffffffff000 := rfl
  refine Ev.rounds ?_
  exact checks_l0 l (Sm_b hb) (by omega) l.length 0 [] (by omega) (by omega) (by simp) rfl

end Go.Proofs.Ytgepphlkibnhdaa.PItab
