/- sextonplain.Inodes at two tables that are alike: it answers true. (At others this text says nothing: no law of this part asks it there.) -/
import Derived.WalkKit
import Derived.Lib.Walk
import Derived.Lib.Hide
import Derived.Test.YtgepphlkibnhdaaPItabx0
import Derived.Test.YtgepphlkibnhdaaPItabx5
import Derived.Test.YtgepphlkibnhdaaPItabx6
namespace Go.Proofs.Ytgepphlkibnhdaa.PItab
open Go Go.RowKit Go.Proofs.YtgepphlkibnhdaaW.PrintWords Go.Proofs.YtgepphlkibnhdaaW.PrintLast Go.Proofs.YtgepphlkibnhdaaW.PrintMore
set_option linter.unusedVariables false
set_option linter.unusedSimpArgs false

def eq24 (x y : S24) : Bool := x.f0 == y.f0 && x.f1 == y.f1
def eq26 (x y : S26) : Bool := x.f0 == y.f0 && x.f1 == y.f1 && x.f2 == y.f2 && x.f3 == y.f3
def eq73 (x y : S73) : Bool := x.f0 == y.f0 && x.f1.data.toList == y.f1.data.toList
def eq75 (x y : S75) : Bool := x.f0.data.toList == y.f0.data.toList && x.f1 == y.f1 && eq24 x.f2 y.f2
def eqL {α : Type} (e : α → α → Bool) : List α → List α → Bool
  | [], [] => true
  | x :: l, y :: m => e x y && eqL e l m
  | _, _ => false
theorem eqL_eq {α : Type} {e : α → α → Bool} (he : ∀ x y, e x y = true → x = y) : ∀ l m, eqL e l m = true → l = m
  | [], [], _ => rfl
  | x :: l, y :: m, h => by
    simp only [eqL, Bool.and_eq_true] at h
    rw [he x y h.1, eqL_eq he l m h.2]
  | [], y :: m, h => by cases h
  | x :: l, [], h => by cases h
theorem eqL_refl {α : Type} {e : α → α → Bool} (he : ∀ x, e x x = true) : ∀ l, eqL e l l = true
  | [] => rfl
  | x :: l => by simp [eqL, he x, eqL_refl he l]
theorem eq24_eq (x y : S24) (h : eq24 x y = true) : x = y := by cases x; cases y; simp [eq24] at h; simp [h]
theorem eq26_eq (x y : S26) (h : eq26 x y = true) : x = y := by cases x; cases y; simp [eq26] at h; simp [h]
theorem eq73_eq (x y : S73) (h : eq73 x y = true) : x = y := by
  cases x; cases y
  simp only [eq73, Bool.and_eq_true, beq_iff_eq] at h
  simp only [S73.mk.injEq]
  exact ⟨h.1, ByteArray.ext (Array.ext' h.2)⟩
theorem eq75_eq (x y : S75) (h : eq75 x y = true) : x = y := by
  cases x; cases y
  simp only [eq75, Bool.and_eq_true, beq_iff_eq] at h
  simp only [S75.mk.injEq]
  exact ⟨ByteArray.ext (Array.ext' h.1.1), h.1.2, eq24_eq _ _ h.2⟩
def eq30 (x y : S30) : Bool := x.f0 == y.f0 && eq26 x.f1 y.f1 && eqL eq73 x.f2 y.f2 && eqL eq75 x.f3 y.f3 && x.f4 == y.f4
theorem eq30_eq (x y : S30) (h : eq30 x y = true) : x = y := by
  cases x; cases y
  simp only [eq30, Bool.and_eq_true, beq_iff_eq] at h
  simp only [S30.mk.injEq]
  exact ⟨h.1.1.1.1, eq26_eq _ _ h.1.1.1.2, eqL_eq eq73_eq _ _ h.1.1.2, eqL_eq eq75_eq _ _ h.1.2, h.2⟩
theorem eq30_refl (x : S30) : eq30 x x = true := by
  have h73 : ∀ x, eq73 x x = true := fun x => by simp [eq73]
  have h75 : ∀ x, eq75 x x = true := fun x => by simp [eq75, eq24]
  simp [eq30, eq26, eqL_refl h73, eqL_refl h75]
theorem wrI (i : Nat) (h : i < 9223372036854775807) : wrap64 ((i : Int) + 1) = ((i + 1 : Nat) : Int) := by unfold wrap64; omega
theorem runs_same (l : List S73) (hl : l.length ≤ 9223372036854775806) (n : Nat) : ∀ (k i : Nat), n < k → i ≤ l.length → l.length - i = n → sextonplain_Runs.l0 k l l l.length i = some true := by
  induction n with
  | zero =>
    intro k i hk h1 h2
    obtain ⟨k, rfl⟩ : ∃ m, k = m + 1 := ⟨k - 1, by omega⟩
    simp only [sextonplain_Runs.l0]; rw [if_neg (by omega)]; simp
  | succ n ih =>
    intro k i hk h1 h2
    obtain ⟨k, rfl⟩ : ∃ m, k = m + 1 := ⟨k - 1, by omega⟩
    simp only [sextonplain_Runs.l0]
    rw [if_pos (by omega), if_neg (by omega), if_pos (by omega), if_pos (by omega), if_pos (by omega), if_neg (by simp), wrI i (by omega)]
    exact ih k (i + 1) (by omega) (by omega) (by omega)
theorem entries_same (l : List S75) (hl : l.length ≤ 9223372036854775806) (n : Nat) : ∀ (k i : Nat), n < k → i ≤ l.length → l.length - i = n → sextonplain_Entries.l0 k l l l.length i = some true := by
  induction n with
  | zero =>
    intro k i hk h1 h2
    obtain ⟨k, rfl⟩ : ∃ m, k = m + 1 := ⟨k - 1, by omega⟩
    simp only [sextonplain_Entries.l0]; rw [if_neg (by omega)]; simp
  | succ n ih =>
    intro k i hk h1 h2
    obtain ⟨k, rfl⟩ : ∃ m, k = m + 1 := ⟨k - 1, by omega⟩
    simp only [sextonplain_Entries.l0]
    rw [if_pos (by omega), if_neg (by omega), if_pos (by omega), if_pos (by omega), if_pos (by omega), if_neg (by simp), wrI i (by omega)]
    exact ih k (i + 1) (by omega) (by omega) (by omega)
def small (x : S30) : Bool := decide (x.f2.length ≤ 5900000000000) && decide (x.f3.length ≤ 5900000000000)
def sextonplain_Inodes.f (k : Nat) (l0 l1 : List S30) : Option Bool := if (eqL eq30 l0 l1 && l0.all small) = true ∧ l0.length ≤ 1000000000000 then some true else none
theorem sextonplain_Inodes.mono : ∀ a0 a1 k, LeO (sextonplain_Inodes.f k a0 a1) (sextonplain_Inodes.f (k + 1) a0 a1) := fun _ _ _ => fun _ h => h
set_option maxHeartbeats 8000000 in
set_option maxRecDepth 100000 in
theorem same_calls (A0 : Option Addr) (c0 : Nat) (A1 : Option Addr) (c1 : Nat) (l : List S30) (w : World) (hr0 : Kd.C k30 w A0 l.length l) (hr1 : Kd.C k30 w A1 l.length l) (hlim : l.length ≤ 1000000000000) (hsm : ∀ x ∈ l, x.f2.length ≤ 5900000000000 ∧ x.f3.length ≤ 5900000000000) :
    Calls Try.prog 12 #[.slice A0 l.length c0, .slice A1 l.length c1] w fun e w' => e = .returned (.bool true) ∧ Below w.heap.size w w' := by
  have hu30 := Try.underlying30
  have hu26 := Try.underlying26
  have HR0 := Aside0.mk hr0
  have HR1 := Aside0.mk hr1
  have HSM := Aside0.mk hsm
  clear hr0 hr1 hsm
  go_enter Try.func12, Try.ntmps12
  go_wp2
  go_loopw [5, 8] (fun _ i wr => ∃ k : Nat, k ≤ l.length ∧ i = .int .i64 k ∧ Below w.heap.size w wr) (fun _ i _ => l.length - (intOf i).toNat)
  case atStart => exact ⟨0, Nat.zero_le _, rfl, Below.refl _ _⟩
  case round =>
    obtain ⟨k, hk, rfl, hB⟩ := hrel
    by_cases hlt : k < l.length
    · have hltI : (k : Int) < (l.length : Int) := by omega
      have hnle : ¬ ((l.length : Int) ≤ (k : Int)) := by omega
      obtain ⟨ad, A5, c5, A6, c6, rfl, x0, x1, x2, x3, x4, x5, x6, x7, l5, g5, l6, g6⟩ := at_T30 (Kd.C_below HR0.out hB) (k : Int) (by omega) hltI
      obtain ⟨ad', A5', c5', A6', c6', rfl, y0, y1, y2, y3, y4, y5, y6, y7, m5, j5, m6, j6⟩ := at_T30 (Kd.C_below HR1.out hB) (k : Int) (by omega) hltI
      simp only [Int.toNat_natCast] at x0 x1 x2 x3 x4 x5 x6 x7 y0 y1 y2 y3 y4 y5 y6 y7
      have hxm : (rd_T30 l (k : Int)).f2.length ≤ 5900000000000 ∧ (rd_T30 l (k : Int)).f3.length ≤ 5900000000000 := by
        have e : rd_T30 l (k : Int) = l[k] := by simp [rd_T30, List.getD_eq_getElem?_getD, List.getElem?_eq_getElem hlt]
        rw [e]
        exact HSM.out _ (List.getElem_mem hlt)
      generalize rd_T30 l (k : Int) = x at *
      have hr : sextonplain_Runs.f (x.f2.length + 1) x.f2 x.f2 = some true := runs_same x.f2 (by omega) x.f2.length _ 0 (by omega) (by omega) (by omega)
      have he : sextonplain_Entries.f (x.f3.length + 1) x.f3 x.f3 = some true := entries_same x.f3 (by omega) x.f3.length _ 0 (by omega) (by omega) (by omega)
      have H := Aside0.mk (And.intro hr (And.intro he (And.intro g5 (And.intro g6 (And.intro j5 (And.intro j6 (And.intro l5 (And.intro l6 (And.intro m5 m6)))))))))
      have HB := Aside0.mk hB
      clear hr he g5 g6 j5 j6 l5 l6 m5 m6 hxm hB
      go_wp2_with fail
      go_quiet (first | (go_at_call 30; refine (sextonplain_Runs.calls (x.f2.length + 1) _ _ x.f2 _ _ x.f2 true _ ?s1 H.out.2.2.2.2.2.2.1 ?s2 H.out.2.2.2.2.2.2.2.2.1 H.out.1).mono ?_; (case s1 => repeat (first | exact H.out.2.2.1 | refine Kd.C_drewN ?_ _ | refine Kd.C_drew ?_)); (case s2 => repeat (first | exact H.out.2.2.2.2.1 | refine Kd.C_drewN ?_ _ | refine Kd.C_drew ?_)); rintro e w' ⟨rfl, ⟨nd, rfl⟩⟩; (try first | exact ⟨rfl, _, World.drewN_drewN _ _ _⟩ | exact ⟨rfl, _, Eq.trans (World.drewN_drewN _ _ _) (congrArg (World.drewN _) (Nat.add_assoc _ _ _))⟩)) | (go_at_call 31; refine (sextonplain_Entries.calls (x.f3.length + 1) _ _ x.f3 _ _ x.f3 true _ ?s1 H.out.2.2.2.2.2.2.2.1 ?s2 H.out.2.2.2.2.2.2.2.2.2 H.out.2.1).mono ?_; (case s1 => repeat (first | exact H.out.2.2.2.1 | refine Kd.C_drewN ?_ _ | refine Kd.C_drew ?_)); (case s2 => repeat (first | exact H.out.2.2.2.2.2.1 | refine Kd.C_drewN ?_ _ | refine Kd.C_drew ?_)); rintro e w' ⟨rfl, ⟨nd, rfl⟩⟩; (try first | exact ⟨rfl, _, World.drewN_drewN _ _ _⟩ | exact ⟨rfl, _, Eq.trans (World.drewN_drewN _ _ _) (congrArg (World.drewN _) (Nat.add_assoc _ _ _))⟩)))
      go_wp2
      exact ⟨⟨k + 1, by omega, by congr 1, pw_below_drewN HB.out _⟩, by simp only [intOf]; omega⟩
    · go_wp2
      go_ret
      exact ⟨by simp, hB⟩
theorem sextonplain_Inodes.calls (k : Nat) (A0 : Option Addr) (c0 : Nat) (l0 : List S30) (A1 : Option Addr) (c1 : Nat) (l1 : List S30) (r : Bool) (w : World) (hr0 : Kd.C k30 w A0 l0.length l0) (hc0 : l0.length ≤ c0) (hr1 : Kd.C k30 w A1 l1.length l1) (hc1 : l1.length ≤ c1) (h : sextonplain_Inodes.f k l0 l1 = some r) :
    Calls Try.prog 12 #[.slice A0 l0.length c0, .slice A1 l1.length c1] w fun e w' => e = .returned (.bool r) ∧ Below w.heap.size w w' := by
  unfold sextonplain_Inodes.f at h
  split at h
  · rename_i hl
    obtain rfl := Option.some.inj h
    obtain ⟨h1, h2⟩ := hl
    rw [Bool.and_eq_true] at h1
    obtain rfl := eqL_eq eq30_eq l0 l1 h1.1
    exact same_calls A0 c0 A1 c1 l0 w hr0 hr1 h2 (fun x hx => by have := List.all_eq_true.1 h1.2 x hx; simpa [small] using this)
  · cases h
end Go.Proofs.Ytgepphlkibnhdaa.PItab
