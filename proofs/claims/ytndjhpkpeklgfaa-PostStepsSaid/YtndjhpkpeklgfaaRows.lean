/-
  No cell of these rows narrows 'for every input' (looked for: loops, veiled, ifaces, maps, wideKeys, modest, calm, conditions, laid).
  DERIVED. THE GIVEN ROWS OF THIS SEAT. 5 by the template 'for every input the law returns true; each argument reads behind the call as it read before'; 0 by the template 'total and deterministic' (their statements: YtndjhpkpeklgfaaTotals.lean).
  GIVEN WITH THE SEED: the statements are not yours to turn. If you find one false, say at which input.
  Laid BY PROGRAM, IN A SANDBOX (cutbox-rows.mjs): the forced cells as the released guide's own fill.sh prints them over the translation 0118dafd0bdc2e4f… (all of the seat's roots in one cut). By AI agents, Wed Nov 11 2026. No macro, syntax, notation, axiom, sorry.
-/
import Derived.Test.YtndjhpkpeklgfaaChecked
import GoSem.Claim
import GoSem.ClaimJoined
import GoSem.ClaimMapViews
import Derived.JoinedTies
import Derived.KernelRfl
namespace Go.Proofs.Ytndjhpkpeklgfaa
/- THE CELL 'sum', in the pinned program and in every row, IS THE sha256 OF THE DUMP (.gsa) THAT YtndjhpkpeklgfaaProg.lean LOADS. Nothing in Lean hashes anything: it is a label: what it is worth is what the hold of that sum in a sandbox is worth. -/
noncomputable def Try.pinned : Pinned := { name := "ytndjhpkpeklgfaa", sum := "0118dafd0bdc2e4f45b3311843af5f93562cef432bde9e4148d37281c00b31c3", checked := Try.checked }
namespace Rows
def none {H : Type} : Left H := { results := [], args := [] }

/-- 'sextonlaw04.PostOnce': WHATEVER THE INPUT: true; the input reads as it did. -/
def postOnceSpec : ChangeSpec := { name := "postOnce", fn := fun _ => fun
  | [d] => { results := [.lit (.bool true)], args := [d] }
  | _ => none }
def postOnceRow : OpenClaim := { program := "ytndjhpkpeklgfaa", sum := "0118dafd0bdc2e4f45b3311843af5f93562cef432bde9e4148d37281c00b31c3", func := "sexton/sextonlaw04.PostOnce", spec := "postOnce", unfollowed := true, recurses := true, apart := false }
def PostOnceSaid : Prop := postOnceRow.holds Try.pinned (OpenSpec.ofChange postOnceSpec)

/-- ITS FALSE NEIGHBOUR: 'it returns false'. Refute it at one input. -/
def postOnceWrong : ChangeSpec := { name := "postOnce", fn := fun _ => fun
  | [d] => { results := [.lit (.bool false)], args := [d] }
  | _ => none }
def PostOnceWrongFalsely : Prop := postOnceRow.holds Try.pinned (OpenSpec.ofChange postOnceWrong)

/-- 'sextonlaw04.PostFlips': WHATEVER THE INPUT: true; the input reads as it did. -/
def postFlipsSpec : ChangeSpec := { name := "postFlips", fn := fun _ => fun
  | [d1, d2] => { results := [.lit (.bool true)], args := [d1, d2] }
  | _ => none }
def postFlipsRow : OpenClaim := { program := "ytndjhpkpeklgfaa", sum := "0118dafd0bdc2e4f45b3311843af5f93562cef432bde9e4148d37281c00b31c3", func := "sexton/sextonlaw04.PostFlips", spec := "postFlips", unfollowed := true, recurses := true, apart := false }
def PostFlipsSaid : Prop := postFlipsRow.holds Try.pinned (OpenSpec.ofChange postFlipsSpec)

/-- ITS FALSE NEIGHBOUR: 'it returns false'. Refute it at one input. -/
def postFlipsWrong : ChangeSpec := { name := "postFlips", fn := fun _ => fun
  | [d1, d2] => { results := [.lit (.bool false)], args := [d1, d2] }
  | _ => none }
def PostFlipsWrongFalsely : Prop := postFlipsRow.holds Try.pinned (OpenSpec.ofChange postFlipsWrong)

/-- 'sextonlaw04.PostOthers': WHATEVER THE INPUT: true; the input reads as it did. -/
def postOthersSpec : ChangeSpec := { name := "postOthers", fn := fun _ => fun
  | [d1, d2, d3] => { results := [.lit (.bool true)], args := [d1, d2, d3] }
  | _ => none }
def postOthersRow : OpenClaim := { program := "ytndjhpkpeklgfaa", sum := "0118dafd0bdc2e4f45b3311843af5f93562cef432bde9e4148d37281c00b31c3", func := "sexton/sextonlaw04.PostOthers", spec := "postOthers", unfollowed := true, recurses := true, apart := false }
def PostOthersSaid : Prop := postOthersRow.holds Try.pinned (OpenSpec.ofChange postOthersSpec)

/-- ITS FALSE NEIGHBOUR: 'it returns false'. Refute it at one input. -/
def postOthersWrong : ChangeSpec := { name := "postOthers", fn := fun _ => fun
  | [d1, d2, d3] => { results := [.lit (.bool false)], args := [d1, d2, d3] }
  | _ => none }
def PostOthersWrongFalsely : Prop := postOthersRow.holds Try.pinned (OpenSpec.ofChange postOthersWrong)

/-- 'sextonlaw04.PostSteps': WHATEVER THE INPUT: true; the input reads as it did. -/
def postStepsSpec : ChangeSpec := { name := "postSteps", fn := fun _ => fun
  | [d1, d2] => { results := [.lit (.bool true)], args := [d1, d2] }
  | _ => none }
def postStepsRow : OpenClaim := { program := "ytndjhpkpeklgfaa", sum := "0118dafd0bdc2e4f45b3311843af5f93562cef432bde9e4148d37281c00b31c3", func := "sexton/sextonlaw04.PostSteps", spec := "postSteps", unfollowed := true, recurses := true, apart := false }
def PostStepsSaid : Prop := postStepsRow.holds Try.pinned (OpenSpec.ofChange postStepsSpec)

/-- ITS FALSE NEIGHBOUR: 'it returns false'. Refute it at one input. -/
def postStepsWrong : ChangeSpec := { name := "postSteps", fn := fun _ => fun
  | [d1, d2] => { results := [.lit (.bool false)], args := [d1, d2] }
  | _ => none }
def PostStepsWrongFalsely : Prop := postStepsRow.holds Try.pinned (OpenSpec.ofChange postStepsWrong)

/-- 'sextonlaw04.PostNil': WHATEVER THE INPUT: true; the input reads as it did. -/
def postNilSpec : ChangeSpec := { name := "postNil", fn := fun _ => fun
  | [d1, d2] => { results := [.lit (.bool true)], args := [d1, d2] }
  | _ => none }
def postNilRow : OpenClaim := { program := "ytndjhpkpeklgfaa", sum := "0118dafd0bdc2e4f45b3311843af5f93562cef432bde9e4148d37281c00b31c3", func := "sexton/sextonlaw04.PostNil", spec := "postNil", unfollowed := true, recurses := true, apart := false }
def PostNilSaid : Prop := postNilRow.holds Try.pinned (OpenSpec.ofChange postNilSpec)

/-- ITS FALSE NEIGHBOUR: 'it returns false'. Refute it at one input. -/
def postNilWrong : ChangeSpec := { name := "postNil", fn := fun _ => fun
  | [d1, d2] => { results := [.lit (.bool false)], args := [d1, d2] }
  | _ => none }
def PostNilWrongFalsely : Prop := postNilRow.holds Try.pinned (OpenSpec.ofChange postNilWrong)

/- THE SECOND FORM. 'bulk': how many values and letters a reading holds, each counted each time it is reached (what is shared counts as often as it is met; a slice's spare places count too). A statement '..UptoSaid' is the law's where the arguments, and the package variables that the reading takes, are together of bulk at most 1048576: NARROWER than '..Said'. Prove '..Said' where nothing that the law and all that it calls make is longer than what came in: it says more and counts as full. Else prove '..UptoSaid'. A law counts once. -/
mutual
def uptoBulk {H : Type} : DataW H → Nat
  | .lit (.string bytes) => bytes.length + 1
  | .lit _ => 1
  | .nil => 1
  | .ptr d => uptoBulk d + 1
  | .slice elems spare => uptoBulkAll elems + uptoBulkAll spare + 1
  | .agg parts => uptoBulkAll parts + 1
  | .iface _ d => uptoBulk d + 1
  | .map entries => uptoBulkEntries entries + 1
  | .held _ => 1
def uptoBulkAll {H : Type} : List (DataW H) → Nat
  | [] => 0
  | d :: r => uptoBulk d + uptoBulkAll r
def uptoBulkEntries {H : Type} : List (Lit × DataW H) → Nat
  | [] => 0
  | x :: r => uptoBulkEntry x + uptoBulkEntries r
def uptoBulkEntry {H : Type} : Lit × DataW H → Nat
  | (.string bytes, d) => bytes.length + uptoBulk d + 1
  | (_, d) => uptoBulk d + 1
 end
def uptoSmall : (H : Type) → List (DataW H) → Bool := fun _ ds => decide (uptoBulkAll ds ≤ 1048576)
def OpenSpec.upto (s : _root_.Go.ChangeSpec) : _root_.Go.OpenSpec := { _root_.Go.OpenSpec.ofChange s with cond := some uptoSmall }

/-- 'sextonlaw04.PostOnce', WHERE WHAT IT READS IS OF BULK AT MOST 1048576: true; the input reads as it did. -/
def postOnceUptoRow : OpenClaim := { program := "ytndjhpkpeklgfaa", sum := "0118dafd0bdc2e4f45b3311843af5f93562cef432bde9e4148d37281c00b31c3", func := "sexton/sextonlaw04.PostOnce", spec := "postOnce", unfollowed := true, recurses := true, apart := false, narrowed := true }
def PostOnceUptoSaid : Prop := postOnceUptoRow.holds Try.pinned (OpenSpec.upto postOnceSpec)

/-- 'sextonlaw04.PostFlips', WHERE WHAT IT READS IS OF BULK AT MOST 1048576: true; the input reads as it did. -/
def postFlipsUptoRow : OpenClaim := { program := "ytndjhpkpeklgfaa", sum := "0118dafd0bdc2e4f45b3311843af5f93562cef432bde9e4148d37281c00b31c3", func := "sexton/sextonlaw04.PostFlips", spec := "postFlips", unfollowed := true, recurses := true, apart := false, narrowed := true }
def PostFlipsUptoSaid : Prop := postFlipsUptoRow.holds Try.pinned (OpenSpec.upto postFlipsSpec)

/-- 'sextonlaw04.PostOthers', WHERE WHAT IT READS IS OF BULK AT MOST 1048576: true; the input reads as it did. -/
def postOthersUptoRow : OpenClaim := { program := "ytndjhpkpeklgfaa", sum := "0118dafd0bdc2e4f45b3311843af5f93562cef432bde9e4148d37281c00b31c3", func := "sexton/sextonlaw04.PostOthers", spec := "postOthers", unfollowed := true, recurses := true, apart := false, narrowed := true }
def PostOthersUptoSaid : Prop := postOthersUptoRow.holds Try.pinned (OpenSpec.upto postOthersSpec)

/-- 'sextonlaw04.PostSteps', WHERE WHAT IT READS IS OF BULK AT MOST 1048576: true; the input reads as it did. -/
def postStepsUptoRow : OpenClaim := { program := "ytndjhpkpeklgfaa", sum := "0118dafd0bdc2e4f45b3311843af5f93562cef432bde9e4148d37281c00b31c3", func := "sexton/sextonlaw04.PostSteps", spec := "postSteps", unfollowed := true, recurses := true, apart := false, narrowed := true }
def PostStepsUptoSaid : Prop := postStepsUptoRow.holds Try.pinned (OpenSpec.upto postStepsSpec)

/-- 'sextonlaw04.PostNil', WHERE WHAT IT READS IS OF BULK AT MOST 1048576: true; the input reads as it did. -/
def postNilUptoRow : OpenClaim := { program := "ytndjhpkpeklgfaa", sum := "0118dafd0bdc2e4f45b3311843af5f93562cef432bde9e4148d37281c00b31c3", func := "sexton/sextonlaw04.PostNil", spec := "postNil", unfollowed := true, recurses := true, apart := false, narrowed := true }
def PostNilUptoSaid : Prop := postNilUptoRow.holds Try.pinned (OpenSpec.upto postNilSpec)

end Rows
end Go.Proofs.Ytndjhpkpeklgfaa
