/-
  No cell of these rows narrows 'for every input' (looked for: loops, veiled, ifaces, maps, wideKeys, modest, calm, conditions, laid).
  DERIVED. THE GIVEN ROWS OF THIS SEAT. 5 by the template 'for every input the law returns true; each argument reads behind the call as it read before'; 0 by the template 'total and deterministic' (their statements: YtnenheaijacphaaTotals.lean).
  GIVEN WITH THE SEED: the statements are not yours to turn. If you find one false, say at which input.
  Laid BY PROGRAM, IN A SANDBOX (cutbox-rows.mjs): the forced cells as the released guide's own fill.sh prints them over the translation 1eeb8571628b140c… (all of the seat's roots in one cut). By AI agents, Wed Nov 11 2026. No macro, syntax, notation, axiom, sorry.
-/
import Derived.Test.YtnenheaijacphaaChecked
import GoSem.Claim
import GoSem.ClaimJoined
import GoSem.ClaimMapViews
import Derived.JoinedTies
import Derived.KernelRfl
namespace Go.Proofs.Ytnenheaijacphaa
/- THE CELL 'sum', in the pinned program and in every row, IS THE sha256 OF THE DUMP (.gsa) THAT YtnenheaijacphaaProg.lean LOADS. Nothing in Lean hashes anything: it is a label: what it is worth is what the hold of that sum in a sandbox is worth. -/
noncomputable def Try.pinned : Pinned := { name := "ytnenheaijacphaa", sum := "1eeb8571628b140c1a313b01f7a5c861f0d1c797550ef0fd4e5bbbab7a5c9599", checked := Try.checked }
namespace Rows
def none {H : Type} : Left H := { results := [], args := [] }

/-- 'sextonlaw03.AlarmOrder': WHATEVER THE INPUT: true; the input reads as it did. -/
def alarmOrderSpec : ChangeSpec := { name := "alarmOrder", fn := fun _ => fun
  | [d1, d2] => { results := [.lit (.bool true)], args := [d1, d2] }
  | _ => none }
def alarmOrderRow : OpenClaim := { program := "ytnenheaijacphaa", sum := "1eeb8571628b140c1a313b01f7a5c861f0d1c797550ef0fd4e5bbbab7a5c9599", func := "sexton/sextonlaw03.AlarmOrder", spec := "alarmOrder", unfollowed := true, recurses := true, apart := false }
def AlarmOrderSaid : Prop := alarmOrderRow.holds Try.pinned (OpenSpec.ofChange alarmOrderSpec)

/-- ITS FALSE NEIGHBOUR: 'it returns false'. Refute it at one input. -/
def alarmOrderWrong : ChangeSpec := { name := "alarmOrder", fn := fun _ => fun
  | [d1, d2] => { results := [.lit (.bool false)], args := [d1, d2] }
  | _ => none }
def AlarmOrderWrongFalsely : Prop := alarmOrderRow.holds Try.pinned (OpenSpec.ofChange alarmOrderWrong)

/-- 'sextonlaw03.AlarmLast': WHATEVER THE INPUT: true; the input reads as it did. -/
def alarmLastSpec : ChangeSpec := { name := "alarmLast", fn := fun _ => fun
  | [d1, d2, d3] => { results := [.lit (.bool true)], args := [d1, d2, d3] }
  | _ => none }
def alarmLastRow : OpenClaim := { program := "ytnenheaijacphaa", sum := "1eeb8571628b140c1a313b01f7a5c861f0d1c797550ef0fd4e5bbbab7a5c9599", func := "sexton/sextonlaw03.AlarmLast", spec := "alarmLast", unfollowed := true, recurses := true, apart := false }
def AlarmLastSaid : Prop := alarmLastRow.holds Try.pinned (OpenSpec.ofChange alarmLastSpec)

/-- ITS FALSE NEIGHBOUR: 'it returns false'. Refute it at one input. -/
def alarmLastWrong : ChangeSpec := { name := "alarmLast", fn := fun _ => fun
  | [d1, d2, d3] => { results := [.lit (.bool false)], args := [d1, d2, d3] }
  | _ => none }
def AlarmLastWrongFalsely : Prop := alarmLastRow.holds Try.pinned (OpenSpec.ofChange alarmLastWrong)

/-- 'sextonlaw03.AlarmSteps': WHATEVER THE INPUT: true; the input reads as it did. -/
def alarmStepsSpec : ChangeSpec := { name := "alarmSteps", fn := fun _ => fun
  | [d] => { results := [.lit (.bool true)], args := [d] }
  | _ => none }
def alarmStepsRow : OpenClaim := { program := "ytnenheaijacphaa", sum := "1eeb8571628b140c1a313b01f7a5c861f0d1c797550ef0fd4e5bbbab7a5c9599", func := "sexton/sextonlaw03.AlarmSteps", spec := "alarmSteps", unfollowed := true, recurses := true, apart := false }
def AlarmStepsSaid : Prop := alarmStepsRow.holds Try.pinned (OpenSpec.ofChange alarmStepsSpec)

/-- ITS FALSE NEIGHBOUR: 'it returns false'. Refute it at one input. -/
def alarmStepsWrong : ChangeSpec := { name := "alarmSteps", fn := fun _ => fun
  | [d] => { results := [.lit (.bool false)], args := [d] }
  | _ => none }
def AlarmStepsWrongFalsely : Prop := alarmStepsRow.holds Try.pinned (OpenSpec.ofChange alarmStepsWrong)

/-- 'sextonlaw03.AlarmOnce': WHATEVER THE INPUT: true; the input reads as it did. -/
def alarmOnceSpec : ChangeSpec := { name := "alarmOnce", fn := fun _ => fun
  | [d] => { results := [.lit (.bool true)], args := [d] }
  | _ => none }
def alarmOnceRow : OpenClaim := { program := "ytnenheaijacphaa", sum := "1eeb8571628b140c1a313b01f7a5c861f0d1c797550ef0fd4e5bbbab7a5c9599", func := "sexton/sextonlaw03.AlarmOnce", spec := "alarmOnce", unfollowed := true, recurses := true, apart := false }
def AlarmOnceSaid : Prop := alarmOnceRow.holds Try.pinned (OpenSpec.ofChange alarmOnceSpec)

/-- ITS FALSE NEIGHBOUR: 'it returns false'. Refute it at one input. -/
def alarmOnceWrong : ChangeSpec := { name := "alarmOnce", fn := fun _ => fun
  | [d] => { results := [.lit (.bool false)], args := [d] }
  | _ => none }
def AlarmOnceWrongFalsely : Prop := alarmOnceRow.holds Try.pinned (OpenSpec.ofChange alarmOnceWrong)

/-- 'sextonlaw03.AlarmNil': WHATEVER THE INPUT: true; the input reads as it did. -/
def alarmNilSpec : ChangeSpec := { name := "alarmNil", fn := fun _ => fun
  | [d1, d2] => { results := [.lit (.bool true)], args := [d1, d2] }
  | _ => none }
def alarmNilRow : OpenClaim := { program := "ytnenheaijacphaa", sum := "1eeb8571628b140c1a313b01f7a5c861f0d1c797550ef0fd4e5bbbab7a5c9599", func := "sexton/sextonlaw03.AlarmNil", spec := "alarmNil", unfollowed := true, recurses := true, apart := false }
def AlarmNilSaid : Prop := alarmNilRow.holds Try.pinned (OpenSpec.ofChange alarmNilSpec)

/-- ITS FALSE NEIGHBOUR: 'it returns false'. Refute it at one input. -/
def alarmNilWrong : ChangeSpec := { name := "alarmNil", fn := fun _ => fun
  | [d1, d2] => { results := [.lit (.bool false)], args := [d1, d2] }
  | _ => none }
def AlarmNilWrongFalsely : Prop := alarmNilRow.holds Try.pinned (OpenSpec.ofChange alarmNilWrong)

/- THE SECOND FORM. 'bulk': how many values and letters a reading holds, each counted each time it is reached (what is shared counts as often as it is met; a slice's spare places count too). A statement '..UptoSaid' is the law's where the arguments, and the package variables that the reading takes, are together of bulk at most 1048576: NARROWER than '..Said'. Prove '..Said' where nothing that the law and all that it calls make is longer than what came in: it says more and counts as full. Else prove '..UptoSaid'. A law counts once. -/
mutual
def uptoBulk {H : Type} : DataW H → Nat
  | .lit (.string bytes) => bytes.length + 1
  | .lit _ => 1
  | .nil => 1
  | .ptr d => uptoBulk d + 1
  | .slice elems spare => uptoBulkAll elems + uptoBulkAll spare + 1
  | .agg parts => uptoBulkAll parts + 1
  | .iface _ d => uptoBulk d + 1
  | .map entries => uptoBulkEntries entries + 1
  | .held _ => 1
def uptoBulkAll {H : Type} : List (DataW H) → Nat
  | [] => 0
  | d :: r => uptoBulk d + uptoBulkAll r
def uptoBulkEntries {H : Type} : List (Lit × DataW H) → Nat
  | [] => 0
  | x :: r => uptoBulkEntry x + uptoBulkEntries r
def uptoBulkEntry {H : Type} : Lit × DataW H → Nat
  | (.string bytes, d) => bytes.length + uptoBulk d + 1
  | (_, d) => uptoBulk d + 1
 end
def uptoSmall : (H : Type) → List (DataW H) → Bool := fun _ ds => decide (uptoBulkAll ds ≤ 1048576)
def OpenSpec.upto (s : _root_.Go.ChangeSpec) : _root_.Go.OpenSpec := { _root_.Go.OpenSpec.ofChange s with cond := some uptoSmall }

/-- 'sextonlaw03.AlarmOrder', WHERE WHAT IT READS IS OF BULK AT MOST 1048576: true; the input reads as it did. -/
def alarmOrderUptoRow : OpenClaim := { program := "ytnenheaijacphaa", sum := "1eeb8571628b140c1a313b01f7a5c861f0d1c797550ef0fd4e5bbbab7a5c9599", func := "sexton/sextonlaw03.AlarmOrder", spec := "alarmOrder", unfollowed := true, recurses := true, apart := false, narrowed := true }
def AlarmOrderUptoSaid : Prop := alarmOrderUptoRow.holds Try.pinned (OpenSpec.upto alarmOrderSpec)

/-- 'sextonlaw03.AlarmLast', WHERE WHAT IT READS IS OF BULK AT MOST 1048576: true; the input reads as it did. -/
def alarmLastUptoRow : OpenClaim := { program := "ytnenheaijacphaa", sum := "1eeb8571628b140c1a313b01f7a5c861f0d1c797550ef0fd4e5bbbab7a5c9599", func := "sexton/sextonlaw03.AlarmLast", spec := "alarmLast", unfollowed := true, recurses := true, apart := false, narrowed := true }
def AlarmLastUptoSaid : Prop := alarmLastUptoRow.holds Try.pinned (OpenSpec.upto alarmLastSpec)

/-- 'sextonlaw03.AlarmSteps', WHERE WHAT IT READS IS OF BULK AT MOST 1048576: true; the input reads as it did. -/
def alarmStepsUptoRow : OpenClaim := { program := "ytnenheaijacphaa", sum := "1eeb8571628b140c1a313b01f7a5c861f0d1c797550ef0fd4e5bbbab7a5c9599", func := "sexton/sextonlaw03.AlarmSteps", spec := "alarmSteps", unfollowed := true, recurses := true, apart := false, narrowed := true }
def AlarmStepsUptoSaid : Prop := alarmStepsUptoRow.holds Try.pinned (OpenSpec.upto alarmStepsSpec)

/-- 'sextonlaw03.AlarmOnce', WHERE WHAT IT READS IS OF BULK AT MOST 1048576: true; the input reads as it did. -/
def alarmOnceUptoRow : OpenClaim := { program := "ytnenheaijacphaa", sum := "1eeb8571628b140c1a313b01f7a5c861f0d1c797550ef0fd4e5bbbab7a5c9599", func := "sexton/sextonlaw03.AlarmOnce", spec := "alarmOnce", unfollowed := true, recurses := true, apart := false, narrowed := true }
def AlarmOnceUptoSaid : Prop := alarmOnceUptoRow.holds Try.pinned (OpenSpec.upto alarmOnceSpec)

/-- 'sextonlaw03.AlarmNil', WHERE WHAT IT READS IS OF BULK AT MOST 1048576: true; the input reads as it did. -/
def alarmNilUptoRow : OpenClaim := { program := "ytnenheaijacphaa", sum := "1eeb8571628b140c1a313b01f7a5c861f0d1c797550ef0fd4e5bbbab7a5c9599", func := "sexton/sextonlaw03.AlarmNil", spec := "alarmNil", unfollowed := true, recurses := true, apart := false, narrowed := true }
def AlarmNilUptoSaid : Prop := alarmNilUptoRow.holds Try.pinned (OpenSpec.upto alarmNilSpec)

end Rows
end Go.Proofs.Ytnenheaijacphaa
