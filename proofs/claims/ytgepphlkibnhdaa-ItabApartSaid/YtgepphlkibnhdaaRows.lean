/-
  No cell of these rows narrows 'for every input' (looked for: loops, veiled, ifaces, maps, wideKeys, modest, calm, conditions, laid).
  DERIVED. THE GIVEN ROWS OF THIS SEAT. 7 by the template 'for every input the law returns true; each argument reads behind the call as it read before'; 0 by the template 'total and deterministic' (their statements: YtgepphlkibnhdaaTotals.lean).
  GIVEN WITH THE SEED: the statements are not yours to turn. If you find one false, say at which input.
  Laid BY PROGRAM, IN A SANDBOX (cutbox-rows.mjs): the forced cells as the released guide's own fill.sh prints them over the translation 7339381ce94f619e… (all of the seat's roots in one cut). By AI agents, Wed Nov 11 2026. No macro, syntax, notation, axiom, sorry.
-/
import Derived.Test.YtgepphlkibnhdaaChecked
import GoSem.Claim
import GoSem.ClaimJoined
import GoSem.ClaimMapViews
import Derived.JoinedTies
import Derived.KernelRfl
namespace Go.Proofs.Ytgepphlkibnhdaa
/- THE CELL 'sum', in the pinned program and in every row, IS THE sha256 OF THE DUMP (.gsa) THAT YtgepphlkibnhdaaProg.lean LOADS. Nothing in Lean hashes anything: it is a label: what it is worth is what the hold of that sum in a sandbox is worth. -/
noncomputable def Try.pinned : Pinned := { name := "ytgepphlkibnhdaa", sum := "7339381ce94f619e5b5a6c05ba510f57179cec79f84a278e86f514b1f2484e0d", checked := Try.checked }
namespace Rows
def none {H : Type} : Left H := { results := [], args := [] }

/-- 'sextonlaw09.ItabFinds': WHATEVER THE INPUT: true; the input reads as it did. -/
def itabFindsSpec : ChangeSpec := { name := "itabFinds", fn := fun _ => fun
  | [d1, d2] => { results := [.lit (.bool true)], args := [d1, d2] }
  | _ => none }
def itabFindsRow : OpenClaim := { program := "ytgepphlkibnhdaa", sum := "7339381ce94f619e5b5a6c05ba510f57179cec79f84a278e86f514b1f2484e0d", func := "sexton/sextonlaw09.ItabFinds", spec := "itabFinds", apart := false }
def ItabFindsSaid : Prop := itabFindsRow.holds Try.pinned (OpenSpec.ofChange itabFindsSpec)

/-- ITS FALSE NEIGHBOUR: 'it returns false'. Refute it at one input. -/
def itabFindsWrong : ChangeSpec := { name := "itabFinds", fn := fun _ => fun
  | [d1, d2] => { results := [.lit (.bool false)], args := [d1, d2] }
  | _ => none }
def ItabFindsWrongFalsely : Prop := itabFindsRow.holds Try.pinned (OpenSpec.ofChange itabFindsWrong)

/-- 'sextonlaw09.ItabMakes': WHATEVER THE INPUT: true; the input reads as it did. -/
def itabMakesSpec : ChangeSpec := { name := "itabMakes", fn := fun _ => fun
  | [d1, d2, d3] => { results := [.lit (.bool true)], args := [d1, d2, d3] }
  | _ => none }
def itabMakesRow : OpenClaim := { program := "ytgepphlkibnhdaa", sum := "7339381ce94f619e5b5a6c05ba510f57179cec79f84a278e86f514b1f2484e0d", func := "sexton/sextonlaw09.ItabMakes", spec := "itabMakes", apart := false }
def ItabMakesSaid : Prop := itabMakesRow.holds Try.pinned (OpenSpec.ofChange itabMakesSpec)

/-- ITS FALSE NEIGHBOUR: 'it returns false'. Refute it at one input. -/
def itabMakesWrong : ChangeSpec := { name := "itabMakes", fn := fun _ => fun
  | [d1, d2, d3] => { results := [.lit (.bool false)], args := [d1, d2, d3] }
  | _ => none }
def ItabMakesWrongFalsely : Prop := itabMakesRow.holds Try.pinned (OpenSpec.ofChange itabMakesWrong)

/-- 'sextonlaw09.ItabStale': WHATEVER THE INPUT: true; the input reads as it did. -/
def itabStaleSpec : ChangeSpec := { name := "itabStale", fn := fun _ => fun
  | [d] => { results := [.lit (.bool true)], args := [d] }
  | _ => none }
def itabStaleRow : OpenClaim := { program := "ytgepphlkibnhdaa", sum := "7339381ce94f619e5b5a6c05ba510f57179cec79f84a278e86f514b1f2484e0d", func := "sexton/sextonlaw09.ItabStale", spec := "itabStale", apart := false }
def ItabStaleSaid : Prop := itabStaleRow.holds Try.pinned (OpenSpec.ofChange itabStaleSpec)

/-- ITS FALSE NEIGHBOUR: 'it returns false'. Refute it at one input. -/
def itabStaleWrong : ChangeSpec := { name := "itabStale", fn := fun _ => fun
  | [d] => { results := [.lit (.bool false)], args := [d] }
  | _ => none }
def ItabStaleWrongFalsely : Prop := itabStaleRow.holds Try.pinned (OpenSpec.ofChange itabStaleWrong)

/-- 'sextonlaw09.ItabRoom': WHATEVER THE INPUT: true; the input reads as it did. -/
def itabRoomSpec : ChangeSpec := { name := "itabRoom", fn := fun _ => fun
  | [d1, d2] => { results := [.lit (.bool true)], args := [d1, d2] }
  | _ => none }
def itabRoomRow : OpenClaim := { program := "ytgepphlkibnhdaa", sum := "7339381ce94f619e5b5a6c05ba510f57179cec79f84a278e86f514b1f2484e0d", func := "sexton/sextonlaw09.ItabRoom", spec := "itabRoom", apart := false }
def ItabRoomSaid : Prop := itabRoomRow.holds Try.pinned (OpenSpec.ofChange itabRoomSpec)

/-- ITS FALSE NEIGHBOUR: 'it returns false'. Refute it at one input. -/
def itabRoomWrong : ChangeSpec := { name := "itabRoom", fn := fun _ => fun
  | [d1, d2] => { results := [.lit (.bool false)], args := [d1, d2] }
  | _ => none }
def ItabRoomWrongFalsely : Prop := itabRoomRow.holds Try.pinned (OpenSpec.ofChange itabRoomWrong)

/-- 'sextonlaw09.ItabPuts': WHATEVER THE INPUT: true; the input reads as it did. -/
def itabPutsSpec : ChangeSpec := { name := "itabPuts", fn := fun _ => fun
  | [d1, d2, d3] => { results := [.lit (.bool true)], args := [d1, d2, d3] }
  | _ => none }
def itabPutsRow : OpenClaim := { program := "ytgepphlkibnhdaa", sum := "7339381ce94f619e5b5a6c05ba510f57179cec79f84a278e86f514b1f2484e0d", func := "sexton/sextonlaw09.ItabPuts", spec := "itabPuts", apart := false }
def ItabPutsSaid : Prop := itabPutsRow.holds Try.pinned (OpenSpec.ofChange itabPutsSpec)

/-- ITS FALSE NEIGHBOUR: 'it returns false'. Refute it at one input. -/
def itabPutsWrong : ChangeSpec := { name := "itabPuts", fn := fun _ => fun
  | [d1, d2, d3] => { results := [.lit (.bool false)], args := [d1, d2, d3] }
  | _ => none }
def ItabPutsWrongFalsely : Prop := itabPutsRow.holds Try.pinned (OpenSpec.ofChange itabPutsWrong)

/-- 'sextonlaw09.ItabApart': WHATEVER THE INPUT: true; the input reads as it did. -/
def itabApartSpec : ChangeSpec := { name := "itabApart", fn := fun _ => fun
  | [d1, d2, d3] => { results := [.lit (.bool true)], args := [d1, d2, d3] }
  | _ => none }
def itabApartRow : OpenClaim := { program := "ytgepphlkibnhdaa", sum := "7339381ce94f619e5b5a6c05ba510f57179cec79f84a278e86f514b1f2484e0d", func := "sexton/sextonlaw09.ItabApart", spec := "itabApart", apart := false }
def ItabApartSaid : Prop := itabApartRow.holds Try.pinned (OpenSpec.ofChange itabApartSpec)

/-- ITS FALSE NEIGHBOUR: 'it returns false'. Refute it at one input. -/
def itabApartWrong : ChangeSpec := { name := "itabApart", fn := fun _ => fun
  | [d1, d2, d3] => { results := [.lit (.bool false)], args := [d1, d2, d3] }
  | _ => none }
def ItabApartWrongFalsely : Prop := itabApartRow.holds Try.pinned (OpenSpec.ofChange itabApartWrong)

/-- 'sextonlaw09.ItabChecks': WHATEVER THE INPUT: true; the input reads as it did. -/
def itabChecksSpec : ChangeSpec := { name := "itabChecks", fn := fun _ => fun
  | [d] => { results := [.lit (.bool true)], args := [d] }
  | _ => none }
def itabChecksRow : OpenClaim := { program := "ytgepphlkibnhdaa", sum := "7339381ce94f619e5b5a6c05ba510f57179cec79f84a278e86f514b1f2484e0d", func := "sexton/sextonlaw09.ItabChecks", spec := "itabChecks", apart := false }
def ItabChecksSaid : Prop := itabChecksRow.holds Try.pinned (OpenSpec.ofChange itabChecksSpec)

/-- ITS FALSE NEIGHBOUR: 'it returns false'. Refute it at one input. -/
def itabChecksWrong : ChangeSpec := { name := "itabChecks", fn := fun _ => fun
  | [d] => { results := [.lit (.bool false)], args := [d] }
  | _ => none }
def ItabChecksWrongFalsely : Prop := itabChecksRow.holds Try.pinned (OpenSpec.ofChange itabChecksWrong)

/- THE SECOND FORM. 'bulk': how many values and letters a reading holds, each counted each time it is reached (what is shared counts as often as it is met; a slice's spare places count too). A statement '..UptoSaid' is the law's where the arguments, and the package variables that the reading takes, are together of bulk at most 1048576: NARROWER than '..Said'. Prove '..Said' where nothing that the law and all that it calls make is longer than what came in: it says more and counts as full. Else prove '..UptoSaid'. A law counts once. -/
mutual
def uptoBulk {H : Type} : DataW H → Nat
  | .lit (.string bytes) => bytes.length + 1
  | .lit _ => 1
  | .nil => 1
  | .ptr d => uptoBulk d + 1
  | .slice elems spare => uptoBulkAll elems + uptoBulkAll spare + 1
  | .agg parts => uptoBulkAll parts + 1
  | .iface _ d => uptoBulk d + 1
  | .map entries => uptoBulkEntries entries + 1
  | .held _ => 1
def uptoBulkAll {H : Type} : List (DataW H) → Nat
  | [] => 0
  | d :: r => uptoBulk d + uptoBulkAll r
def uptoBulkEntries {H : Type} : List (Lit × DataW H) → Nat
  | [] => 0
  | x :: r => uptoBulkEntry x + uptoBulkEntries r
def uptoBulkEntry {H : Type} : Lit × DataW H → Nat
  | (.string bytes, d) => bytes.length + uptoBulk d + 1
  | (_, d) => uptoBulk d + 1
 end
def uptoSmall : (H : Type) → List (DataW H) → Bool := fun _ ds => decide (uptoBulkAll ds ≤ 1048576)
def OpenSpec.upto (s : _root_.Go.ChangeSpec) : _root_.Go.OpenSpec := { _root_.Go.OpenSpec.ofChange s with cond := some uptoSmall }

/-- 'sextonlaw09.ItabFinds', WHERE WHAT IT READS IS OF BULK AT MOST 1048576: true; the input reads as it did. -/
def itabFindsUptoRow : OpenClaim := { program := "ytgepphlkibnhdaa", sum := "7339381ce94f619e5b5a6c05ba510f57179cec79f84a278e86f514b1f2484e0d", func := "sexton/sextonlaw09.ItabFinds", spec := "itabFinds", apart := false, narrowed := true }
def ItabFindsUptoSaid : Prop := itabFindsUptoRow.holds Try.pinned (OpenSpec.upto itabFindsSpec)

/-- 'sextonlaw09.ItabMakes', WHERE WHAT IT READS IS OF BULK AT MOST 1048576: true; the input reads as it did. -/
def itabMakesUptoRow : OpenClaim := { program := "ytgepphlkibnhdaa", sum := "7339381ce94f619e5b5a6c05ba510f57179cec79f84a278e86f514b1f2484e0d", func := "sexton/sextonlaw09.ItabMakes", spec := "itabMakes", apart := false, narrowed := true }
def ItabMakesUptoSaid : Prop := itabMakesUptoRow.holds Try.pinned (OpenSpec.upto itabMakesSpec)

/-- 'sextonlaw09.ItabStale', WHERE WHAT IT READS IS OF BULK AT MOST 1048576: true; the input reads as it did. -/
def itabStaleUptoRow : OpenClaim := { program := "ytgepphlkibnhdaa", sum := "7339381ce94f619e5b5a6c05ba510f57179cec79f84a278e86f514b1f2484e0d", func := "sexton/sextonlaw09.ItabStale", spec := "itabStale", apart := false, narrowed := true }
def ItabStaleUptoSaid : Prop := itabStaleUptoRow.holds Try.pinned (OpenSpec.upto itabStaleSpec)

/-- 'sextonlaw09.ItabRoom', WHERE WHAT IT READS IS OF BULK AT MOST 1048576: true; the input reads as it did. -/
def itabRoomUptoRow : OpenClaim := { program := "ytgepphlkibnhdaa", sum := "7339381ce94f619e5b5a6c05ba510f57179cec79f84a278e86f514b1f2484e0d", func := "sexton/sextonlaw09.ItabRoom", spec := "itabRoom", apart := false, narrowed := true }
def ItabRoomUptoSaid : Prop := itabRoomUptoRow.holds Try.pinned (OpenSpec.upto itabRoomSpec)

/-- 'sextonlaw09.ItabPuts', WHERE WHAT IT READS IS OF BULK AT MOST 1048576: true; the input reads as it did. -/
def itabPutsUptoRow : OpenClaim := { program := "ytgepphlkibnhdaa", sum := "7339381ce94f619e5b5a6c05ba510f57179cec79f84a278e86f514b1f2484e0d", func := "sexton/sextonlaw09.ItabPuts", spec := "itabPuts", apart := false, narrowed := true }
def ItabPutsUptoSaid : Prop := itabPutsUptoRow.holds Try.pinned (OpenSpec.upto itabPutsSpec)

/-- 'sextonlaw09.ItabApart', WHERE WHAT IT READS IS OF BULK AT MOST 1048576: true; the input reads as it did. -/
def itabApartUptoRow : OpenClaim := { program := "ytgepphlkibnhdaa", sum := "7339381ce94f619e5b5a6c05ba510f57179cec79f84a278e86f514b1f2484e0d", func := "sexton/sextonlaw09.ItabApart", spec := "itabApart", apart := false, narrowed := true }
def ItabApartUptoSaid : Prop := itabApartUptoRow.holds Try.pinned (OpenSpec.upto itabApartSpec)

/-- 'sextonlaw09.ItabChecks', WHERE WHAT IT READS IS OF BULK AT MOST 1048576: true; the input reads as it did. -/
def itabChecksUptoRow : OpenClaim := { program := "ytgepphlkibnhdaa", sum := "7339381ce94f619e5b5a6c05ba510f57179cec79f84a278e86f514b1f2484e0d", func := "sexton/sextonlaw09.ItabChecks", spec := "itabChecks", apart := false, narrowed := true }
def ItabChecksUptoSaid : Prop := itabChecksUptoRow.holds Try.pinned (OpenSpec.upto itabChecksSpec)

end Rows
end Go.Proofs.Ytgepphlkibnhdaa
