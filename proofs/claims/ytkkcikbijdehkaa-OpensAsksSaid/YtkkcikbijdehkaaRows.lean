/-
  No cell of these rows narrows 'for every input' (looked for: loops, veiled, ifaces, maps, wideKeys, modest, calm, conditions, laid).
  DERIVED. THE GIVEN ROWS OF THIS SEAT. 5 by the template 'for every input the law returns true; each argument reads behind the call as it read before'; 0 by the template 'total and deterministic' (their statements: YtkkcikbijdehkaaTotals.lean).
  GIVEN WITH THE SEED: the statements are not yours to turn. If you find one false, say at which input.
  Laid BY PROGRAM, IN A SANDBOX (cutbox-rows.mjs): the forced cells as the released guide's own fill.sh prints them over the translation e5b393919fc25049… (all of the seat's roots in one cut). By AI agents, Wed Nov 11 2026. No macro, syntax, notation, axiom, sorry.
-/
import Derived.Test.YtkkcikbijdehkaaChecked
import GoSem.Claim
import GoSem.ClaimJoined
import GoSem.ClaimMapViews
import Derived.JoinedTies
import Derived.KernelRfl
namespace Go.Proofs.Ytkkcikbijdehkaa
/- THE CELL 'sum', in the pinned program and in every row, IS THE sha256 OF THE DUMP (.gsa) THAT YtkkcikbijdehkaaProg.lean LOADS. Nothing in Lean hashes anything: it is a label: what it is worth is what the hold of that sum in a sandbox is worth. -/
noncomputable def Try.pinned : Pinned := { name := "ytkkcikbijdehkaa", sum := "e5b393919fc250499a6e09c13c9b5d47986445d8280850e73460e989775b5dec", checked := Try.checked }
namespace Rows
def none {H : Type} : Left H := { results := [], args := [] }

/-- 'sextonlaw12.OpensCloses': WHATEVER THE INPUT: true; the input reads as it did. -/
def opensClosesSpec : ChangeSpec := { name := "opensCloses", fn := fun _ => fun
  | [d1, d2, d3] => { results := [.lit (.bool true)], args := [d1, d2, d3] }
  | _ => none }
def opensClosesRow : OpenClaim := { program := "ytkkcikbijdehkaa", sum := "e5b393919fc250499a6e09c13c9b5d47986445d8280850e73460e989775b5dec", func := "sexton/sextonlaw12.OpensCloses", spec := "opensCloses", inPlace := ["slices.overlaps[sexton/api.Open]"], apart := false }
def OpensClosesSaid : Prop := opensClosesRow.holds Try.pinned (OpenSpec.ofChange opensClosesSpec)

/-- ITS FALSE NEIGHBOUR: 'it returns false'. Refute it at one input. -/
def opensClosesWrong : ChangeSpec := { name := "opensCloses", fn := fun _ => fun
  | [d1, d2, d3] => { results := [.lit (.bool false)], args := [d1, d2, d3] }
  | _ => none }
def OpensClosesWrongFalsely : Prop := opensClosesRow.holds Try.pinned (OpenSpec.ofChange opensClosesWrong)

/-- 'sextonlaw12.OpensLeast': WHATEVER THE INPUT: true; the input reads as it did. -/
def opensLeastSpec : ChangeSpec := { name := "opensLeast", fn := fun _ => fun
  | [d1, d2, d3] => { results := [.lit (.bool true)], args := [d1, d2, d3] }
  | _ => none }
def opensLeastRow : OpenClaim := { program := "ytkkcikbijdehkaa", sum := "e5b393919fc250499a6e09c13c9b5d47986445d8280850e73460e989775b5dec", func := "sexton/sextonlaw12.OpensLeast", spec := "opensLeast", inPlace := ["slices.overlaps[sexton/api.Open]"], apart := false }
def OpensLeastSaid : Prop := opensLeastRow.holds Try.pinned (OpenSpec.ofChange opensLeastSpec)

/-- ITS FALSE NEIGHBOUR: 'it returns false'. Refute it at one input. -/
def opensLeastWrong : ChangeSpec := { name := "opensLeast", fn := fun _ => fun
  | [d1, d2, d3] => { results := [.lit (.bool false)], args := [d1, d2, d3] }
  | _ => none }
def OpensLeastWrongFalsely : Prop := opensLeastRow.holds Try.pinned (OpenSpec.ofChange opensLeastWrong)

/-- 'sextonlaw12.OpensAsks': WHATEVER THE INPUT: true; the input reads as it did. -/
def opensAsksSpec : ChangeSpec := { name := "opensAsks", fn := fun _ => fun
  | [d1, d2, d3] => { results := [.lit (.bool true)], args := [d1, d2, d3] }
  | _ => none }
def opensAsksRow : OpenClaim := { program := "ytkkcikbijdehkaa", sum := "e5b393919fc250499a6e09c13c9b5d47986445d8280850e73460e989775b5dec", func := "sexton/sextonlaw12.OpensAsks", spec := "opensAsks", inPlace := ["slices.overlaps[sexton/api.Open]"], apart := false }
def OpensAsksSaid : Prop := opensAsksRow.holds Try.pinned (OpenSpec.ofChange opensAsksSpec)

/-- ITS FALSE NEIGHBOUR: 'it returns false'. Refute it at one input. -/
def opensAsksWrong : ChangeSpec := { name := "opensAsks", fn := fun _ => fun
  | [d1, d2, d3] => { results := [.lit (.bool false)], args := [d1, d2, d3] }
  | _ => none }
def OpensAsksWrongFalsely : Prop := opensAsksRow.holds Try.pinned (OpenSpec.ofChange opensAsksWrong)

/-- 'sextonlaw12.OpensOpens': WHATEVER THE INPUT: true; the input reads as it did. -/
def opensOpensSpec : ChangeSpec := { name := "opensOpens", fn := fun _ => fun
  | [d1, d2, d3] => { results := [.lit (.bool true)], args := [d1, d2, d3] }
  | _ => none }
def opensOpensRow : OpenClaim := { program := "ytkkcikbijdehkaa", sum := "e5b393919fc250499a6e09c13c9b5d47986445d8280850e73460e989775b5dec", func := "sexton/sextonlaw12.OpensOpens", spec := "opensOpens", inPlace := ["slices.overlaps[sexton/api.Open]"], apart := false }
def OpensOpensSaid : Prop := opensOpensRow.holds Try.pinned (OpenSpec.ofChange opensOpensSpec)

/-- ITS FALSE NEIGHBOUR: 'it returns false'. Refute it at one input. -/
def opensOpensWrong : ChangeSpec := { name := "opensOpens", fn := fun _ => fun
  | [d1, d2, d3] => { results := [.lit (.bool false)], args := [d1, d2, d3] }
  | _ => none }
def OpensOpensWrongFalsely : Prop := opensOpensRow.holds Try.pinned (OpenSpec.ofChange opensOpensWrong)

/-- 'sextonlaw12.OpensBack': WHATEVER THE INPUT: true; the input reads as it did. -/
def opensBackSpec : ChangeSpec := { name := "opensBack", fn := fun _ => fun
  | [d1, d2, d3] => { results := [.lit (.bool true)], args := [d1, d2, d3] }
  | _ => none }
def opensBackRow : OpenClaim := { program := "ytkkcikbijdehkaa", sum := "e5b393919fc250499a6e09c13c9b5d47986445d8280850e73460e989775b5dec", func := "sexton/sextonlaw12.OpensBack", spec := "opensBack", inPlace := ["slices.overlaps[sexton/api.Open]"], apart := false }
def OpensBackSaid : Prop := opensBackRow.holds Try.pinned (OpenSpec.ofChange opensBackSpec)

/-- ITS FALSE NEIGHBOUR: 'it returns false'. Refute it at one input. -/
def opensBackWrong : ChangeSpec := { name := "opensBack", fn := fun _ => fun
  | [d1, d2, d3] => { results := [.lit (.bool false)], args := [d1, d2, d3] }
  | _ => none }
def OpensBackWrongFalsely : Prop := opensBackRow.holds Try.pinned (OpenSpec.ofChange opensBackWrong)

/- THE SECOND FORM. 'bulk': how many values and letters a reading holds, each counted each time it is reached (what is shared counts as often as it is met; a slice's spare places count too). A statement '..UptoSaid' is the law's where the arguments, and the package variables that the reading takes, are together of bulk at most 1048576: NARROWER than '..Said'. Prove '..Said' where nothing that the law and all that it calls make is longer than what came in: it says more and counts as full. Else prove '..UptoSaid'. A law counts once. -/
mutual
def uptoBulk {H : Type} : DataW H → Nat
  | .lit (.string bytes) => bytes.length + 1
  | .lit _ => 1
  | .nil => 1
  | .ptr d => uptoBulk d + 1
  | .slice elems spare => uptoBulkAll elems + uptoBulkAll spare + 1
  | .agg parts => uptoBulkAll parts + 1
  | .iface _ d => uptoBulk d + 1
  | .map entries => uptoBulkEntries entries + 1
  | .held _ => 1
def uptoBulkAll {H : Type} : List (DataW H) → Nat
  | [] => 0
  | d :: r => uptoBulk d + uptoBulkAll r
def uptoBulkEntries {H : Type} : List (Lit × DataW H) → Nat
  | [] => 0
  | x :: r => uptoBulkEntry x + uptoBulkEntries r
def uptoBulkEntry {H : Type} : Lit × DataW H → Nat
  | (.string bytes, d) => bytes.length + uptoBulk d + 1
  | (_, d) => uptoBulk d + 1
 end
def uptoSmall : (H : Type) → List (DataW H) → Bool := fun _ ds => decide (uptoBulkAll ds ≤ 1048576)
def OpenSpec.upto (s : _root_.Go.ChangeSpec) : _root_.Go.OpenSpec := { _root_.Go.OpenSpec.ofChange s with cond := some uptoSmall }

/-- 'sextonlaw12.OpensCloses', WHERE WHAT IT READS IS OF BULK AT MOST 1048576: true; the input reads as it did. -/
def opensClosesUptoRow : OpenClaim := { program := "ytkkcikbijdehkaa", sum := "e5b393919fc250499a6e09c13c9b5d47986445d8280850e73460e989775b5dec", func := "sexton/sextonlaw12.OpensCloses", spec := "opensCloses", inPlace := ["slices.overlaps[sexton/api.Open]"], apart := false, narrowed := true }
def OpensClosesUptoSaid : Prop := opensClosesUptoRow.holds Try.pinned (OpenSpec.upto opensClosesSpec)

/-- 'sextonlaw12.OpensLeast', WHERE WHAT IT READS IS OF BULK AT MOST 1048576: true; the input reads as it did. -/
def opensLeastUptoRow : OpenClaim := { program := "ytkkcikbijdehkaa", sum := "e5b393919fc250499a6e09c13c9b5d47986445d8280850e73460e989775b5dec", func := "sexton/sextonlaw12.OpensLeast", spec := "opensLeast", inPlace := ["slices.overlaps[sexton/api.Open]"], apart := false, narrowed := true }
def OpensLeastUptoSaid : Prop := opensLeastUptoRow.holds Try.pinned (OpenSpec.upto opensLeastSpec)

/-- 'sextonlaw12.OpensAsks', WHERE WHAT IT READS IS OF BULK AT MOST 1048576: true; the input reads as it did. -/
def opensAsksUptoRow : OpenClaim := { program := "ytkkcikbijdehkaa", sum := "e5b393919fc250499a6e09c13c9b5d47986445d8280850e73460e989775b5dec", func := "sexton/sextonlaw12.OpensAsks", spec := "opensAsks", inPlace := ["slices.overlaps[sexton/api.Open]"], apart := false, narrowed := true }
def OpensAsksUptoSaid : Prop := opensAsksUptoRow.holds Try.pinned (OpenSpec.upto opensAsksSpec)

/-- 'sextonlaw12.OpensOpens', WHERE WHAT IT READS IS OF BULK AT MOST 1048576: true; the input reads as it did. -/
def opensOpensUptoRow : OpenClaim := { program := "ytkkcikbijdehkaa", sum := "e5b393919fc250499a6e09c13c9b5d47986445d8280850e73460e989775b5dec", func := "sexton/sextonlaw12.OpensOpens", spec := "opensOpens", inPlace := ["slices.overlaps[sexton/api.Open]"], apart := false, narrowed := true }
def OpensOpensUptoSaid : Prop := opensOpensUptoRow.holds Try.pinned (OpenSpec.upto opensOpensSpec)

/-- 'sextonlaw12.OpensBack', WHERE WHAT IT READS IS OF BULK AT MOST 1048576: true; the input reads as it did. -/
def opensBackUptoRow : OpenClaim := { program := "ytkkcikbijdehkaa", sum := "e5b393919fc250499a6e09c13c9b5d47986445d8280850e73460e989775b5dec", func := "sexton/sextonlaw12.OpensBack", spec := "opensBack", inPlace := ["slices.overlaps[sexton/api.Open]"], apart := false, narrowed := true }
def OpensBackUptoSaid : Prop := opensBackUptoRow.holds Try.pinned (OpenSpec.upto opensBackSpec)

end Rows
end Go.Proofs.Ytkkcikbijdehkaa
