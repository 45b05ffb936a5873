/-
  No cell of these rows narrows 'for every input' (looked for: loops, veiled, ifaces, maps, wideKeys, modest, calm, conditions, laid).
  DERIVED. THE GIVEN ROWS OF THIS SEAT. 8 by the template 'for every input the law returns true; each argument reads behind the call as it read before'; 0 by the template 'total and deterministic' (their statements: YtmknehabmloebaaTotals.lean).
  GIVEN WITH THE SEED: the statements are not yours to turn. If you find one false, say at which input.
  Laid BY PROGRAM, IN A SANDBOX (cutbox-rows.mjs): the forced cells as the released guide's own fill.sh prints them over the translation 9e471c6f31bd0195… (all of the seat's roots in one cut). By AI agents, Wed Nov 11 2026. No macro, syntax, notation, axiom, sorry.
-/
import Derived.Test.YtmknehabmloebaaChecked
import GoSem.Claim
import GoSem.ClaimJoined
import GoSem.ClaimMapViews
import Derived.JoinedTies
import Derived.KernelRfl
namespace Go.Proofs.Ytmknehabmloebaa
/- THE CELL 'sum', in the pinned program and in every row, IS THE sha256 OF THE DUMP (.gsa) THAT YtmknehabmloebaaProg.lean LOADS. Nothing in Lean hashes anything: it is a label: what it is worth is what the hold of that sum in a sandbox is worth. -/
noncomputable def Try.pinned : Pinned := { name := "ytmknehabmloebaa", sum := "9e471c6f31bd01950c82fe22d70613888765562df0d79fcc2f2c7c0bbeae853a", checked := Try.checked }
namespace Rows
def none {H : Type} : Left H := { results := [], args := [] }

/-- 'sextonlaw08.BlobWrites': WHATEVER THE INPUT: true; the input reads as it did. -/
def blobWritesSpec : ChangeSpec := { name := "blobWrites", fn := fun _ => fun
  | [d1, d2, d3] => { results := [.lit (.bool true)], args := [d1, d2, d3] }
  | _ => none }
def blobWritesRow : OpenClaim := { program := "ytmknehabmloebaa", sum := "9e471c6f31bd01950c82fe22d70613888765562df0d79fcc2f2c7c0bbeae853a", func := "sexton/sextonlaw08.BlobWrites", spec := "blobWrites", unfollowed := true, recurses := true, apart := false }
def BlobWritesSaid : Prop := blobWritesRow.holds Try.pinned (OpenSpec.ofChange blobWritesSpec)

/-- ITS FALSE NEIGHBOUR: 'it returns false'. Refute it at one input. -/
def blobWritesWrong : ChangeSpec := { name := "blobWrites", fn := fun _ => fun
  | [d1, d2, d3] => { results := [.lit (.bool false)], args := [d1, d2, d3] }
  | _ => none }
def BlobWritesWrongFalsely : Prop := blobWritesRow.holds Try.pinned (OpenSpec.ofChange blobWritesWrong)

/-- 'sextonlaw08.BlobReads': WHATEVER THE INPUT: true; the input reads as it did. -/
def blobReadsSpec : ChangeSpec := { name := "blobReads", fn := fun _ => fun
  | [d1, d2] => { results := [.lit (.bool true)], args := [d1, d2] }
  | _ => none }
def blobReadsRow : OpenClaim := { program := "ytmknehabmloebaa", sum := "9e471c6f31bd01950c82fe22d70613888765562df0d79fcc2f2c7c0bbeae853a", func := "sexton/sextonlaw08.BlobReads", spec := "blobReads", unfollowed := true, recurses := true, apart := false }
def BlobReadsSaid : Prop := blobReadsRow.holds Try.pinned (OpenSpec.ofChange blobReadsSpec)

/-- ITS FALSE NEIGHBOUR: 'it returns false'. Refute it at one input. -/
def blobReadsWrong : ChangeSpec := { name := "blobReads", fn := fun _ => fun
  | [d1, d2] => { results := [.lit (.bool false)], args := [d1, d2] }
  | _ => none }
def BlobReadsWrongFalsely : Prop := blobReadsRow.holds Try.pinned (OpenSpec.ofChange blobReadsWrong)

/-- 'sextonlaw08.BlobBack': WHATEVER THE INPUT: true; the input reads as it did. -/
def blobBackSpec : ChangeSpec := { name := "blobBack", fn := fun _ => fun
  | [d1, d2, d3] => { results := [.lit (.bool true)], args := [d1, d2, d3] }
  | _ => none }
def blobBackRow : OpenClaim := { program := "ytmknehabmloebaa", sum := "9e471c6f31bd01950c82fe22d70613888765562df0d79fcc2f2c7c0bbeae853a", func := "sexton/sextonlaw08.BlobBack", spec := "blobBack", unfollowed := true, recurses := true, apart := false }
def BlobBackSaid : Prop := blobBackRow.holds Try.pinned (OpenSpec.ofChange blobBackSpec)

/-- ITS FALSE NEIGHBOUR: 'it returns false'. Refute it at one input. -/
def blobBackWrong : ChangeSpec := { name := "blobBack", fn := fun _ => fun
  | [d1, d2, d3] => { results := [.lit (.bool false)], args := [d1, d2, d3] }
  | _ => none }
def BlobBackWrongFalsely : Prop := blobBackRow.holds Try.pinned (OpenSpec.ofChange blobBackWrong)

/-- 'sextonlaw08.BlobOne': WHATEVER THE INPUT: true; the input reads as it did. -/
def blobOneSpec : ChangeSpec := { name := "blobOne", fn := fun _ => fun
  | [d] => { results := [.lit (.bool true)], args := [d] }
  | _ => none }
def blobOneRow : OpenClaim := { program := "ytmknehabmloebaa", sum := "9e471c6f31bd01950c82fe22d70613888765562df0d79fcc2f2c7c0bbeae853a", func := "sexton/sextonlaw08.BlobOne", spec := "blobOne", unfollowed := true, recurses := true, apart := false }
def BlobOneSaid : Prop := blobOneRow.holds Try.pinned (OpenSpec.ofChange blobOneSpec)

/-- ITS FALSE NEIGHBOUR: 'it returns false'. Refute it at one input. -/
def blobOneWrong : ChangeSpec := { name := "blobOne", fn := fun _ => fun
  | [d] => { results := [.lit (.bool false)], args := [d] }
  | _ => none }
def BlobOneWrongFalsely : Prop := blobOneRow.holds Try.pinned (OpenSpec.ofChange blobOneWrong)

/-- 'sextonlaw08.BlobApart': WHATEVER THE INPUT: true; the input reads as it did. -/
def blobApartSpec : ChangeSpec := { name := "blobApart", fn := fun _ => fun
  | [d1, d2, d3] => { results := [.lit (.bool true)], args := [d1, d2, d3] }
  | _ => none }
def blobApartRow : OpenClaim := { program := "ytmknehabmloebaa", sum := "9e471c6f31bd01950c82fe22d70613888765562df0d79fcc2f2c7c0bbeae853a", func := "sexton/sextonlaw08.BlobApart", spec := "blobApart", unfollowed := true, recurses := true, apart := false }
def BlobApartSaid : Prop := blobApartRow.holds Try.pinned (OpenSpec.ofChange blobApartSpec)

/-- ITS FALSE NEIGHBOUR: 'it returns false'. Refute it at one input. -/
def blobApartWrong : ChangeSpec := { name := "blobApart", fn := fun _ => fun
  | [d1, d2, d3] => { results := [.lit (.bool false)], args := [d1, d2, d3] }
  | _ => none }
def BlobApartWrongFalsely : Prop := blobApartRow.holds Try.pinned (OpenSpec.ofChange blobApartWrong)

/-- 'sextonlaw08.BlobCuts': WHATEVER THE INPUT: true; the input reads as it did. -/
def blobCutsSpec : ChangeSpec := { name := "blobCuts", fn := fun _ => fun
  | [d1, d2] => { results := [.lit (.bool true)], args := [d1, d2] }
  | _ => none }
def blobCutsRow : OpenClaim := { program := "ytmknehabmloebaa", sum := "9e471c6f31bd01950c82fe22d70613888765562df0d79fcc2f2c7c0bbeae853a", func := "sexton/sextonlaw08.BlobCuts", spec := "blobCuts", unfollowed := true, recurses := true, apart := false }
def BlobCutsSaid : Prop := blobCutsRow.holds Try.pinned (OpenSpec.ofChange blobCutsSpec)

/-- ITS FALSE NEIGHBOUR: 'it returns false'. Refute it at one input. -/
def blobCutsWrong : ChangeSpec := { name := "blobCuts", fn := fun _ => fun
  | [d1, d2] => { results := [.lit (.bool false)], args := [d1, d2] }
  | _ => none }
def BlobCutsWrongFalsely : Prop := blobCutsRow.holds Try.pinned (OpenSpec.ofChange blobCutsWrong)

/-- 'sextonlaw08.BlobChecks': WHATEVER THE INPUT: true; the input reads as it did. -/
def blobChecksSpec : ChangeSpec := { name := "blobChecks", fn := fun _ => fun
  | [d] => { results := [.lit (.bool true)], args := [d] }
  | _ => none }
def blobChecksRow : OpenClaim := { program := "ytmknehabmloebaa", sum := "9e471c6f31bd01950c82fe22d70613888765562df0d79fcc2f2c7c0bbeae853a", func := "sexton/sextonlaw08.BlobChecks", spec := "blobChecks", unfollowed := true, recurses := true, apart := false }
def BlobChecksSaid : Prop := blobChecksRow.holds Try.pinned (OpenSpec.ofChange blobChecksSpec)

/-- ITS FALSE NEIGHBOUR: 'it returns false'. Refute it at one input. -/
def blobChecksWrong : ChangeSpec := { name := "blobChecks", fn := fun _ => fun
  | [d] => { results := [.lit (.bool false)], args := [d] }
  | _ => none }
def BlobChecksWrongFalsely : Prop := blobChecksRow.holds Try.pinned (OpenSpec.ofChange blobChecksWrong)

/-- 'sextonlaw08.BlobGone': WHATEVER THE INPUT: true; the input reads as it did. -/
def blobGoneSpec : ChangeSpec := { name := "blobGone", fn := fun _ => fun
  | [d1, d2] => { results := [.lit (.bool true)], args := [d1, d2] }
  | _ => none }
def blobGoneRow : OpenClaim := { program := "ytmknehabmloebaa", sum := "9e471c6f31bd01950c82fe22d70613888765562df0d79fcc2f2c7c0bbeae853a", func := "sexton/sextonlaw08.BlobGone", spec := "blobGone", unfollowed := true, recurses := true, apart := false }
def BlobGoneSaid : Prop := blobGoneRow.holds Try.pinned (OpenSpec.ofChange blobGoneSpec)

/-- ITS FALSE NEIGHBOUR: 'it returns false'. Refute it at one input. -/
def blobGoneWrong : ChangeSpec := { name := "blobGone", fn := fun _ => fun
  | [d1, d2] => { results := [.lit (.bool false)], args := [d1, d2] }
  | _ => none }
def BlobGoneWrongFalsely : Prop := blobGoneRow.holds Try.pinned (OpenSpec.ofChange blobGoneWrong)

/- THE SECOND FORM. 'bulk': how many values and letters a reading holds, each counted each time it is reached (what is shared counts as often as it is met; a slice's spare places count too). A statement '..UptoSaid' is the law's where the arguments, and the package variables that the reading takes, are together of bulk at most 1048576: NARROWER than '..Said'. Prove '..Said' where nothing that the law and all that it calls make is longer than what came in: it says more and counts as full. Else prove '..UptoSaid'. A law counts once. -/
mutual
def uptoBulk {H : Type} : DataW H → Nat
  | .lit (.string bytes) => bytes.length + 1
  | .lit _ => 1
  | .nil => 1
  | .ptr d => uptoBulk d + 1
  | .slice elems spare => uptoBulkAll elems + uptoBulkAll spare + 1
  | .agg parts => uptoBulkAll parts + 1
  | .iface _ d => uptoBulk d + 1
  | .map entries => uptoBulkEntries entries + 1
  | .held _ => 1
def uptoBulkAll {H : Type} : List (DataW H) → Nat
  | [] => 0
  | d :: r => uptoBulk d + uptoBulkAll r
def uptoBulkEntries {H : Type} : List (Lit × DataW H) → Nat
  | [] => 0
  | x :: r => uptoBulkEntry x + uptoBulkEntries r
def uptoBulkEntry {H : Type} : Lit × DataW H → Nat
  | (.string bytes, d) => bytes.length + uptoBulk d + 1
  | (_, d) => uptoBulk d + 1
 end
def uptoSmall : (H : Type) → List (DataW H) → Bool := fun _ ds => decide (uptoBulkAll ds ≤ 1048576)
def OpenSpec.upto (s : _root_.Go.ChangeSpec) : _root_.Go.OpenSpec := { _root_.Go.OpenSpec.ofChange s with cond := some uptoSmall }

/-- 'sextonlaw08.BlobWrites', WHERE WHAT IT READS IS OF BULK AT MOST 1048576: true; the input reads as it did. -/
def blobWritesUptoRow : OpenClaim := { program := "ytmknehabmloebaa", sum := "9e471c6f31bd01950c82fe22d70613888765562df0d79fcc2f2c7c0bbeae853a", func := "sexton/sextonlaw08.BlobWrites", spec := "blobWrites", unfollowed := true, recurses := true, apart := false, narrowed := true }
def BlobWritesUptoSaid : Prop := blobWritesUptoRow.holds Try.pinned (OpenSpec.upto blobWritesSpec)

/-- 'sextonlaw08.BlobReads', WHERE WHAT IT READS IS OF BULK AT MOST 1048576: true; the input reads as it did. -/
def blobReadsUptoRow : OpenClaim := { program := "ytmknehabmloebaa", sum := "9e471c6f31bd01950c82fe22d70613888765562df0d79fcc2f2c7c0bbeae853a", func := "sexton/sextonlaw08.BlobReads", spec := "blobReads", unfollowed := true, recurses := true, apart := false, narrowed := true }
def BlobReadsUptoSaid : Prop := blobReadsUptoRow.holds Try.pinned (OpenSpec.upto blobReadsSpec)

/-- 'sextonlaw08.BlobBack', WHERE WHAT IT READS IS OF BULK AT MOST 1048576: true; the input reads as it did. -/
def blobBackUptoRow : OpenClaim := { program := "ytmknehabmloebaa", sum := "9e471c6f31bd01950c82fe22d70613888765562df0d79fcc2f2c7c0bbeae853a", func := "sexton/sextonlaw08.BlobBack", spec := "blobBack", unfollowed := true, recurses := true, apart := false, narrowed := true }
def BlobBackUptoSaid : Prop := blobBackUptoRow.holds Try.pinned (OpenSpec.upto blobBackSpec)

/-- 'sextonlaw08.BlobOne', WHERE WHAT IT READS IS OF BULK AT MOST 1048576: true; the input reads as it did. -/
def blobOneUptoRow : OpenClaim := { program := "ytmknehabmloebaa", sum := "9e471c6f31bd01950c82fe22d70613888765562df0d79fcc2f2c7c0bbeae853a", func := "sexton/sextonlaw08.BlobOne", spec := "blobOne", unfollowed := true, recurses := true, apart := false, narrowed := true }
def BlobOneUptoSaid : Prop := blobOneUptoRow.holds Try.pinned (OpenSpec.upto blobOneSpec)

/-- 'sextonlaw08.BlobApart', WHERE WHAT IT READS IS OF BULK AT MOST 1048576: true; the input reads as it did. -/
def blobApartUptoRow : OpenClaim := { program := "ytmknehabmloebaa", sum := "9e471c6f31bd01950c82fe22d70613888765562df0d79fcc2f2c7c0bbeae853a", func := "sexton/sextonlaw08.BlobApart", spec := "blobApart", unfollowed := true, recurses := true, apart := false, narrowed := true }
def BlobApartUptoSaid : Prop := blobApartUptoRow.holds Try.pinned (OpenSpec.upto blobApartSpec)

/-- 'sextonlaw08.BlobCuts', WHERE WHAT IT READS IS OF BULK AT MOST 1048576: true; the input reads as it did. -/
def blobCutsUptoRow : OpenClaim := { program := "ytmknehabmloebaa", sum := "9e471c6f31bd01950c82fe22d70613888765562df0d79fcc2f2c7c0bbeae853a", func := "sexton/sextonlaw08.BlobCuts", spec := "blobCuts", unfollowed := true, recurses := true, apart := false, narrowed := true }
def BlobCutsUptoSaid : Prop := blobCutsUptoRow.holds Try.pinned (OpenSpec.upto blobCutsSpec)

/-- 'sextonlaw08.BlobChecks', WHERE WHAT IT READS IS OF BULK AT MOST 1048576: true; the input reads as it did. -/
def blobChecksUptoRow : OpenClaim := { program := "ytmknehabmloebaa", sum := "9e471c6f31bd01950c82fe22d70613888765562df0d79fcc2f2c7c0bbeae853a", func := "sexton/sextonlaw08.BlobChecks", spec := "blobChecks", unfollowed := true, recurses := true, apart := false, narrowed := true }
def BlobChecksUptoSaid : Prop := blobChecksUptoRow.holds Try.pinned (OpenSpec.upto blobChecksSpec)

/-- 'sextonlaw08.BlobGone', WHERE WHAT IT READS IS OF BULK AT MOST 1048576: true; the input reads as it did. -/
def blobGoneUptoRow : OpenClaim := { program := "ytmknehabmloebaa", sum := "9e471c6f31bd01950c82fe22d70613888765562df0d79fcc2f2c7c0bbeae853a", func := "sexton/sextonlaw08.BlobGone", spec := "blobGone", unfollowed := true, recurses := true, apart := false, narrowed := true }
def BlobGoneUptoSaid : Prop := blobGoneUptoRow.holds Try.pinned (OpenSpec.upto blobGoneSpec)

end Rows
end Go.Proofs.Ytmknehabmloebaa
