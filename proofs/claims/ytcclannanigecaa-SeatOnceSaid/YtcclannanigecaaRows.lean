/-
  No cell of these rows narrows 'for every input' (looked for: loops, veiled, ifaces, maps, wideKeys, modest, calm, conditions, laid).
  DERIVED. THE GIVEN ROWS OF THIS SEAT. 4 by the template 'for every input the law returns true; each argument reads behind the call as it read before'; 0 by the template 'total and deterministic' (their statements: YtcclannanigecaaTotals.lean).
  GIVEN WITH THE SEED: the statements are not yours to turn. If you find one false, say at which input.
  Laid BY PROGRAM, IN A SANDBOX (cutbox-rows.mjs): the forced cells as the released guide's own fill.sh prints them over the translation 20ffb98520aa3417… (all of the seat's roots in one cut). By AI agents, Wed Nov 11 2026. No macro, syntax, notation, axiom, sorry.
-/
import Derived.Test.YtcclannanigecaaChecked
import GoSem.Claim
import GoSem.ClaimJoined
import GoSem.ClaimMapViews
import Derived.JoinedTies
import Derived.KernelRfl
namespace Go.Proofs.Ytcclannanigecaa
/- THE CELL 'sum', in the pinned program and in every row, IS THE sha256 OF THE DUMP (.gsa) THAT YtcclannanigecaaProg.lean LOADS. Nothing in Lean hashes anything: it is a label: what it is worth is what the hold of that sum in a sandbox is worth. -/
noncomputable def Try.pinned : Pinned := { name := "ytcclannanigecaa", sum := "20ffb98520aa34177a423e4a833626fc70e9762b34e2f1bdf460233c24420555", checked := Try.checked }
namespace Rows
def none {H : Type} : Left H := { results := [], args := [] }

/-- 'sextonlaw16.SeatPuts': WHATEVER THE INPUT: true; the input reads as it did. -/
def seatPutsSpec : ChangeSpec := { name := "seatPuts", fn := fun _ => fun
  | [d1, d2] => { results := [.lit (.bool true)], args := [d1, d2] }
  | _ => none }
def seatPutsRow : OpenClaim := { program := "ytcclannanigecaa", sum := "20ffb98520aa34177a423e4a833626fc70e9762b34e2f1bdf460233c24420555", func := "sexton/sextonlaw16.SeatPuts", spec := "seatPuts", inPlace := ["slices.overlaps[sexton/api.Seat]"], unfollowed := true, recurses := true, apart := false }
def SeatPutsSaid : Prop := seatPutsRow.holds Try.pinned (OpenSpec.ofChange seatPutsSpec)

/-- ITS FALSE NEIGHBOUR: 'it returns false'. Refute it at one input. -/
def seatPutsWrong : ChangeSpec := { name := "seatPuts", fn := fun _ => fun
  | [d1, d2] => { results := [.lit (.bool false)], args := [d1, d2] }
  | _ => none }
def SeatPutsWrongFalsely : Prop := seatPutsRow.holds Try.pinned (OpenSpec.ofChange seatPutsWrong)

/-- 'sextonlaw16.SeatOnce': WHATEVER THE INPUT: true; the input reads as it did. -/
def seatOnceSpec : ChangeSpec := { name := "seatOnce", fn := fun _ => fun
  | [d] => { results := [.lit (.bool true)], args := [d] }
  | _ => none }
def seatOnceRow : OpenClaim := { program := "ytcclannanigecaa", sum := "20ffb98520aa34177a423e4a833626fc70e9762b34e2f1bdf460233c24420555", func := "sexton/sextonlaw16.SeatOnce", spec := "seatOnce", inPlace := ["slices.overlaps[sexton/api.Seat]"], unfollowed := true, recurses := true, apart := false }
def SeatOnceSaid : Prop := seatOnceRow.holds Try.pinned (OpenSpec.ofChange seatOnceSpec)

/-- ITS FALSE NEIGHBOUR: 'it returns false'. Refute it at one input. -/
def seatOnceWrong : ChangeSpec := { name := "seatOnce", fn := fun _ => fun
  | [d] => { results := [.lit (.bool false)], args := [d] }
  | _ => none }
def SeatOnceWrongFalsely : Prop := seatOnceRow.holds Try.pinned (OpenSpec.ofChange seatOnceWrong)

/-- 'sextonlaw16.SeatApart': WHATEVER THE INPUT: true; the input reads as it did. -/
def seatApartSpec : ChangeSpec := { name := "seatApart", fn := fun _ => fun
  | [d1, d2, d3] => { results := [.lit (.bool true)], args := [d1, d2, d3] }
  | _ => none }
def seatApartRow : OpenClaim := { program := "ytcclannanigecaa", sum := "20ffb98520aa34177a423e4a833626fc70e9762b34e2f1bdf460233c24420555", func := "sexton/sextonlaw16.SeatApart", spec := "seatApart", inPlace := ["slices.overlaps[sexton/api.Seat]"], unfollowed := true, recurses := true, apart := false }
def SeatApartSaid : Prop := seatApartRow.holds Try.pinned (OpenSpec.ofChange seatApartSpec)

/-- ITS FALSE NEIGHBOUR: 'it returns false'. Refute it at one input. -/
def seatApartWrong : ChangeSpec := { name := "seatApart", fn := fun _ => fun
  | [d1, d2, d3] => { results := [.lit (.bool false)], args := [d1, d2, d3] }
  | _ => none }
def SeatApartWrongFalsely : Prop := seatApartRow.holds Try.pinned (OpenSpec.ofChange seatApartWrong)

/-- 'sextonlaw16.SeatAsks': WHATEVER THE INPUT: true; the input reads as it did. -/
def seatAsksSpec : ChangeSpec := { name := "seatAsks", fn := fun _ => fun
  | [d1, d2, d3] => { results := [.lit (.bool true)], args := [d1, d2, d3] }
  | _ => none }
def seatAsksRow : OpenClaim := { program := "ytcclannanigecaa", sum := "20ffb98520aa34177a423e4a833626fc70e9762b34e2f1bdf460233c24420555", func := "sexton/sextonlaw16.SeatAsks", spec := "seatAsks", inPlace := ["slices.overlaps[sexton/api.Seat]"], unfollowed := true, recurses := true, apart := false }
def SeatAsksSaid : Prop := seatAsksRow.holds Try.pinned (OpenSpec.ofChange seatAsksSpec)

/-- ITS FALSE NEIGHBOUR: 'it returns false'. Refute it at one input. -/
def seatAsksWrong : ChangeSpec := { name := "seatAsks", fn := fun _ => fun
  | [d1, d2, d3] => { results := [.lit (.bool false)], args := [d1, d2, d3] }
  | _ => none }
def SeatAsksWrongFalsely : Prop := seatAsksRow.holds Try.pinned (OpenSpec.ofChange seatAsksWrong)

/- THE SECOND FORM. 'bulk': how many values and letters a reading holds, each counted each time it is reached (what is shared counts as often as it is met; a slice's spare places count too). A statement '..UptoSaid' is the law's where the arguments, and the package variables that the reading takes, are together of bulk at most 1048576: NARROWER than '..Said'. Prove '..Said' where nothing that the law and all that it calls make is longer than what came in: it says more and counts as full. Else prove '..UptoSaid'. A law counts once. -/
mutual
def uptoBulk {H : Type} : DataW H → Nat
  | .lit (.string bytes) => bytes.length + 1
  | .lit _ => 1
  | .nil => 1
  | .ptr d => uptoBulk d + 1
  | .slice elems spare => uptoBulkAll elems + uptoBulkAll spare + 1
  | .agg parts => uptoBulkAll parts + 1
  | .iface _ d => uptoBulk d + 1
  | .map entries => uptoBulkEntries entries + 1
  | .held _ => 1
def uptoBulkAll {H : Type} : List (DataW H) → Nat
  | [] => 0
  | d :: r => uptoBulk d + uptoBulkAll r
def uptoBulkEntries {H : Type} : List (Lit × DataW H) → Nat
  | [] => 0
  | x :: r => uptoBulkEntry x + uptoBulkEntries r
def uptoBulkEntry {H : Type} : Lit × DataW H → Nat
  | (.string bytes, d) => bytes.length + uptoBulk d + 1
  | (_, d) => uptoBulk d + 1
 end
def uptoSmall : (H : Type) → List (DataW H) → Bool := fun _ ds => decide (uptoBulkAll ds ≤ 1048576)
def OpenSpec.upto (s : _root_.Go.ChangeSpec) : _root_.Go.OpenSpec := { _root_.Go.OpenSpec.ofChange s with cond := some uptoSmall }

/-- 'sextonlaw16.SeatPuts', WHERE WHAT IT READS IS OF BULK AT MOST 1048576: true; the input reads as it did. -/
def seatPutsUptoRow : OpenClaim := { program := "ytcclannanigecaa", sum := "20ffb98520aa34177a423e4a833626fc70e9762b34e2f1bdf460233c24420555", func := "sexton/sextonlaw16.SeatPuts", spec := "seatPuts", inPlace := ["slices.overlaps[sexton/api.Seat]"], unfollowed := true, recurses := true, apart := false, narrowed := true }
def SeatPutsUptoSaid : Prop := seatPutsUptoRow.holds Try.pinned (OpenSpec.upto seatPutsSpec)

/-- 'sextonlaw16.SeatOnce', WHERE WHAT IT READS IS OF BULK AT MOST 1048576: true; the input reads as it did. -/
def seatOnceUptoRow : OpenClaim := { program := "ytcclannanigecaa", sum := "20ffb98520aa34177a423e4a833626fc70e9762b34e2f1bdf460233c24420555", func := "sexton/sextonlaw16.SeatOnce", spec := "seatOnce", inPlace := ["slices.overlaps[sexton/api.Seat]"], unfollowed := true, recurses := true, apart := false, narrowed := true }
def SeatOnceUptoSaid : Prop := seatOnceUptoRow.holds Try.pinned (OpenSpec.upto seatOnceSpec)

/-- 'sextonlaw16.SeatApart', WHERE WHAT IT READS IS OF BULK AT MOST 1048576: true; the input reads as it did. -/
def seatApartUptoRow : OpenClaim := { program := "ytcclannanigecaa", sum := "20ffb98520aa34177a423e4a833626fc70e9762b34e2f1bdf460233c24420555", func := "sexton/sextonlaw16.SeatApart", spec := "seatApart", inPlace := ["slices.overlaps[sexton/api.Seat]"], unfollowed := true, recurses := true, apart := false, narrowed := true }
def SeatApartUptoSaid : Prop := seatApartUptoRow.holds Try.pinned (OpenSpec.upto seatApartSpec)

/-- 'sextonlaw16.SeatAsks', WHERE WHAT IT READS IS OF BULK AT MOST 1048576: true; the input reads as it did. -/
def seatAsksUptoRow : OpenClaim := { program := "ytcclannanigecaa", sum := "20ffb98520aa34177a423e4a833626fc70e9762b34e2f1bdf460233c24420555", func := "sexton/sextonlaw16.SeatAsks", spec := "seatAsks", inPlace := ["slices.overlaps[sexton/api.Seat]"], unfollowed := true, recurses := true, apart := false, narrowed := true }
def SeatAsksUptoSaid : Prop := seatAsksUptoRow.holds Try.pinned (OpenSpec.upto seatAsksSpec)

end Rows
end Go.Proofs.Ytcclannanigecaa
