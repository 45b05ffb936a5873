/- The arguments' kinds of the laws of this group, opened: a program of this session wrote it. -/
import Derived.Test.YtndjhpkpeklgfaaOpen
import Derived.Test.YtndjhpkpeklgfaaPPostx0
import Derived.KernelRfl
namespace Go.Proofs.Ytndjhpkpeklgfaa.PPost
open Go Go.RowKit Go.Proofs.YtndjhpkpeklgfaaW.PrintWords Go.Proofs.YtndjhpkpeklgfaaW.Open
set_option maxRecDepth 100000
end Go.Proofs.Ytndjhpkpeklgfaa.PPost
