/- The arguments' kinds of the laws of this group, opened: a program of this session wrote it. -/
import Derived.Test.YtnenheaijacphaaOpen
import Derived.Test.YtnenheaijacphaaPAlarmx0
import Derived.KernelRfl
namespace Go.Proofs.Ytnenheaijacphaa.PAlarm
open Go Go.RowKit Go.Proofs.YtnenheaijacphaaW.PrintWords Go.Proofs.YtnenheaijacphaaW.Open
set_option maxRecDepth 100000
end Go.Proofs.Ytnenheaijacphaa.PAlarm
