import Derived.Test.YtfnfjkddlnnolaaHrun
import Derived.Test.YtfnfjkddlnnolaaShelf
namespace Go.Proofs.Ytfnfjkddlnnolaa.P
set_option linter.unusedVariables false
set_option linter.unusedSimpArgs false
open Go.RowKit Go.Proofs.YtfnfjkddlnnolaaW.PrintWords Go.Proofs.YtfnfjkddlnnolaaW.PrintLast Go.Proofs.YtfnfjkddlnnolaaW.PrintMore

def outN (r : Nat) : Bool := !insB (r : Int)
def valB (s : ByteArray) : Bool := (!s.toList.isEmpty && decide ((s.size : Int) ≤ 15)) && decide (Lib.idxFunc outN true s < 0)
def label_Value.f (a0 : ByteArray) : Option Bool := some (valB a0)
end Go.Proofs.Ytfnfjkddlnnolaa.P
