import Derived.Test.YtfnfjkddlnnolaaP0
import Derived.Test.YtfnfjkddlnnolaaHvalue
import Derived.Test.YtfnfjkddlnnolaaPf71
namespace Go.Proofs.Ytfnfjkddlnnolaa.P
open Go.RowKit Go.Proofs.YtfnfjkddlnnolaaW.PrintWords Go.Proofs.YtfnfjkddlnnolaaW.PrintLast Go.Proofs.YtfnfjkddlnnolaaW.PrintMore
attribute [local go_sem] max2_int min2_int max_two min_two max_three min_three max_four min_four   -- for this text's walks alone
set_option linter.unusedVariables false
set_option linter.unusedSimpArgs false

def label_Name.f (a0 : ByteArray) : Option (Bool) := (label_Value.f a0).bind fun t269 => (if t269 = true then (if 0 < (a0.size : Int) then ((label_small.f (wrap32 (bt a0 0))).bind fun t270 => (some t270)) else (none)) else (some false))
end Go.Proofs.Ytfnfjkddlnnolaa.P
