import Derived.Test.YtfnfjkddlnnolaaHvalue
import Derived.Test.YtfnfjkddlnnolaaHparts
import Derived.Test.YtfnfjkddlnnolaaPf57
import Derived.Test.YtfnfjkddlnnolaaPf58
import Derived.Test.YtfnfjkddlnnolaaPf59
namespace Go.Proofs.Ytfnfjkddlnnolaa.P
set_option linter.unusedVariables false
set_option linter.unusedSimpArgs false
open Go.RowKit Go.Proofs.YtfnfjkddlnnolaaW.PrintWords Go.Proofs.YtfnfjkddlnnolaaW.PrintLast Go.Proofs.YtfnfjkddlnnolaaW.PrintMore
end Go.Proofs.Ytfnfjkddlnnolaa.P
