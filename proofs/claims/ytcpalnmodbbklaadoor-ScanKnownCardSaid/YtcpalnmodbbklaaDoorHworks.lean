import Derived.Test.YtcpalnmodbbklaaDoorPf10
import Derived.Test.YtcpalnmodbbklaaDoorHline
/- The examples that every statement asks. -/
namespace Go.Proofs.YtcpalnmodbbklaaDoor.Pure
set_option linter.unusedVariables false
open Go.RowKit Go.Proofs.YtcpalnmodbbklaaDoor.P Go.Proofs.YtcpalnmodbbklaaDoorW.PrintWords Go.Proofs.YtcpalnmodbbklaaDoorW.PrintLast

theorem works_f : drayagelaw04_works.f 20 = some true := by kernel_rfl
theorem works_k (k : Nat) : drayagelaw04_works.f (20 + k) = some true := by
  induction k with
  | zero => exact works_f
  | succ k ih => exact drayagelaw04_works.mono (20 + k) true ih
end Go.Proofs.YtcpalnmodbbklaaDoor.Pure
