import Derived.Test.YtkpoipjgbdcdjaaDoorPf4
import Derived.Test.YtkpoipjgbdcdjaaDoorHqp
import Derived.Test.YtkpoipjgbdcdjaaDoorHworks
namespace Go.Proofs.YtkpoipjgbdcdjaaDoor.Pure
open Go.RowKit Go.Proofs.YtkpoipjgbdcdjaaDoor.P
theorem prints_at (a0 : Int) (a1 : Bool) (ha : (Lit.int .i64 a0).wf = true) : drayagelaw01_QuantPrints.f 40 a0 a1 = some true := by
 have hb : -9223372036854775808 ≤ a0 ∧ a0 ≤ 9223372036854775807 := by
  unfold Lit.wf at ha
  have hmin : IntKind.i64.min = -9223372036854775808 := rfl
  have hmax : IntKind.i64.max = 9223372036854775807 := rfl
  simp only [Bool.and_eq_true, decide_eq_true_eq] at ha
  omega
 unfold drayagelaw01_QuantPrints.f
 rw [Print_f a0 a1 hb 34, refPrint_f a0 a1 hb 33, PrintPercent_f a0 38, refPrintPercent_f a0 38, Option.bind_some, Option.bind_some, Option.bind_some, Option.bind_some, if_pos rfl, if_pos rfl, if_pos rfl, if_pos rfl, works_at 40 (by decide)]
 rfl
end Go.Proofs.YtkpoipjgbdcdjaaDoor.Pure
