import Derived.Test.YtkpoipjgbdcdjaaDoorPf15
namespace Go.Proofs.YtkpoipjgbdcdjaaDoor.P
open Go.RowKit Go.Proofs.YtkpoipjgbdcdjaaDoorW.PrintWords
theorem works_f : drayagelaw01_works.f 20 = some true := by kernel_rfl
theorem works_at (k : Nat) (h : 20 ≤ k) : drayagelaw01_works.f k = some true := at_rounds drayagelaw01_works.mono h works_f
end Go.Proofs.YtkpoipjgbdcdjaaDoor.P
