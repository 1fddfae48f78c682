import Derived.Test.YtkpoipjgbdcdjaaDoorPf3
import Derived.Test.YtkpoipjgbdcdjaaDoorHq4
import Derived.Test.YtkpoipjgbdcdjaaDoorHworks
namespace Go.Proofs.YtkpoipjgbdcdjaaDoor.Pure
open Go.RowKit Go.Proofs.YtkpoipjgbdcdjaaDoor.P Go.Proofs.YtkpoipjgbdcdjaaDoorW.PrintWords
theorem parses_at (a0 : ByteArray) (a1 : Bool) (ha : a0.size ≤ 140737488351232) : drayagelaw01_QuantParses.f 200 a0 a1 = some true := by
 have hm : 0 ≤ mn (a0.size : Int) 100 ∧ mn (a0.size : Int) 100 ≤ 100 ∧ mn (a0.size : Int) 100 ≤ (a0.size : Int) := by
  rw [mn_min]
  omega
 have hs : (a0.extract 0 (mn (a0.size : Int) 100).toNat).size ≤ 100 := by
  rw [ByteArray.size_extract]
  omega
 unfold drayagelaw01_QuantParses.f
 rw [if_pos hm.1, if_pos hm.2.2]
 generalize a0.extract 0 (mn (a0.size : Int) 100).toNat = t at hs
 have h1 : quant_Parse.f t a1 = some (parseS t a1) := if_pos (by omega)
 have h2 : quant_Percent.f t = some (pctS t) := if_pos (by omega)
 rw [h1, h2, refParse_f t (by omega) a1 200 (by omega), refPercent_f t (by omega) 200 (by omega), Option.bind_some, Option.bind_some, Option.bind_some, Option.bind_some, if_pos rfl, if_pos rfl, if_pos rfl, if_pos rfl, if_pos rfl, if_pos rfl, works_at 200 (by decide)]
 rfl
end Go.Proofs.YtkpoipjgbdcdjaaDoor.Pure
