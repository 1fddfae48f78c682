import Derived.Test.YtkpoipjgbdcdjaaDoorHlib
import Derived.Test.YtkpoipjgbdcdjaaDoorShelv
import Derived.Lib.LaidU8T
/- utf8.ValidString, as a contract; two of Go's tables stand in the world. -/
namespace Go.Proofs.YtkpoipjgbdcdjaaDoor.P
set_option linter.unusedVariables false
set_option linter.unusedSimpArgs false
open Go.RowKit Go.Proofs.YtkpoipjgbdcdjaaDoorW.PrintWords Go.Proofs.YtkpoipjgbdcdjaaDoorW.PrintLast Go.Proofs.YtkpoipjgbdcdjaaDoorW.PrintMore
/-- the two tables of unicode/utf8 stand as their initialisers lay them -/
def Tb2 (w : World) : Prop := Lib.Utf8Tabs 0 1 w
theorem Tb2.up {w W : World} (h : Tb2 w) (hb : Below w.heap.size w W) : Tb2 W := Utf8Tabs_below h hb
/-- all three tables stand -/
def Tw (w : World) : Prop := Tb w ∧ Tb2 w
theorem Tw.up {w W : World} (h : Tw w) (hb : Below w.heap.size w W) : Tw W := ⟨h.1.up hb, h.2.up hb⟩
def utf8_ValidString.f (s : ByteArray) : Option Bool := if s.size ≤ 9223372036854775807 then some (Lib.validD s.data.toList) else none
theorem utf8_ValidString.calls (s : ByteArray) (r : Bool) (w : World) (h : utf8_ValidString.f s = some r) (hT : Tw w) :
    Calls Tryd.prog 32 #[.string s] w fun e w' => e = .returned (.bool r) ∧ Below w.heap.size w w' := by
  unfold utf8_ValidString.f at h
  split at h
  · rename_i hs
    obtain rfl := Option.some.inj h
    exact Any.utf8_ValidString Tryd.lays196 s w hs hT.2
  · cases h
end Go.Proofs.YtkpoipjgbdcdjaaDoor.P
