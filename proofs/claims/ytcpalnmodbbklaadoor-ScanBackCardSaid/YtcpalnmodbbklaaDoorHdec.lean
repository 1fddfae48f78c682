import Derived.Test.YtcpalnmodbbklaaDoorP0
import Derived.Test.YtcpalnmodbbklaaDoorShelf
import Derived.Lib.MapLaws
import Derived.Lib.RuneCountTail
/- Library functions on runes, as contracts; two of Go's tables stand in the world. -/
namespace Go.Proofs.YtcpalnmodbbklaaDoor.P
set_option linter.unusedVariables false
set_option linter.unusedSimpArgs false
open Go.RowKit Go.Proofs.YtcpalnmodbbklaaDoorW.PrintWords Go.Proofs.YtcpalnmodbbklaaDoorW.PrintLast Go.Proofs.YtcpalnmodbbklaaDoorW.PrintMore

/-- the two tables of unicode/utf8 stand as their initialisers lay them -/
def Tb (w : World) : Prop := Lib.Utf8Tabs 0 1 w
theorem Tb.up {w W : World} (h : Tb w) (hb : Below w.heap.size w W) : Tb W := Utf8Tabs_below h hb
def utf8_ValidString.f (s : ByteArray) : Option Bool := if s.size ≤ 9223372036854775807 then some (Lib.validD s.data.toList) else none
theorem utf8_ValidString.calls (s : ByteArray) (r : Bool) (w : World) (h : utf8_ValidString.f s = some r) (hT : Tb w) :
    Calls Tryd.prog 9 #[.string s] w fun e w' => e = .returned (.bool r) ∧ Below w.heap.size w w' := by
  unfold utf8_ValidString.f at h
  split at h
  · rename_i hs
    obtain rfl := Option.some.inj h
    exact Any.utf8_ValidString Tryd.lays196 s w hs hT
  · cases h
def utf8_RuneCountInString.f (s : ByteArray) : Option Int := if s.size < 9223372036854775807 then some (Lib.runeCount s : Int) else none
theorem utf8_RuneCountInString.calls (s : ByteArray) (r : Int) (w : World) (h : utf8_RuneCountInString.f s = some r) :
    Calls Tryd.prog 11 #[.string s] w fun e w' => e = .returned (.int .i64 r) ∧ Below w.heap.size w w' := by
  unfold utf8_RuneCountInString.f at h
  split at h
  · rename_i hs
    obtain rfl := Option.some.inj h
    refine (Tryd.utf8_RuneCountInString s w hs).mono ?_
    rintro e w' ⟨rfl, pos, rfl⟩
    exact ⟨rfl, (Below.refl _ _).alloc (Nat.le_refl _) _⟩
  · cases h
theorem dec_calls0 (s : ByteArray) (w : World) (hT : Tb w) :
    Calls Tryd.prog 45 #[.string s] w fun e w' => e = .returned (.tuple #[.int .i32 (Lib.decodeGo s).1, .int .i64 (Lib.decodeGo s).2]) ∧ Below w.heap.size w w' := Tryd.utf8_DecodeRuneInString s w hT
/-- the rune at a byte -/
theorem dec_calls (s : ByteArray) (at' : Nat) (h : at' < s.size) (w : World) (hT : Tb w) :
    Calls Tryd.prog 45 #[.string (s.extract at' s.size)] w fun e w' => e = .returned (.tuple #[.int .i32 ((Utf8.decode s at').1 : Nat), .int .i64 ((Utf8.decode s at').2 : Nat)]) ∧ Below w.heap.size w w' := by
  have e : Lib.decodeGo (s.extract at' s.size) = Utf8.decode s at' := by
    unfold Lib.decodeGo
    rw [if_neg (by rw [Lib.tail_size]; omega), Lib.tail_decode]
    rfl
  have := dec_calls0 (s.extract at' s.size) w hT
  rw [e] at this
  exact this
end Go.Proofs.YtcpalnmodbbklaaDoor.P
