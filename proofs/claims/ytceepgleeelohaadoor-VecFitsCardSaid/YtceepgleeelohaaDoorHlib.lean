import Derived.Test.YtceepgleeelohaaDoorP0
import Derived.Test.YtceepgleeelohaaDoorShelf
import Derived.Lib.SmallJoins
import Derived.Lib.AppendIntMem
/- Library functions as contracts; one of Go's tables stands in the world. -/
namespace Go.Proofs.YtceepgleeelohaaDoor.P
set_option linter.unusedVariables false
set_option linter.unusedSimpArgs false
open Go.RowKit Go.Proofs.YtceepgleeelohaaDoorW.PrintWords Go.Proofs.YtceepgleeelohaaDoorW.PrintLast Go.Proofs.YtceepgleeelohaaDoorW.PrintMore

/-- the table of powers of ten stands as its initialiser lays it -/
def Tb (w : World) : Prop := Lib.TabIs Tryd.prog w "internal/strconv.uint64pow10" .u64 Lib.pow10Tab
theorem Tb.up {w W : World} (h : Tb w) (hb : Below w.heap.size w W) : Tb W := Lib.tabBelow_of_tabIs h W hb
/-- a number's decimal digits, with so many at most -/
def dgs : Nat → Nat → List UInt8
  | 0, _ => []
  | k + 1, u => if u < 10 then [UInt8.ofNat (48 + u)] else dgs k (u / 10) ++ [UInt8.ofNat (48 + u % 10)]
theorem dgs_eq : ∀ (k u : Nat), u < 10 ^ (k + 1) → dgs (k + 1) u = Lib.decDigits u
  | 0, u, h => by
    unfold dgs
    rw [Lib.decDigits, if_pos (by omega), dif_pos (by omega)]
  | k + 1, u, h => by
    have e : dgs (k + 2) u = if u < 10 then [UInt8.ofNat (48 + u)] else dgs (k + 1) (u / 10) ++ [UInt8.ofNat (48 + u % 10)] := rfl
    rw [e, Lib.decDigits]
    by_cases hu : u < 10
    · rw [if_pos hu, dif_pos hu]
    · rw [if_neg hu, dif_neg hu, dgs_eq k (u / 10) (by rw [Nat.pow_succ] at h; omega)]
def itoaK (n : Int) : ByteArray := ⟨(if n < 0 then 45 :: dgs 20 n.natAbs else dgs 20 n.toNat).toArray⟩
theorem itoaK_eq (n : Int) (h0 : -9223372036854775808 ≤ n) (h1 : n ≤ 9223372036854775807) : itoaK n = ⟨(Lib.itoa n).toArray⟩ := by
  unfold itoaK Lib.itoa
  rw [dgs_eq 19 n.natAbs (by omega), dgs_eq 19 n.toNat (by omega)]
def strconv_Itoa_53.f (n : Int) : Option ByteArray := if -9223372036854775808 ≤ n ∧ n ≤ 9223372036854775807 then some (itoaK n) else none
theorem strconv_Itoa_53.calls (n : Int) (r : ByteArray) (w : World) (h : strconv_Itoa_53.f n = some r) (hT : Tb w) :
    Calls Tryd.prog 53 #[.int .i64 n] w fun e w' => e = .returned (.string r) ∧ Below w.heap.size w w' := by
  unfold strconv_Itoa_53.f at h
  split at h
  · rename_i hn
    obtain rfl := Option.some.inj h
    rw [itoaK_eq n hn.1 hn.2]
    refine (Tryd.strconv_Itoa n hn.1 hn.2 w hT).mono ?_
    rintro e w' ⟨rfl, k, os, rfl⟩
    exact ⟨rfl, Lib.below_grow _ w (Nat.le_refl _) k os⟩
  · cases h
def bits_Mul64.f (x y : Int) : Option (Int × Int) := if 0 ≤ x ∧ x < 18446744073709551616 ∧ 0 ≤ y ∧ y < 18446744073709551616 then some (x * y / 18446744073709551616, x * y % 18446744073709551616) else none
theorem bits_Mul64.calls (x y : Int) (r1 r2 : Int) (w : World) (h : bits_Mul64.f x y = some (r1, r2)) :
    Calls Tryd.prog 68 #[.int .u64 x, .int .u64 y] w fun e w' => e = .returned (.tuple #[.int .u64 r1, .int .u64 r2]) ∧ Below w.heap.size w w' := by
  unfold bits_Mul64.f at h
  split at h
  · rename_i hn
    obtain ⟨a, rfl⟩ := Int.eq_ofNat_of_zero_le hn.1
    obtain ⟨b, rfl⟩ := Int.eq_ofNat_of_zero_le hn.2.2.1
    injection h with h
    injection h with h1 h2
    refine (Tryd.bits_Mul64 a b (by omega) (by omega) w).mono ?_
    rintro e w' ⟨rfl, rfl⟩
    refine ⟨?_, Below.refl _ _⟩
    rw [← h1, ← h2]
    rfl
  · cases h
end Go.Proofs.YtceepgleeelohaaDoor.P
