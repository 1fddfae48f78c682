import Derived.Test.YtceepgleeelohaaDoorPf36
import Derived.Test.YtceepgleeelohaaDoorPf39
/- What the prints of quant write. -/
namespace Go.Proofs.YtceepgleeelohaaDoor.P
set_option linter.unusedVariables false
set_option linter.unusedSimpArgs false
open Go.RowKit Go.Proofs.YtceepgleeelohaaDoorW.PrintWords Go.Proofs.YtceepgleeelohaaDoorW.PrintLast Go.Proofs.YtceepgleeelohaaDoorW.PrintMore
theorem dgs_len : ∀ (k u : Nat), (dgs k u).length ≤ k
  | 0, _ => Nat.le_refl _
  | k + 1, u => by
    unfold dgs
    have := dgs_len k (u / 10)
    split
    · simp
    · rw [List.length_append, List.length_singleton]; omega
theorem itoa_len (n : Int) : (itoaK n).size ≤ 21 := by
  unfold itoaK
  have h1 := dgs_len 20 n.natAbs
  have h2 := dgs_len 20 n.toNat
  show (if n < 0 then 45 :: dgs 20 n.natAbs else dgs 20 n.toNat).toArray.size ≤ 21
  split
  · simp only [List.size_toArray, List.length_cons]; omega
  · simp only [List.size_toArray]; omega
theorem itoa_f (n : Int) (h0 : -9223372036854775808 ≤ n) (h1 : n ≤ 9223372036854775807) : strconv_Itoa_53.f n = some (itoaK n) := by
  unfold strconv_Itoa_53.f
  rw [if_pos ⟨h0, h1⟩]
/-- what Print writes of a quantity -/
def printG (a : Int) : ByteArray :=
  if 0 < a ∧ Int.tmod a 1073741824 = 0 then itoaK (Int.tdiv a 1073741824) ++ (⟨#[71, 105]⟩ : ByteArray)
  else if 0 < a ∧ Int.tmod a 1048576 = 0 then itoaK (Int.tdiv a 1048576) ++ (⟨#[77, 105]⟩ : ByteArray)
  else if 0 < a ∧ Int.tmod a 1024 = 0 then itoaK (Int.tdiv a 1024) ++ (⟨#[75, 105]⟩ : ByteArray)
  else itoaK a
def printM (a : Int) : ByteArray := if Int.tmod a 1000 = 0 then itoaK (Int.tdiv a 1000) else itoaK a ++ (⟨#[109]⟩ : ByteArray)
def printS (a : Int) (milli : Bool) : ByteArray × Int := if a < 0 ∨ 1099511627776 < a then (⟨#[]⟩, 2) else if milli = true then (printM a, 0) else (printG a, 0)
theorem tdiv_bd (a d : Int) (h0 : 0 ≤ a) (h1 : a ≤ 1099511627776) (hd : 0 < d) : 0 ≤ Int.tdiv a d ∧ Int.tdiv a d ≤ 1099511627776 := by
  rw [Int.tdiv_eq_ediv_of_nonneg h0]
  have h2 := Int.ediv_le_self d h0
  exact ⟨Int.ediv_nonneg h0 (by omega), by omega⟩
theorem w_id (x : Int) (h0 : 0 ≤ x) (h1 : x ≤ 1099511627776) : wrap64 x = x := by unfold wrap64; omega
theorem it_div (a d : Int) (h0 : 0 ≤ a) (h1 : a ≤ 1099511627776) (hd : 0 < d) : strconv_Itoa_53.f (wrap64 (Int.tdiv a d)) = some (itoaK (Int.tdiv a d)) := by
  have := tdiv_bd a d h0 h1 hd
  rw [w_id _ this.1 this.2, itoa_f _ (by omega) (by omega)]
theorem e30 : wrap64 (30 - (wrap64 (10 * 0))) = 30 := by kernel_rfl
theorem e20 : wrap64 (30 - (wrap64 (10 * 1))) = 20 := by kernel_rfl
theorem e10 : wrap64 (30 - (wrap64 (10 * 2))) = 10 := by kernel_rfl
theorem sh0 : shl .i64 1 30 = 1073741824 := by kernel_rfl
theorem sh1 : shl .i64 1 20 = 1048576 := by kernel_rfl
theorem sh2 : shl .i64 1 10 = 1024 := by kernel_rfl
theorem w01 : wrap64 (0 + 1) = 1 := by kernel_rfl
theorem w12 : wrap64 (1 + 1) = 2 := by kernel_rfl
theorem w23 : wrap64 (2 + 1) = 3 := by kernel_rfl
theorem two_sz (n : Int) (s : ByteArray) (h : s.size ≤ 10) : (itoaK n).size + s.size ≤ 9223372036854775807 := by have := itoa_len n; omega
theorem Print_f (a : Int) (milli : Bool) (ha : -9223372036854775808 ≤ a ∧ a ≤ 9223372036854775807) (k : Nat) : quant_Print.f (k + 6) a milli = some (printS a milli) := by
  unfold quant_Print.f printS
  by_cases h0 : a < 0
  · rw [if_pos h0, if_pos (Or.inl h0)]
    rfl
  rw [if_neg h0]
  by_cases h1 : 1099511627776 < a
  · rw [if_pos (Or.inr h1), decide_eq_true h1]
    rfl
  rw [if_neg (fun h => h.elim h0 h1), decide_eq_false h1, quant_Print.j0, if_neg (by decide)]
  have ha0 : 0 ≤ a := by omega
  have ha1 : a ≤ 1099511627776 := by omega
  cases milli with
  | true =>
    rw [if_pos rfl, if_pos rfl]
    unfold printM
    by_cases hm : Int.tmod a 1000 = 0
    · rw [if_pos hm, if_pos hm, it_div a 1000 ha0 ha1 (by decide)]
      rfl
    · rw [if_neg hm, if_neg hm, itoa_f a ha.1 ha.2, Option.bind_some, if_pos (by have := itoa_len a; omega)]
  | false =>
    rw [if_neg (by decide), if_neg (by decide), Option.bind_some]
    unfold printG
    have hl : ((([(⟨#[71, 105]⟩ : ByteArray), (⟨#[77, 105]⟩ : ByteArray), (⟨#[75, 105]⟩ : ByteArray)] : List ByteArray).length : Nat) : Int) = 3 := rfl
    rw [hl, quant_Print.l0, e30, sh0, if_pos (by decide), if_pos (by decide), if_pos (by decide), if_pos (by decide), w01]
    by_cases hp : a > 0
    · rw [if_pos hp, if_neg (by decide)]
      by_cases g0 : Int.tmod a 1073741824 = 0
      · rw [if_pos g0, if_pos ⟨hp, g0⟩, it_div a _ ha0 ha1 (by decide), Option.bind_some, if_pos (two_sz _ _ (by decide))]
        rfl
      rw [if_neg g0, if_neg (fun h => g0 h.2), quant_Print.l0, e20, sh1, if_pos (by decide), if_pos (by decide), if_pos (by decide), if_pos (by decide), if_pos hp, if_neg (by decide), w12]
      by_cases g1 : Int.tmod a 1048576 = 0
      · rw [if_pos g1, if_pos ⟨hp, g1⟩, it_div a _ ha0 ha1 (by decide), Option.bind_some, if_pos (two_sz _ _ (by decide))]
        rfl
      rw [if_neg g1, if_neg (fun h => g1 h.2), quant_Print.l0, e10, sh2, if_pos (by decide), if_pos (by decide), if_pos (by decide), if_pos (by decide), if_pos hp, if_neg (by decide), w23]
      by_cases g2 : Int.tmod a 1024 = 0
      · rw [if_pos g2, if_pos ⟨hp, g2⟩, it_div a _ ha0 ha1 (by decide), Option.bind_some, if_pos (two_sz _ _ (by decide))]
        rfl
      rw [if_neg g2, if_neg (fun h => g2 h.2), quant_Print.l0, if_neg (by decide), itoa_f a ha.1 ha.2]
      rfl
    · rw [if_neg hp, if_neg (fun h => hp h.1), if_neg (fun h => hp h.1), if_neg (fun h => hp h.1), quant_Print.l0, e20, if_pos (by decide), if_pos (by decide), if_pos (by decide), if_pos (by decide), if_neg hp, w12,
        quant_Print.l0, e10, if_pos (by decide), if_pos (by decide), if_pos (by decide), if_pos (by decide), if_neg hp, w23, quant_Print.l0, if_neg (by decide), itoa_f a ha.1 ha.2]
      rfl
theorem refPrint_f (a : Int) (milli : Bool) (ha : -9223372036854775808 ≤ a ∧ a ≤ 9223372036854775807) (k : Nat) : drayageref01_Print.f (k + 7) a milli = some (printS a milli) := by
  unfold drayageref01_Print.f printS
  by_cases h0 : a < 0
  · rw [if_pos h0, if_pos (Or.inl h0)]
    rfl
  rw [if_neg h0]
  by_cases h1 : 1099511627776 < a
  · rw [if_pos (Or.inr h1), decide_eq_true h1]
    rfl
  rw [if_neg (fun h => h.elim h0 h1), decide_eq_false h1, drayageref01_Print.j0, if_neg (by decide)]
  have ha0 : 0 ≤ a := by omega
  have ha1 : a ≤ 1099511627776 := by omega
  cases milli with
  | true =>
    rw [if_pos rfl, if_pos rfl, drayageref01_Print.j1]
    unfold printM
    by_cases hm : Int.tmod a 1000 = 0
    · rw [if_pos hm, if_pos (by rw [hm]; rfl), it_div a 1000 ha0 ha1 (by decide)]
      rfl
    · rw [if_neg hm, if_neg (by simpa using hm), if_pos rfl, itoa_f a ha.1 ha.2, Option.bind_some, if_pos (by have := itoa_len a; omega)]
  | false =>
    rw [if_neg (by decide), if_neg (by decide), drayageref01_Print.j1, if_neg (by decide), if_neg (by decide)]
    unfold printG
    have hl : ((([(⟨#[71, 105]⟩ : ByteArray), (⟨#[77, 105]⟩ : ByteArray), (⟨#[75, 105]⟩ : ByteArray)] : List ByteArray).length : Nat) : Int) = 3 := rfl
    rw [drayageref01_Print.l0, e30, sh0, hl, if_pos (by decide), if_pos (by decide), w01]
    by_cases hp : a > 0
    · rw [if_pos hp, if_neg (by decide)]
      by_cases g0 : Int.tmod a 1073741824 = 0
      · rw [if_pos g0, if_pos ⟨hp, g0⟩, it_div a _ ha0 ha1 (by decide), Option.bind_some, if_pos (by decide), if_pos (by decide), if_pos (two_sz _ _ (by decide))]
        rfl
      rw [if_neg g0, if_neg (fun h => g0 h.2), drayageref01_Print.l0, e20, sh1, hl, if_pos (by decide), if_pos (by decide), if_pos hp, if_neg (by decide), w12]
      by_cases g1 : Int.tmod a 1048576 = 0
      · rw [if_pos g1, if_pos ⟨hp, g1⟩, it_div a _ ha0 ha1 (by decide), Option.bind_some, if_pos (by decide), if_pos (by decide), if_pos (two_sz _ _ (by decide))]
        rfl
      rw [if_neg g1, if_neg (fun h => g1 h.2), drayageref01_Print.l0, e10, sh2, hl, if_pos (by decide), if_pos (by decide), if_pos hp, if_neg (by decide), w23]
      by_cases g2 : Int.tmod a 1024 = 0
      · rw [if_pos g2, if_pos ⟨hp, g2⟩, it_div a _ ha0 ha1 (by decide), Option.bind_some, if_pos (by decide), if_pos (by decide), if_pos (two_sz _ _ (by decide))]
        rfl
      rw [if_neg g2, if_neg (fun h => g2 h.2), drayageref01_Print.l0, if_neg (by decide), itoa_f a ha.1 ha.2]
      rfl
    · rw [if_neg hp, if_neg (fun h => hp h.1), if_neg (fun h => hp h.1), if_neg (fun h => hp h.1), drayageref01_Print.l0, e20, if_pos (by decide), if_pos (by decide), if_neg hp, w12,
        drayageref01_Print.l0, e10, if_pos (by decide), if_pos (by decide), if_neg hp, w23, drayageref01_Print.l0, if_neg (by decide), itoa_f a ha.1 ha.2]
      rfl
/-- what PrintPercent writes -/
def pctP (a : Int) : ByteArray × Int := if a < 0 ∨ 1000 < a then (⟨#[]⟩, 2) else if Int.tmod a 10 = 0 then (itoaK (Int.tdiv a 10) ++ (⟨#[37]⟩ : ByteArray), 0) else (((itoaK (Int.tdiv a 10) ++ (⟨#[46]⟩ : ByteArray)) ++ itoaK (Int.tmod a 10)) ++ (⟨#[37]⟩ : ByteArray), 0)
theorem sz1 (c : UInt8) : (⟨#[c]⟩ : ByteArray).size = 1 := rfl
end Go.Proofs.YtceepgleeelohaaDoor.P
