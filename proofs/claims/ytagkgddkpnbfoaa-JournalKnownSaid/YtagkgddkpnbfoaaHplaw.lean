import Derived.Test.YtagkgddkpnbfoaaHread
namespace Go.Proofs.Ytagkgddkpnbfoaa.P
set_option linter.unusedVariables false
set_option linter.unusedSimpArgs false
open Go.RowKit Go.Proofs.YtagkgddkpnbfoaaW.PrintWords Go.Proofs.YtagkgddkpnbfoaaW.PrintLast Go.Proofs.YtagkgddkpnbfoaaW.PrintMore
theorem gB_drop (M : List Int) (i j : Nat) : gB (M.drop i) j = gB M (i + j) := by simp [gB, List.getD_eq_getElem?_getD]
theorem gT_drop (M : List Int) (i j : Nat) : gT (M.drop i) j = gT M (i + j) := by simp only [gT, gB_drop]; rfl
theorem gB_take {M : List Int} {i n : Nat} (h : i < n) : gB (M.take n) i = gB M i := by simp [gB, List.getD_eq_getElem?_getD, List.getElem?_take, h]
theorem gB_append {M K : List Int} {i : Nat} (h : i < M.length) : gB (M ++ K) i = gB M i := by simp [gB, List.getD_eq_getElem?_getD, List.getElem?_append_left h]
theorem gB_after {M K : List Int} {i : Nat} (h : M.length ≤ i) : gB (M ++ K) i = gB K (i - M.length) := by simp [gB, List.getD_eq_getElem?_getD, List.getElem?_append_right h]
theorem fMid_byte {b : List Int} (hb : ∀ x ∈ b, isByte x) : ∀ x ∈ fMid b, isByte x := mid_byte hb _ _
end Go.Proofs.Ytagkgddkpnbfoaa.P
