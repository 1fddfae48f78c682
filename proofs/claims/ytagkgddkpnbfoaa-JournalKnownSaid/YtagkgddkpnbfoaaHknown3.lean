import Derived.Test.YtagkgddkpnbfoaaP0
import Derived.Test.YtagkgddkpnbfoaaHknown2
import Derived.Test.YtagkgddkpnbfoaaPureJournalTorn
import Derived.Test.YtagkgddkpnbfoaaPf16
import Derived.Test.YtagkgddkpnbfoaaPf18
namespace Go.Proofs.Ytagkgddkpnbfoaa.P
open Go.RowKit Go.Proofs.YtagkgddkpnbfoaaW.PrintWords Go.Proofs.YtagkgddkpnbfoaaW.PrintLast Go.Proofs.YtagkgddkpnbfoaaW.PrintMore
attribute [local go_sem] max2_int min2_int max_two min_two max_three min_three max_four min_four   -- for this text's walks alone
set_option linter.unusedVariables false
set_option linter.unusedSimpArgs false

mutual
def drayagelaw20_JournalKnown.l0 : Nat → List Int → Int → Option (Bool)
 | 0, _, _ => none
 | k + 1, x1, x2 => if x2 < (x1.length : Int) then (if 0 ≤ x2 then (drayagelaw20_JournalKnown.l1 k x1 x2 (rd x1 x2) 0) else (none)) else (if 24 ≤ 35184372088832 then (if 255 ≤ 11728124029610 then (drayagelaw20_JournalKnown.l3 k 0 1 0 0 (List.replicate 24 0) (List.replicate 255 z49)) else (none)) else (none))
def drayagelaw20_JournalKnown.l1 : Nat → List Int → Int → Int → Int → Option (Bool)
 | 0, _, _, _, _ => none
 | k + 1, x1, x2, x3, x4 => if x4 < 8 then (drayagelaw20_JournalKnown.l2 k x1 x2 x3 x4 (([(⟨x4, x3, 0, ([] : List Int), ([] : List (S49))⟩ : S25), (⟨x4, 1, x3, ([] : List Int), ([] : List (S49))⟩ : S25), (⟨x4, 1, 0, (([x3] : List Int)), ([] : List (S49))⟩ : S25), (⟨x4, 0, 0, (([0, x3] : List Int)), ([] : List (S49))⟩ : S25), (⟨x4, 0, 0, ([] : List Int), (([(⟨x3, 0, 0⟩ : S49)] : List (S49)))⟩ : S25), (⟨x4, 0, 0, ([] : List Int), (([(⟨2, x3, 0⟩ : S49)] : List (S49)))⟩ : S25), (⟨x4, 0, 0, ([] : List Int), (([(⟨2, 0, x3⟩ : S49)] : List (S49)))⟩ : S25), (⟨x4, 0, 0, ([] : List Int), (([(⟨1, 0, x3⟩ : S49)] : List (S49)))⟩ : S25)] : List (S25))) 0) else (drayagelaw20_JournalKnown.l0 k x1 (wrap64 (x2 + 1)))
def drayagelaw20_JournalKnown.l2 : Nat → List Int → Int → Int → Int → List (S25) → Int → Option (Bool)
 | 0, _, _, _, _, _, _ => none
 | k + 1, x1, x2, x3, x4, x5, x6 => if x6 < (x5.length : Int) then (if 0 ≤ x6 then ((drayagelaw20_JournalBytes.f ((rd_T25 x5 x6).f0) ((rd_T25 x5 x6).f1) ((rd_T25 x5 x6).f2) ((rd_T25 x5 x6).f3) ((rd_T25 x5 x6).f4) (([(x3) % 256, 255, 0] : List Int))).bind fun t335 => (if t335 = true then (drayagelaw20_JournalKnown.l2 k x1 x2 x3 x4 x5 (wrap64 (x6 + 1))) else (some false))) else (none)) else (drayagelaw20_JournalKnown.l1 k x1 x2 x3 (wrap64 (x4 + 1)))
def drayagelaw20_JournalKnown.l3 : Nat → Int → Int → Int → Int → List Int → List (S49) → Option (Bool)
 | 0, _, _, _, _, _, _ => none
 | k + 1, x8, x343000, x343001, x343002, x343003, x343004 => if x8 < 255 then (if 0 ≤ x8 then (if x8 < (x343004.length : Int) then (drayagelaw20_JournalKnown.l3 k (wrap64 (x8 + 1)) x343000 x343001 x343002 x343003 (x343004.set (x8 : Int).toNat (⟨2, Int.tmod x8 24, Int.tmod x8 8⟩ : S49))) else (none)) else (none)) else (if 25 ≤ 35184372088832 then ((some (([] : List (S49)) : List (S49))).bind fun y349 => (if y349.length + x343004.length < 5864062014805 then (if 0 < (x343004.length : Int) then (if (y349 ++ x343004).length < 5864062014805 then (drayagelaw20_JournalKnown.l4 k (([[], (([0, 8, 255, 247, 3, 0, 0, 0] : List Int)), (([0, 9, 255, 246, 1, 0, 0, 0, 41] : List Int)), (([255, 255, 0, 0, 1, 0, 0, 0] : List Int)), (([0, 7, 255, 248, 0, 0, 0] : List Int))] : List (List Int))) 0) else (none)) else (none)) else (none))) else (none))
def drayagelaw20_JournalKnown.l4 : Nat → List (List Int) → Int → Option (Bool)
 | 0, _, _ => none
 | k + 1, x11, x12 => if x12 < (x11.length : Int) then (if 0 ≤ x12 then ((kn_Reads.f (rd_L6 x11 x12)).bind fun t375 => (if t375 = true then (if ((rd_L6 x11 x12).length : Int) > 6 then (if 0 ≤ (wrap64 (((rd_L6 x11 x12).length : Int) - 2)) then (if (wrap64 (((rd_L6 x11 x12).length : Int) - 2)) ≤ ((rd_L6 x11 x12).length : Int) then ((some ((rd_L6 x11 x12).take ((wrap64 (((rd_L6 x11 x12).length : Int) - 2)) : Int).toNat : List Int)).bind fun y379 => ((drayageref20_Sum.f k y379).bind fun t384 => ((drayageref00_CopyBytes.f y379).bind fun t385 => ((some (([(t384 / 256) % 256, (t384) % 256] : List Int) : List Int)).bind fun y388 => (if t385.length + y388.length < 140737488355328 then ((kn_Reads.f (t385 ++ y388)).bind fun t394 => (if t394 = true then (drayagelaw20_JournalKnown.l4 k x11 (wrap64 (x12 + 1))) else (some false))) else (none)))))) else (none)) else (none)) else (drayagelaw20_JournalKnown.l4 k x11 (wrap64 (x12 + 1)))) else (some false))) else (none)) else (some true)
end
def drayagelaw20_JournalKnown.f (k : Nat)  : Option (Bool) := drayagelaw20_JournalKnown.l0 k (([(-9223372036854775808), (-2), (-1), 0, 1, 2, 3, 4, 7, 8, 23, 24, 255, 256, 65535, 65536, 9223372036854775807] : List Int)) 0
def drayagelaw20_JournalKnown.T30 : Bool × List (List Nat × List Nat) := (true, [([], []), ([], []), ([0, 1], [0, 1]), ([2], [2]), ([], []), ([], []), ([4, 5], [4, 5]), ([6], [6]), ([7], [7]), ([8], [8]), ([3, 9], [3, 9]), ([10, 0, 1, 2, 3, 4, 5, 6, 7, 8, 9, 10], [10])])
def drayagelaw20_JournalKnown.B30 : List Nat := [0, 0, 3, 7, 0, 0, 48, 112, 240, 496, 1023, 2047]
theorem drayagelaw20_JournalKnown.tab30 : rtab .any (opsOf Try.f8 30) = drayagelaw20_JournalKnown.T30 := by kernel_rfl
theorem drayagelaw20_JournalKnown.bits30 : waitsOk drayagelaw20_JournalKnown.T30.2 drayagelaw20_JournalKnown.B30 = true := by kernel_rfl
theorem kAs {p : Prop} (h : p) : Aside0 p := ⟨h⟩
theorem kpc {w w1 : World} (h : Below w.heap.size w w1) {a : Addr} {v : Value} (hc : w.cell? a = some v) : w1.cell? a = some v := pw_cell_below h hc
end Go.Proofs.Ytagkgddkpnbfoaa.P
