import Derived.Test.YtfnfjkddlnnolaaP0
import Derived.Test.YtfnfjkddlnnolaaHget
import Derived.Test.YtfnfjkddlnnolaaHlabels
import Derived.Test.YtfnfjkddlnnolaaPf16
import Derived.Test.YtfnfjkddlnnolaaPf18
import Derived.Test.YtfnfjkddlnnolaaPf19
namespace Go.Proofs.Ytfnfjkddlnnolaa.P
open Go.RowKit Go.Proofs.YtfnfjkddlnnolaaW.PrintWords Go.Proofs.YtfnfjkddlnnolaaW.PrintLast Go.Proofs.YtfnfjkddlnnolaaW.PrintMore
attribute [local go_sem] max2_int min2_int max_two min_two max_three min_three max_four min_four   -- for this text's walks alone
set_option linter.unusedVariables false
set_option linter.unusedSimpArgs false

mutual
def drayagelaw03_LabelOpposite.j0 : Nat → List (S43) → Bool → Int → Int → Int → Int → ByteArray → ByteArray → Option (Bool)
 | 0, _, _, _, _, _, _, _, _ => none
 | k + 1, x7, x46, x359000, x359001, x359002, x366000, x366001, x366002 => if x46 = true then (some false) else ((drayagelaw03_term.f x359000 x359001 x359002).bind fun bt384 => ((some (([(⟨x366000, x366001, x366002⟩ : S38), (⟨bt384.1, bt384.2.1, bt384.2.2⟩ : S38)] : List (S38)) : List (S38))).bind fun y387 => ((label_Holds.f k y387 x7).bind fun t390 => (if 1 ≤ (y387.length : Int) then ((label_Holds.f k (y387.take 1) x7).bind fun t395 => (if t395 = true then ((label_Holds.f k (y387.drop 1) x7).bind fun t400 => (drayagelaw03_LabelOpposite.j1 k x7 (t390 != t400))) else (drayagelaw03_LabelOpposite.j1 k x7 (t390 != false)))) else (none)))))
def drayagelaw03_LabelOpposite.j1 : Nat → List (S43) → Bool → Option (Bool)
 | 0, _, _ => none
 | k + 1, x7, x64 => if x64 = true then (some false) else ((label_Bears.f x7 x7).bind fun t401 => (if t401 = true then ((label_Bears.f x7 ([] : List (S43))).bind fun t402 => (if t402 = true then ((label_Bears.f ([] : List (S43)) x7).bind fun t403 => (drayagelaw03_LabelOpposite.j2 k x7 (t403 != ((x7.length : Int) == 0)))) else (drayagelaw03_LabelOpposite.j2 k x7 true))) else (drayagelaw03_LabelOpposite.j2 k x7 true)))
def drayagelaw03_LabelOpposite.j2 : Nat → List (S43) → Bool → Option (Bool)
 | 0, _, _ => none
 | k + 1, x7, x81 => if x81 = true then (some false) else (drayagelaw03_LabelOpposite.l0 k x7 0)
def drayagelaw03_LabelOpposite.l0 : Nat → List (S43) → Int → Option (Bool)
 | 0, _, _ => none
 | k + 1, x7, x11 => if x11 < (x7.length : Int) then ((some (([] : List (S43)) : List (S43))).bind fun y405 => (if 0 ≤ x11 then (if x11 ≤ (x7.length : Int) then ((some (x7.take (x11 : Int).toNat : List (S43))).bind fun y408 => (if y405.length + y408.length < 4398046511104 then ((some (y405 ++ y408 : List (S43))).bind fun y412 => (if 0 ≤ (wrap64 (x11 + 1)) then (if (wrap64 (x11 + 1)) ≤ (x7.length : Int) then ((some (x7.drop ((wrap64 (x11 + 1)) : Int).toNat : List (S43))).bind fun y415 => (if y412.length + y415.length < 4398046511104 then ((some (y412 ++ y415 : List (S43))).bind fun y419 => ((label_Bears.f y419 x7).bind fun t422 => (if t422 = true then (drayagelaw03_LabelOpposite.j4 k x7 x11 true) else ((label_Bears.f x7 y419).bind fun t423 => (if t423 = true then (if y419.length < 4398046511104 then ((label_Bears.f (y419 ++ [(⟨(rd_T43 x7 x11).f0, (⟨#[42]⟩ : ByteArray)⟩ : S43)]) x7).bind fun t428 => (drayagelaw03_LabelOpposite.j4 k x7 x11 (!t428))) else (none)) else (drayagelaw03_LabelOpposite.j4 k x7 x11 true)))))) else (none))) else (none)) else (none))) else (none))) else (none)) else (none))) else ((drayagelaw03_works.f k).bind fun t404 => (some t404))
def drayagelaw03_LabelOpposite.j4 : Nat → List (S43) → Int → Bool → Option (Bool)
 | 0, _, _, _ => none
 | k + 1, x7, x11, x120 => if x120 = true then (some false) else (if 0 ≤ x11 then (if x11 < (x7.length : Int) then ((label_Get.f x7 ((rd_T43 x7 x11).f0)).bind fun bt430 => (if bt430.1.toList = ((rd_T43 x7 x11).f1).toList then (if bt430.2 = true then (drayagelaw03_LabelOpposite.l0 k x7 (wrap64 (x11 + 1))) else (some false)) else (some false))) else (none)) else (none))
end
def drayagelaw03_LabelOpposite.f (k : Nat) (l0 : List (S35)) (a1_0 : Int) (a1_1 : Int) (a1_2 : Int) (a2_0 : Int) (a2_1 : Int) (a2_2 : Int) : Option (Bool) := (drayagelaw03_labels.f l0).bind fun t359 => ((drayagelaw03_term.f a1_0 a1_1 a1_2).bind fun bt362 => ((some (([0, 2, 1, 4, 3] : List Int) : List Int)).bind fun y367 => (if 0 ≤ bt362.1 then (if bt362.1 < (y367.length : Int) then ((label_Holds.f k (([(⟨bt362.1, bt362.2.1, bt362.2.2⟩ : S38)] : List (S38))) t359).bind fun t374 => ((label_Holds.f k (([(⟨rd y367 bt362.1, bt362.2.1, bt362.2.2⟩ : S38)] : List (S38))) t359).bind fun t378 => (if (t374 == t378) = true then (drayagelaw03_LabelOpposite.j0 k t359 true a2_0 a2_1 a2_2 bt362.1 bt362.2.1 bt362.2.2) else ((label_Holds.f k (([(⟨bt362.1, bt362.2.1, bt362.2.2⟩ : S38), (⟨rd y367 bt362.1, bt362.2.1, bt362.2.2⟩ : S38)] : List (S38))) t359).bind fun t382 => (if t382 = true then (drayagelaw03_LabelOpposite.j0 k t359 true a2_0 a2_1 a2_2 bt362.1 bt362.2.1 bt362.2.2) else ((label_Holds.f k ([] : List (S38)) t359).bind fun t383 => (drayagelaw03_LabelOpposite.j0 k t359 (!t383) a2_0 a2_1 a2_2 bt362.1 bt362.2.1 bt362.2.2))))))) else (none)) else (none))))
theorem drayagelaw03_LabelOpposite.mono_l : ∀ k, (∀ y0 y1 y2 y3 y4 y5 y6 y7, LeO (drayagelaw03_LabelOpposite.j0 k y0 y1 y2 y3 y4 y5 y6 y7) (drayagelaw03_LabelOpposite.j0 (k + 1) y0 y1 y2 y3 y4 y5 y6 y7)) ∧ (∀ y0 y1, LeO (drayagelaw03_LabelOpposite.j1 k y0 y1) (drayagelaw03_LabelOpposite.j1 (k + 1) y0 y1)) ∧ (∀ y0 y1, LeO (drayagelaw03_LabelOpposite.j2 k y0 y1) (drayagelaw03_LabelOpposite.j2 (k + 1) y0 y1)) ∧ (∀ y0 y1, LeO (drayagelaw03_LabelOpposite.l0 k y0 y1) (drayagelaw03_LabelOpposite.l0 (k + 1) y0 y1)) ∧ (∀ y0 y1 y2, LeO (drayagelaw03_LabelOpposite.j4 k y0 y1 y2) (drayagelaw03_LabelOpposite.j4 (k + 1) y0 y1 y2))
 | 0 => ⟨fun _ _ _ _ _ _ _ _ r h => by simp [drayagelaw03_LabelOpposite.j0] at h, fun _ _ r h => by simp [drayagelaw03_LabelOpposite.j1] at h, fun _ _ r h => by simp [drayagelaw03_LabelOpposite.j2] at h, fun _ _ r h => by simp [drayagelaw03_LabelOpposite.l0] at h, fun _ _ _ r h => by simp [drayagelaw03_LabelOpposite.j4] at h⟩
 | k + 1 => by
  obtain ⟨ih0, ih1, ih2, ih3, ih4⟩ := drayagelaw03_LabelOpposite.mono_l k
  refine ⟨?_, ?_, ?_, ?_, ?_⟩
  ·intro y0 y1 y2 y3 y4 y5 y6 y7
   unfold drayagelaw03_LabelOpposite.j0
   repeat' first
   | (with_reducible exact ih0 _ _ _ _ _ _ _ _)
   | (with_reducible exact ih1 _ _)
   | (with_reducible exact ih2 _ _)
   | (with_reducible exact ih3 _ _)
   | (with_reducible exact ih4 _ _ _)
   | (with_reducible exact drayagelaw03_works.mono _)
   | (with_reducible exact label_Holds.mono _ _ _)
   | (with_reducible exact LeO.refl _)
   | (with_reducible exact LeO.none _)
   | (with_reducible refine LeO.ite ?_ ?_)
   | (with_reducible refine LeO.bind ?_ (fun _ => ?_))
   | exact ih0 _ _ _ _ _ _ _ _
   | exact ih1 _ _
   | exact ih2 _ _
   | exact ih3 _ _
   | exact ih4 _ _ _
   | exact drayagelaw03_works.mono _
   | exact label_Holds.mono _ _ _
   | exact LeO.none _
   | refine LeO.ite ?_ ?_
   | refine LeO.bind ?_ (fun _ => ?_)
  ·intro y0 y1
   unfold drayagelaw03_LabelOpposite.j1
   repeat' first
   | (with_reducible exact ih0 _ _ _ _ _ _ _ _)
   | (with_reducible exact ih1 _ _)
   | (with_reducible exact ih2 _ _)
   | (with_reducible exact ih3 _ _)
   | (with_reducible exact ih4 _ _ _)
   | (with_reducible exact drayagelaw03_works.mono _)
   | (with_reducible exact label_Holds.mono _ _ _)
   | (with_reducible exact LeO.refl _)
   | (with_reducible exact LeO.none _)
   | (with_reducible refine LeO.ite ?_ ?_)
   | (with_reducible refine LeO.bind ?_ (fun _ => ?_))
   | exact ih0 _ _ _ _ _ _ _ _
   | exact ih1 _ _
   | exact ih2 _ _
   | exact ih3 _ _
   | exact ih4 _ _ _
   | exact drayagelaw03_works.mono _
   | exact label_Holds.mono _ _ _
   | exact LeO.none _
   | refine LeO.ite ?_ ?_
   | refine LeO.bind ?_ (fun _ => ?_)
  ·intro y0 y1
   unfold drayagelaw03_LabelOpposite.j2
   repeat' first
   | (with_reducible exact ih0 _ _ _ _ _ _ _ _)
   | (with_reducible exact ih1 _ _)
   | (with_reducible exact ih2 _ _)
   | (with_reducible exact ih3 _ _)
   | (with_reducible exact ih4 _ _ _)
   | (with_reducible exact drayagelaw03_works.mono _)
   | (with_reducible exact label_Holds.mono _ _ _)
   | (with_reducible exact LeO.refl _)
   | (with_reducible exact LeO.none _)
   | (with_reducible refine LeO.ite ?_ ?_)
   | (with_reducible refine LeO.bind ?_ (fun _ => ?_))
   | exact ih0 _ _ _ _ _ _ _ _
   | exact ih1 _ _
   | exact ih2 _ _
   | exact ih3 _ _
   | exact ih4 _ _ _
   | exact drayagelaw03_works.mono _
   | exact label_Holds.mono _ _ _
   | exact LeO.none _
   | refine LeO.ite ?_ ?_
   | refine LeO.bind ?_ (fun _ => ?_)
  ·intro y0 y1
   unfold drayagelaw03_LabelOpposite.l0
   repeat' first
   | (with_reducible exact ih0 _ _ _ _ _ _ _ _)
   | (with_reducible exact ih1 _ _)
   | (with_reducible exact ih2 _ _)
   | (with_reducible exact ih3 _ _)
   | (with_reducible exact ih4 _ _ _)
   | (with_reducible exact drayagelaw03_works.mono _)
   | (with_reducible exact label_Holds.mono _ _ _)
   | (with_reducible exact LeO.refl _)
   | (with_reducible exact LeO.none _)
   | (with_reducible refine LeO.ite ?_ ?_)
   | (with_reducible refine LeO.bind ?_ (fun _ => ?_))
   | exact ih0 _ _ _ _ _ _ _ _
   | exact ih1 _ _
   | exact ih2 _ _
   | exact ih3 _ _
   | exact ih4 _ _ _
   | exact drayagelaw03_works.mono _
   | exact label_Holds.mono _ _ _
   | exact LeO.none _
   | refine LeO.ite ?_ ?_
   | refine LeO.bind ?_ (fun _ => ?_)
  ·intro y0 y1 y2
   unfold drayagelaw03_LabelOpposite.j4
   repeat' first
   | (with_reducible exact ih0 _ _ _ _ _ _ _ _)
   | (with_reducible exact ih1 _ _)
   | (with_reducible exact ih2 _ _)
   | (with_reducible exact ih3 _ _)
   | (with_reducible exact ih4 _ _ _)
   | (with_reducible exact drayagelaw03_works.mono _)
   | (with_reducible exact label_Holds.mono _ _ _)
   | (with_reducible exact LeO.refl _)
   | (with_reducible exact LeO.none _)
   | (with_reducible refine LeO.ite ?_ ?_)
   | (with_reducible refine LeO.bind ?_ (fun _ => ?_))
   | exact ih0 _ _ _ _ _ _ _ _
   | exact ih1 _ _
   | exact ih2 _ _
   | exact ih3 _ _
   | exact ih4 _ _ _
   | exact drayagelaw03_works.mono _
   | exact label_Holds.mono _ _ _
   | exact LeO.none _
   | refine LeO.ite ?_ ?_
   | refine LeO.bind ?_ (fun _ => ?_)
theorem drayagelaw03_LabelOpposite.mono : ∀ a0 a1 a2 a3 a4 a5 a6 k, LeO (drayagelaw03_LabelOpposite.f k a0 a1 a2 a3 a4 a5 a6) (drayagelaw03_LabelOpposite.f (k + 1) a0 a1 a2 a3 a4 a5 a6) := by
 intro a0 a1 a2 a3 a4 a5 a6 k
 obtain ⟨ih0, ih1, ih2, ih3, ih4⟩ := drayagelaw03_LabelOpposite.mono_l k
 unfold drayagelaw03_LabelOpposite.f
 repeat' first
   | (with_reducible exact ih0 _ _ _ _ _ _ _ _)
   | (with_reducible exact ih1 _ _)
   | (with_reducible exact ih2 _ _)
   | (with_reducible exact ih3 _ _)
   | (with_reducible exact ih4 _ _ _)
   | (with_reducible exact drayagelaw03_works.mono _)
   | (with_reducible exact label_Holds.mono _ _ _)
   | (with_reducible exact LeO.refl _)
   | (with_reducible exact LeO.none _)
   | (with_reducible refine LeO.ite ?_ ?_)
   | (with_reducible refine LeO.bind ?_ (fun _ => ?_))
   | exact ih0 _ _ _ _ _ _ _ _
   | exact ih1 _ _
   | exact ih2 _ _
   | exact ih3 _ _
   | exact ih4 _ _ _
   | exact drayagelaw03_works.mono _
   | exact label_Holds.mono _ _ _
   | exact LeO.none _
   | refine LeO.ite ?_ ?_
   | refine LeO.bind ?_ (fun _ => ?_)
def drayagelaw03_LabelOpposite.T5 : Bool × List (List Nat × List Nat) := (true, [([], []), ([0], [0]), ([], []), ([1, 2], [1, 2]), ([], []), ([4], [4]), ([], []), ([5, 6, 3], [5, 6]), ([3, 7], [3, 7]), ([8, 7], [8]), ([9], [9]), ([9], [9]), ([10, 11, 9], [9, 10, 11]), ([9], [9]), ([12, 13, 9, 9], [9, 12, 13]), ([9, 14], [9, 14]), ([15, 14], [15]), ([16], [16]), ([17, 16, 16], [16, 17]), ([18, 16], [16, 18]), ([16, 19], [16, 19])])
def drayagelaw03_LabelOpposite.B5 : List Nat := [0, 1, 0, 7, 0, 16, 0, 127, 255, 511, 1023, 1023, 4095, 1023, 16383, 32767, 65535, 131071, 262143, 524287, 1048575]
theorem drayagelaw03_LabelOpposite.tab5 : rtab .any (opsOf Try.f4 5) = drayagelaw03_LabelOpposite.T5 := by kernel_rfl
theorem drayagelaw03_LabelOpposite.bits5 : waitsOk drayagelaw03_LabelOpposite.T5.2 drayagelaw03_LabelOpposite.B5 = true := by kernel_rfl
def drayagelaw03_LabelOpposite.T8 : Bool × List (List Nat × List Nat) := (true, [([], []), ([], []), ([0, 1], [0, 1]), ([], []), ([3], [3]), ([], []), ([4, 5, 2], [4, 5]), ([6, 6], [6]), ([7], [7]), ([8, 7], [7, 8]), ([7], [7]), ([9, 10, 7, 7], [7, 9, 10]), ([7, 11], [7, 11]), ([2, 12], [2, 12])])
def drayagelaw03_LabelOpposite.B8 : List Nat := [0, 0, 3, 0, 8, 0, 63, 127, 255, 511, 255, 2047, 4095, 8191]
theorem drayagelaw03_LabelOpposite.tab8 : rtab .any (opsOf Try.f4 8) = drayagelaw03_LabelOpposite.T8 := by kernel_rfl
theorem drayagelaw03_LabelOpposite.bits8 : waitsOk drayagelaw03_LabelOpposite.T8.2 drayagelaw03_LabelOpposite.B8 = true := by kernel_rfl
def drayagelaw03_LabelOpposite.T15 : Bool × List (List Nat × List Nat) := (true, [([], []), ([], []), ([], []), ([1, 2], [1, 2]), ([0, 3], [0, 3]), ([], []), ([], []), ([6], [6]), ([5, 7], [5, 7]), ([4, 8, 4], [4, 8]), ([9, 9, 0, 1, 2, 3, 4, 5, 6, 7, 8, 9], [9])])
def drayagelaw03_LabelOpposite.B15 : List Nat := [0, 0, 0, 6, 15, 0, 0, 64, 224, 511, 1023]
theorem drayagelaw03_LabelOpposite.tab15 : rtab .any (opsOf Try.f4 15) = drayagelaw03_LabelOpposite.T15 := by kernel_rfl
theorem drayagelaw03_LabelOpposite.bits15 : waitsOk drayagelaw03_LabelOpposite.T15.2 drayagelaw03_LabelOpposite.B15 = true := by kernel_rfl
end Go.Proofs.Ytfnfjkddlnnolaa.P
