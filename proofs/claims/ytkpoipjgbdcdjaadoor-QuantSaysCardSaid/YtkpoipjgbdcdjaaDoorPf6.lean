-- PRINTED by print.py (a twelfth state) out of the translation. Not trusted: Lean checks it.
import Derived.Test.YtkpoipjgbdcdjaaDoorP0
import Derived.Test.YtkpoipjgbdcdjaaDoorHlib
import Derived.Test.YtkpoipjgbdcdjaaDoorHparse
import Derived.Test.YtkpoipjgbdcdjaaDoorPf15
import Derived.Test.YtkpoipjgbdcdjaaDoorPf20
namespace Go.Proofs.YtkpoipjgbdcdjaaDoor.P
open Go.RowKit Go.Proofs.YtkpoipjgbdcdjaaDoorW.PrintWords Go.Proofs.YtkpoipjgbdcdjaaDoorW.PrintLast Go.Proofs.YtkpoipjgbdcdjaaDoorW.PrintMore
attribute [local go_sem] max2_int min2_int max_two min_two max_three min_three max_four min_four   -- for this text's walks alone
set_option linter.unusedVariables false
set_option linter.unusedSimpArgs false

/-! ### drayagelaw01_QuantSays: function 6 -/
mutual
def drayagelaw01_QuantSays.l0 : Nat → ByteArray → Int → Int → Option (Bool)
  | 0, _, _, _ => none
  | k + 1, x10, x11, x12 => if x12 < 2 then (if x12 = 1 then (drayagelaw01_QuantSays.j1 k x10 x11 x12 (x12 == 1) 1000) else (drayagelaw01_QuantSays.j1 k x10 x11 x12 (x12 == 1) 1000000)) else ((drayagelaw01_works.f k).bind fun t202 => (some t202))
def drayagelaw01_QuantSays.j1 : Nat → ByteArray → Int → Int → Bool → Int → Option (Bool)
  | 0, _, _, _, _, _ => none
  | k + 1, x10, x11, x12, x13, x14 => (quant_Parse.f x10 x13).bind fun bt203 => (if x11 > (wrap64 (1099511627776 * x14)) then (if bt203.2.2 = 10 then (if bt203.2.1 = 0 then (drayagelaw01_QuantSays.l0 k x10 x11 (wrap64 (x12 + 1))) else (some false)) else (some false)) else (if x14 = 0 then (none) else (if (Int.tmod x11 x14) = 0 then (if bt203.2.2 = 0 then (if bt203.1 = (wrap64 (Int.tdiv x11 x14)) then (drayagelaw01_QuantSays.l0 k x10 x11 (wrap64 (x12 + 1))) else (some false)) else (some false)) else (if bt203.2.2 = 4 then (if bt203.2.1 = 0 then (drayagelaw01_QuantSays.l0 k x10 x11 (wrap64 (x12 + 1))) else (some false)) else (some false)))))
end
def drayagelaw01_QuantSays.f (k : Nat) (a0 : Int) (a1 : Int) (a2 : Int) : Option (Bool) := (drayageref00_Bring.f a0 2097152).bind fun t187 => ((drayageref00_Bring.f a1 1000).bind fun t188 => ((some (([(⟨#[109]⟩ : ByteArray), (⟨#[]⟩ : ByteArray), (⟨#[107]⟩ : ByteArray), (⟨#[77]⟩ : ByteArray), (⟨#[75, 105]⟩ : ByteArray), (⟨#[77, 105]⟩ : ByteArray)] : List ByteArray) : List ByteArray)).bind fun y189 => ((some (([1, 1000, 1000000, 1000000000, 1024000, 1048576000] : List Int) : List Int)).bind fun y192 => ((drayageref00_Bring.f a2 6).bind fun t195 => ((strconv_Itoa_22.f t187).bind fun t196 => (if t196.size + 1 ≤ 9223372036854775807 then ((some (([(wrap64 (48 + (wrap64 (Int.tdiv t188 100)))) % 256, (wrap64 (48 + (Int.tmod (wrap64 (Int.tdiv t188 10)) 10))) % 256, (wrap64 (48 + (Int.tmod t188 10))) % 256] : List Int) : List Int)).bind fun y197 => (if (t196 ++ (⟨#[46]⟩ : ByteArray)).size + (strOfNums y197).size ≤ 9223372036854775807 then (if 0 ≤ t195 then (if t195 < (y189.length : Int) then (if ((t196 ++ (⟨#[46]⟩ : ByteArray)) ++ (strOfNums y197)).size + (rdOf ByteArray.empty y189 t195).size ≤ 9223372036854775807 then (if t195 < (y192.length : Int) then (drayagelaw01_QuantSays.l0 k (((t196 ++ (⟨#[46]⟩ : ByteArray)) ++ (strOfNums y197)) ++ (rdOf ByteArray.empty y189 t195)) (wrap64 ((wrap64 ((wrap64 (1000 * t187)) + t188)) * (rd y192 t195))) 0) else (none)) else (none)) else (none)) else (none)) else (none))) else (none)))))))
theorem drayagelaw01_QuantSays.mono_l : ∀ k, (∀ y0 y1 y2, LeO (drayagelaw01_QuantSays.l0 k y0 y1 y2) (drayagelaw01_QuantSays.l0 (k + 1) y0 y1 y2)) ∧ (∀ y0 y1 y2 y3 y4, LeO (drayagelaw01_QuantSays.j1 k y0 y1 y2 y3 y4) (drayagelaw01_QuantSays.j1 (k + 1) y0 y1 y2 y3 y4))
  | 0 => ⟨fun _ _ _ r h => by simp [drayagelaw01_QuantSays.l0] at h, fun _ _ _ _ _ r h => by simp [drayagelaw01_QuantSays.j1] at h⟩
  | k + 1 => by
    obtain ⟨ih0, ih1⟩ := drayagelaw01_QuantSays.mono_l k
    refine ⟨?_, ?_⟩
    · intro y0 y1 y2
      unfold drayagelaw01_QuantSays.l0
      repeat' first
      | (with_reducible exact ih0 _ _ _)
      | (with_reducible exact ih1 _ _ _ _ _)
      | (with_reducible exact drayagelaw01_works.mono _)
      | (with_reducible exact LeO.refl _)
      | (with_reducible exact LeO.none _)
      | (with_reducible refine LeO.ite ?_ ?_)
      | (with_reducible refine LeO.bind ?_ (fun _ => ?_))
      | exact ih0 _ _ _
      | exact ih1 _ _ _ _ _
      | exact drayagelaw01_works.mono _
      | exact LeO.none _
      | refine LeO.ite ?_ ?_
      | refine LeO.bind ?_ (fun _ => ?_)
    · intro y0 y1 y2 y3 y4
      unfold drayagelaw01_QuantSays.j1
      repeat' first
      | (with_reducible exact ih0 _ _ _)
      | (with_reducible exact ih1 _ _ _ _ _)
      | (with_reducible exact drayagelaw01_works.mono _)
      | (with_reducible exact LeO.refl _)
      | (with_reducible exact LeO.none _)
      | (with_reducible refine LeO.ite ?_ ?_)
      | (with_reducible refine LeO.bind ?_ (fun _ => ?_))
      | exact ih0 _ _ _
      | exact ih1 _ _ _ _ _
      | exact drayagelaw01_works.mono _
      | exact LeO.none _
      | refine LeO.ite ?_ ?_
      | refine LeO.bind ?_ (fun _ => ?_)
theorem drayagelaw01_QuantSays.mono : ∀ a0 a1 a2 k, LeO (drayagelaw01_QuantSays.f k a0 a1 a2) (drayagelaw01_QuantSays.f (k + 1) a0 a1 a2) := by
  intro a0 a1 a2 k
  obtain ⟨ih0, ih1⟩ := drayagelaw01_QuantSays.mono_l k
  unfold drayagelaw01_QuantSays.f
  repeat' first
      | (with_reducible exact ih0 _ _ _)
      | (with_reducible exact ih1 _ _ _ _ _)
      | (with_reducible exact drayagelaw01_works.mono _)
      | (with_reducible exact LeO.refl _)
      | (with_reducible exact LeO.none _)
      | (with_reducible refine LeO.ite ?_ ?_)
      | (with_reducible refine LeO.bind ?_ (fun _ => ?_))
      | exact ih0 _ _ _
      | exact ih1 _ _ _ _ _
      | exact drayagelaw01_works.mono _
      | exact LeO.none _
      | refine LeO.ite ?_ ?_
      | refine LeO.bind ?_ (fun _ => ?_)
set_option maxHeartbeats 8000000 in
set_option maxRecDepth 100000 in
theorem drayagelaw01_QuantSays.calls (k : Nat) (a0 : Int) (a1 : Int) (a2 : Int) (r : Bool) (w : World) (h : drayagelaw01_QuantSays.f k a0 a1 a2 = some r) (hT0 : Tb w) :
    Calls Tryd.prog 6 #[.int .i64 a0, .int .i64 a1, .int .i64 a2] w fun e w' => e = .returned (.bool r) ∧ Below w.heap.size w w' := by
  have hT_ := Aside0.mk hT0
  clear hT0
  have HB := Aside0.mk (Below.refl w.heap.size w)
  have H : ((drayageref00_Bring.f a0 2097152).bind fun t187 => ((drayageref00_Bring.f a1 1000).bind fun t188 => ((some (([(⟨#[109]⟩ : ByteArray), (⟨#[]⟩ : ByteArray), (⟨#[107]⟩ : ByteArray), (⟨#[77]⟩ : ByteArray), (⟨#[75, 105]⟩ : ByteArray), (⟨#[77, 105]⟩ : ByteArray)] : List ByteArray) : List ByteArray)).bind fun y189 => ((some (([1, 1000, 1000000, 1000000000, 1024000, 1048576000] : List Int) : List Int)).bind fun y192 => ((drayageref00_Bring.f a2 6).bind fun t195 => ((strconv_Itoa_22.f t187).bind fun t196 => (if t196.size + 1 ≤ 9223372036854775807 then ((some (([(wrap64 (48 + (wrap64 (Int.tdiv t188 100)))) % 256, (wrap64 (48 + (Int.tmod (wrap64 (Int.tdiv t188 10)) 10))) % 256, (wrap64 (48 + (Int.tmod t188 10))) % 256] : List Int) : List Int)).bind fun y197 => (if (t196 ++ (⟨#[46]⟩ : ByteArray)).size + (strOfNums y197).size ≤ 9223372036854775807 then (if 0 ≤ t195 then (if t195 < (y189.length : Int) then (if ((t196 ++ (⟨#[46]⟩ : ByteArray)) ++ (strOfNums y197)).size + (rdOf ByteArray.empty y189 t195).size ≤ 9223372036854775807 then (if t195 < (y192.length : Int) then (drayagelaw01_QuantSays.l0 k (((t196 ++ (⟨#[46]⟩ : ByteArray)) ++ (strOfNums y197)) ++ (rdOf ByteArray.empty y189 t195)) (wrap64 ((wrap64 ((wrap64 (1000 * t187)) + t188)) * (rd y192 t195))) 0) else (none)) else (none)) else (none)) else (none)) else (none))) else (none)))))))) = some r := h
  clear h
  replace H := Option.bind_eq_some_iff.mp H
  obtain ⟨t187, A40, H⟩ := H
  replace H : ((drayageref00_Bring.f a1 1000).bind fun t188 => ((some (([(⟨#[109]⟩ : ByteArray), (⟨#[]⟩ : ByteArray), (⟨#[107]⟩ : ByteArray), (⟨#[77]⟩ : ByteArray), (⟨#[75, 105]⟩ : ByteArray), (⟨#[77, 105]⟩ : ByteArray)] : List ByteArray) : List ByteArray)).bind fun y189 => ((some (([1, 1000, 1000000, 1000000000, 1024000, 1048576000] : List Int) : List Int)).bind fun y192 => ((drayageref00_Bring.f a2 6).bind fun t195 => ((strconv_Itoa_22.f t187).bind fun t196 => (if t196.size + 1 ≤ 9223372036854775807 then ((some (([(wrap64 (48 + (wrap64 (Int.tdiv t188 100)))) % 256, (wrap64 (48 + (Int.tmod (wrap64 (Int.tdiv t188 10)) 10))) % 256, (wrap64 (48 + (Int.tmod t188 10))) % 256] : List Int) : List Int)).bind fun y197 => (if (t196 ++ (⟨#[46]⟩ : ByteArray)).size + (strOfNums y197).size ≤ 9223372036854775807 then (if 0 ≤ t195 then (if t195 < (y189.length : Int) then (if ((t196 ++ (⟨#[46]⟩ : ByteArray)) ++ (strOfNums y197)).size + (rdOf ByteArray.empty y189 t195).size ≤ 9223372036854775807 then (if t195 < (y192.length : Int) then (drayagelaw01_QuantSays.l0 k (((t196 ++ (⟨#[46]⟩ : ByteArray)) ++ (strOfNums y197)) ++ (rdOf ByteArray.empty y189 t195)) (wrap64 ((wrap64 ((wrap64 (1000 * t187)) + t188)) * (rd y192 t195))) 0) else (none)) else (none)) else (none)) else (none)) else (none))) else (none))))))) = some r := H
  have A4 := Aside0.mk A40
  clear A40
  replace H := Option.bind_eq_some_iff.mp H
  obtain ⟨t188, A50, H⟩ := H
  replace H : ((some (([(⟨#[109]⟩ : ByteArray), (⟨#[]⟩ : ByteArray), (⟨#[107]⟩ : ByteArray), (⟨#[77]⟩ : ByteArray), (⟨#[75, 105]⟩ : ByteArray), (⟨#[77, 105]⟩ : ByteArray)] : List ByteArray) : List ByteArray)).bind fun y189 => ((some (([1, 1000, 1000000, 1000000000, 1024000, 1048576000] : List Int) : List Int)).bind fun y192 => ((drayageref00_Bring.f a2 6).bind fun t195 => ((strconv_Itoa_22.f t187).bind fun t196 => (if t196.size + 1 ≤ 9223372036854775807 then ((some (([(wrap64 (48 + (wrap64 (Int.tdiv t188 100)))) % 256, (wrap64 (48 + (Int.tmod (wrap64 (Int.tdiv t188 10)) 10))) % 256, (wrap64 (48 + (Int.tmod t188 10))) % 256] : List Int) : List Int)).bind fun y197 => (if (t196 ++ (⟨#[46]⟩ : ByteArray)).size + (strOfNums y197).size ≤ 9223372036854775807 then (if 0 ≤ t195 then (if t195 < (y189.length : Int) then (if ((t196 ++ (⟨#[46]⟩ : ByteArray)) ++ (strOfNums y197)).size + (rdOf ByteArray.empty y189 t195).size ≤ 9223372036854775807 then (if t195 < (y192.length : Int) then (drayagelaw01_QuantSays.l0 k (((t196 ++ (⟨#[46]⟩ : ByteArray)) ++ (strOfNums y197)) ++ (rdOf ByteArray.empty y189 t195)) (wrap64 ((wrap64 ((wrap64 (1000 * t187)) + t188)) * (rd y192 t195))) 0) else (none)) else (none)) else (none)) else (none)) else (none))) else (none)))))) = some r := H
  have A5 := Aside0.mk A50
  clear A50
  obtain ⟨y189, hy189⟩ : ∃ y_ : List ByteArray, y_ = (([(⟨#[109]⟩ : ByteArray), (⟨#[]⟩ : ByteArray), (⟨#[107]⟩ : ByteArray), (⟨#[77]⟩ : ByteArray), (⟨#[75, 105]⟩ : ByteArray), (⟨#[77, 105]⟩ : ByteArray)] : List ByteArray)) := ⟨_, rfl⟩
  replace H : ((some (([1, 1000, 1000000, 1000000000, 1024000, 1048576000] : List Int) : List Int)).bind fun y192 => ((drayageref00_Bring.f a2 6).bind fun t195 => ((strconv_Itoa_22.f t187).bind fun t196 => (if t196.size + 1 ≤ 9223372036854775807 then ((some (([(wrap64 (48 + (wrap64 (Int.tdiv t188 100)))) % 256, (wrap64 (48 + (Int.tmod (wrap64 (Int.tdiv t188 10)) 10))) % 256, (wrap64 (48 + (Int.tmod t188 10))) % 256] : List Int) : List Int)).bind fun y197 => (if (t196 ++ (⟨#[46]⟩ : ByteArray)).size + (strOfNums y197).size ≤ 9223372036854775807 then (if 0 ≤ t195 then (if t195 < (y189.length : Int) then (if ((t196 ++ (⟨#[46]⟩ : ByteArray)) ++ (strOfNums y197)).size + (rdOf ByteArray.empty y189 t195).size ≤ 9223372036854775807 then (if t195 < (y192.length : Int) then (drayagelaw01_QuantSays.l0 k (((t196 ++ (⟨#[46]⟩ : ByteArray)) ++ (strOfNums y197)) ++ (rdOf ByteArray.empty y189 t195)) (wrap64 ((wrap64 ((wrap64 (1000 * t187)) + t188)) * (rd y192 t195))) 0) else (none)) else (none)) else (none)) else (none)) else (none))) else (none))))) = some r := by first | (rw [hy189]; with_reducible exact H) | (have H2_ := (Option.bind_some _ _).symm.trans H; rw [hy189]; with_reducible exact H2_) | (have H2_ := (Option.bind_some _ _).symm.trans H; with_reducible exact H2_) | with_reducible exact H | (rw [hy189]; exact H) | exact H
  have Ny189 := Aside0.mk hy189
  clear hy189
  obtain ⟨y192, hy192⟩ : ∃ y_ : List Int, y_ = (([1, 1000, 1000000, 1000000000, 1024000, 1048576000] : List Int)) := ⟨_, rfl⟩
  replace H : ((drayageref00_Bring.f a2 6).bind fun t195 => ((strconv_Itoa_22.f t187).bind fun t196 => (if t196.size + 1 ≤ 9223372036854775807 then ((some (([(wrap64 (48 + (wrap64 (Int.tdiv t188 100)))) % 256, (wrap64 (48 + (Int.tmod (wrap64 (Int.tdiv t188 10)) 10))) % 256, (wrap64 (48 + (Int.tmod t188 10))) % 256] : List Int) : List Int)).bind fun y197 => (if (t196 ++ (⟨#[46]⟩ : ByteArray)).size + (strOfNums y197).size ≤ 9223372036854775807 then (if 0 ≤ t195 then (if t195 < (y189.length : Int) then (if ((t196 ++ (⟨#[46]⟩ : ByteArray)) ++ (strOfNums y197)).size + (rdOf ByteArray.empty y189 t195).size ≤ 9223372036854775807 then (if t195 < (y192.length : Int) then (drayagelaw01_QuantSays.l0 k (((t196 ++ (⟨#[46]⟩ : ByteArray)) ++ (strOfNums y197)) ++ (rdOf ByteArray.empty y189 t195)) (wrap64 ((wrap64 ((wrap64 (1000 * t187)) + t188)) * (rd y192 t195))) 0) else (none)) else (none)) else (none)) else (none)) else (none))) else (none)))) = some r := by first | (rw [hy192]; with_reducible exact H) | (have H2_ := (Option.bind_some _ _).symm.trans H; rw [hy192]; with_reducible exact H2_) | (have H2_ := (Option.bind_some _ _).symm.trans H; with_reducible exact H2_) | with_reducible exact H | (rw [hy192]; exact H) | exact H
  have Ny192 := Aside0.mk hy192
  clear hy192
  replace H := Option.bind_eq_some_iff.mp H
  obtain ⟨t195, A60, H⟩ := H
  replace H : ((strconv_Itoa_22.f t187).bind fun t196 => (if t196.size + 1 ≤ 9223372036854775807 then ((some (([(wrap64 (48 + (wrap64 (Int.tdiv t188 100)))) % 256, (wrap64 (48 + (Int.tmod (wrap64 (Int.tdiv t188 10)) 10))) % 256, (wrap64 (48 + (Int.tmod t188 10))) % 256] : List Int) : List Int)).bind fun y197 => (if (t196 ++ (⟨#[46]⟩ : ByteArray)).size + (strOfNums y197).size ≤ 9223372036854775807 then (if 0 ≤ t195 then (if t195 < (y189.length : Int) then (if ((t196 ++ (⟨#[46]⟩ : ByteArray)) ++ (strOfNums y197)).size + (rdOf ByteArray.empty y189 t195).size ≤ 9223372036854775807 then (if t195 < (y192.length : Int) then (drayagelaw01_QuantSays.l0 k (((t196 ++ (⟨#[46]⟩ : ByteArray)) ++ (strOfNums y197)) ++ (rdOf ByteArray.empty y189 t195)) (wrap64 ((wrap64 ((wrap64 (1000 * t187)) + t188)) * (rd y192 t195))) 0) else (none)) else (none)) else (none)) else (none)) else (none))) else (none))) = some r := H
  have A6 := Aside0.mk A60
  clear A60
  replace H := Option.bind_eq_some_iff.mp H
  obtain ⟨t196, A70, H⟩ := H
  replace H : (if t196.size + 1 ≤ 9223372036854775807 then ((some (([(wrap64 (48 + (wrap64 (Int.tdiv t188 100)))) % 256, (wrap64 (48 + (Int.tmod (wrap64 (Int.tdiv t188 10)) 10))) % 256, (wrap64 (48 + (Int.tmod t188 10))) % 256] : List Int) : List Int)).bind fun y197 => (if (t196 ++ (⟨#[46]⟩ : ByteArray)).size + (strOfNums y197).size ≤ 9223372036854775807 then (if 0 ≤ t195 then (if t195 < (y189.length : Int) then (if ((t196 ++ (⟨#[46]⟩ : ByteArray)) ++ (strOfNums y197)).size + (rdOf ByteArray.empty y189 t195).size ≤ 9223372036854775807 then (if t195 < (y192.length : Int) then (drayagelaw01_QuantSays.l0 k (((t196 ++ (⟨#[46]⟩ : ByteArray)) ++ (strOfNums y197)) ++ (rdOf ByteArray.empty y189 t195)) (wrap64 ((wrap64 ((wrap64 (1000 * t187)) + t188)) * (rd y192 t195))) 0) else (none)) else (none)) else (none)) else (none)) else (none))) else (none)) = some r := H
  have A7 := Aside0.mk A70
  clear A70
  by_cases c8 : t196.size + 1 ≤ 9223372036854775807
  · rw [if_pos c8] at H
    have c8b0 := eq_true c8
    have c8b1 : decide (t196.size + 1 ≤ 9223372036854775807) = true := decide_eq_true c8
    try have c8b2 : (9223372036854775807 < t196.size + 1) = False := eq_false (Nat.not_lt.2 c8)
    obtain ⟨y197, hy197⟩ : ∃ y_ : List Int, y_ = (([(wrap64 (48 + (wrap64 (Int.tdiv t188 100)))) % 256, (wrap64 (48 + (Int.tmod (wrap64 (Int.tdiv t188 10)) 10))) % 256, (wrap64 (48 + (Int.tmod t188 10))) % 256] : List Int)) := ⟨_, rfl⟩
    replace H : (if (t196 ++ (⟨#[46]⟩ : ByteArray)).size + (strOfNums y197).size ≤ 9223372036854775807 then (if 0 ≤ t195 then (if t195 < (y189.length : Int) then (if ((t196 ++ (⟨#[46]⟩ : ByteArray)) ++ (strOfNums y197)).size + (rdOf ByteArray.empty y189 t195).size ≤ 9223372036854775807 then (if t195 < (y192.length : Int) then (drayagelaw01_QuantSays.l0 k (((t196 ++ (⟨#[46]⟩ : ByteArray)) ++ (strOfNums y197)) ++ (rdOf ByteArray.empty y189 t195)) (wrap64 ((wrap64 ((wrap64 (1000 * t187)) + t188)) * (rd y192 t195))) 0) else (none)) else (none)) else (none)) else (none)) else (none)) = some r := by first | (rw [hy197]; with_reducible exact H) | (have H2_ := (Option.bind_some _ _).symm.trans H; rw [hy197]; with_reducible exact H2_) | (have H2_ := (Option.bind_some _ _).symm.trans H; with_reducible exact H2_) | with_reducible exact H | (rw [hy197]; exact H) | exact H
    have Ny197 := Aside0.mk hy197
    clear hy197
    by_cases c9 : (t196 ++ (⟨#[46]⟩ : ByteArray)).size + (strOfNums y197).size ≤ 9223372036854775807
    · rw [if_pos c9] at H
      have c9b0 := eq_true c9
      have c9b1 : decide ((t196 ++ (⟨#[46]⟩ : ByteArray)).size + (strOfNums y197).size ≤ 9223372036854775807) = true := decide_eq_true c9
      try have c9b2 : (9223372036854775807 < (t196 ++ (⟨#[46]⟩ : ByteArray)).size + (strOfNums y197).size) = False := eq_false (Nat.not_lt.2 c9)
      by_cases c10 : 0 ≤ t195
      · rw [if_pos c10] at H
        have c10b0 : decide (0 ≤ t195) = true := decide_eq_true c10
        clear c10
        by_cases c11 : t195 < (y189.length : Int)
        · rw [if_pos c11] at H
          have c11b0 : decide (t195 < (y189.length : Int)) = true := decide_eq_true c11
          clear c11
          by_cases c12 : ((t196 ++ (⟨#[46]⟩ : ByteArray)) ++ (strOfNums y197)).size + (rdOf ByteArray.empty y189 t195).size ≤ 9223372036854775807
          · rw [if_pos c12] at H
            have c12b0 := eq_true c12
            have c12b1 : decide (((t196 ++ (⟨#[46]⟩ : ByteArray)) ++ (strOfNums y197)).size + (rdOf ByteArray.empty y189 t195).size ≤ 9223372036854775807) = true := decide_eq_true c12
            try have c12b2 : (9223372036854775807 < ((t196 ++ (⟨#[46]⟩ : ByteArray)) ++ (strOfNums y197)).size + (rdOf ByteArray.empty y189 t195).size) = False := eq_false (Nat.not_lt.2 c12)
            by_cases c13 : t195 < (y192.length : Int)
            · rw [if_pos c13] at H
              have c13b0 : decide (t195 < (y192.length : Int)) = true := decide_eq_true c13
              clear c13
              have H' := Aside0.mk H
              clear H
              go_enter Tryd.func6, Tryd.ntmps6
              go_upto_region 5 with (first | ((with_reducible refine gate_callee (f := 20) rfl ?_); refine goesL_ (some 19) rfl rfl Tryd.func20 (by kernel_rfl) rfl #[.int .i64 a0, .int .i64 2097152] rfl (by (try simp only [List.map_toArray, List.map_cons, List.map_nil]); first | done | rfl | (simp only [List.length_drop, List.length_take]; rfl)) ?_; (with_reducible refine (drayageref00_Bring.calls a0 2097152 t187 _ A4.out).mono ?_); rintro e w' ⟨rfl, ⟨nd, rfl⟩⟩; refine ⟨_, rfl, ?_⟩) | ((with_reducible refine gate_callee (f := 20) rfl ?_); refine goesL_ (some 21) rfl rfl Tryd.func20 (by kernel_rfl) rfl #[.int .i64 a1, .int .i64 1000] rfl (by (try simp only [List.map_toArray, List.map_cons, List.map_nil]); first | done | rfl | (simp only [List.length_drop, List.length_take]; rfl)) ?_; (with_reducible refine (drayageref00_Bring.calls a1 1000 t188 _ A5.out).mono ?_); rintro e w' ⟨rfl, ⟨nd, rfl⟩⟩; refine ⟨_, rfl, ?_⟩) | ((with_reducible refine gate_dst (N := 22) rfl ?_); refine Kd.R_lit Kd.string _ 9 ?hg (N := 22) ?hd (xs := ([(⟨#[109]⟩ : ByteArray), (⟨#[]⟩ : ByteArray), (⟨#[107]⟩ : ByteArray), (⟨#[77]⟩ : ByteArray), (⟨#[75, 105]⟩ : ByteArray), (⟨#[77, 105]⟩ : ByteArray)] : List ByteArray)) (inner := [.string (⟨#[109]⟩ : ByteArray), .string (⟨#[]⟩ : ByteArray), .string (⟨#[107]⟩ : ByteArray), .string (⟨#[77]⟩ : ByteArray), .string (⟨#[75, 105]⟩ : ByteArray), .string (⟨#[77, 105]⟩ : ByteArray)]) (ok := fun _ => True) (okp := fun _ => True) ?hr ?hp (fun _ hk => hk) trivial (Below.refl _ _) (Nat.le_refl _) (by simp) ?_; (case hd => rfl); (case hg => rfl); (case hr => first | (go_simp; done) | (go_simp; rfl)); (case hp => exact (Reps.one (show Kd.M Kd.string _ _ _ (⟨#[109]⟩ : ByteArray) [.string (⟨#[109]⟩ : ByteArray)] from rfl) (Reps.one (show Kd.M Kd.string _ _ _ (⟨#[]⟩ : ByteArray) [.string (⟨#[]⟩ : ByteArray)] from rfl) (Reps.one (show Kd.M Kd.string _ _ _ (⟨#[107]⟩ : ByteArray) [.string (⟨#[107]⟩ : ByteArray)] from rfl) (Reps.one (show Kd.M Kd.string _ _ _ (⟨#[77]⟩ : ByteArray) [.string (⟨#[77]⟩ : ByteArray)] from rfl) (Reps.one (show Kd.M Kd.string _ _ _ (⟨#[75, 105]⟩ : ByteArray) [.string (⟨#[75, 105]⟩ : ByteArray)] from rfl) (Reps.one (show Kd.M Kd.string _ _ _ (⟨#[77, 105]⟩ : ByteArray) [.string (⟨#[77, 105]⟩ : ByteArray)] from rfl) (Reps.none _ _)))))))); intro v190 w14 ho15 hb hg_ hnew_; clear hg_ hnew_; (first | rw [← Ny189.out] at ho15 | (simp only [Int.reduceToNat] at ho15; rw [← Ny189.out] at ho15)); have n0_ := Aside0.mk (Kd.R_lower ho15 (below_size (by repeat (first | (with_reducible first | exact HB.out | apply below_alloc | apply pw_below_drewN | apply below_drew1) | exact HB.out)))); have n1_ := Aside0.mk (below_step (by repeat (first | (with_reducible first | exact HB.out | apply below_alloc | apply pw_below_drewN | apply below_drew1) | exact HB.out)) hb); clear HB; have HO191 := n0_; have HB := n1_; clear n0_ n1_; clear hb ho15) | ((with_reducible refine gate_dst (N := 23) rfl ?_); refine Kd.R_lit (Kd.int .i64) _ 3 ?hg (N := 23) ?hd (xs := ([1, 1000, 1000000, 1000000000, 1024000, 1048576000] : List Int)) (inner := [.int .i64 1, .int .i64 1000, .int .i64 1000000, .int .i64 1000000000, .int .i64 1024000, .int .i64 1048576000]) (ok := fun _ => True) (okp := fun _ => True) ?hr ?hp (fun _ hk => hk) trivial (Below.refl _ _) (Nat.le_refl _) (by simp) ?_; (case hd => rfl); (case hg => rfl); (case hr => first | (go_simp; done) | (go_simp; rfl)); (case hp => exact (Reps.one (show Kd.M (Kd.int .i64) _ _ _ 1 [.int .i64 1] from rfl) (Reps.one (show Kd.M (Kd.int .i64) _ _ _ 1000 [.int .i64 1000] from rfl) (Reps.one (show Kd.M (Kd.int .i64) _ _ _ 1000000 [.int .i64 1000000] from rfl) (Reps.one (show Kd.M (Kd.int .i64) _ _ _ 1000000000 [.int .i64 1000000000] from rfl) (Reps.one (show Kd.M (Kd.int .i64) _ _ _ 1024000 [.int .i64 1024000] from rfl) (Reps.one (show Kd.M (Kd.int .i64) _ _ _ 1048576000 [.int .i64 1048576000] from rfl) (Reps.none _ _)))))))); intro v193 w16 ho17 hb hg_ hnew_; clear hg_ hnew_; (first | rw [← Ny192.out] at ho17 | (simp only [Int.reduceToNat] at ho17; rw [← Ny192.out] at ho17)); have n0_ := Aside0.mk (Kd.R_below (by (with_reducible repeat (first | apply Kd.R_alloc | apply Kd.R_drewN | apply Kd.R_drew)); exact HO191.out) hb); have n1_ := Aside0.mk (Kd.R_lower ho17 (below_size (by repeat (first | (with_reducible first | exact HB.out | apply below_alloc | apply pw_below_drewN | apply below_drew1) | exact HB.out)))); have n2_ := Aside0.mk (below_step (by repeat (first | (with_reducible first | exact HB.out | apply below_alloc | apply pw_below_drewN | apply below_drew1) | exact HB.out)) hb); clear HO191; clear HB; have HO191 := n0_; have HO194 := n1_; have HB := n2_; clear n0_ n1_ n2_; clear hb ho17) | ((with_reducible refine gate_callee (f := 20) rfl ?_); refine goesL_ (some 25) rfl rfl Tryd.func20 (by kernel_rfl) rfl #[.int .i64 a2, .int .i64 6] rfl (by (try simp only [List.map_toArray, List.map_cons, List.map_nil]); first | done | rfl | (simp only [List.length_drop, List.length_take]; rfl)) ?_; (with_reducible refine (drayageref00_Bring.calls a2 6 t195 _ A6.out).mono ?_); rintro e w' ⟨rfl, ⟨nd, rfl⟩⟩; refine ⟨_, rfl, ?_⟩))
              obtain ⟨Ao22, co22, eo22⟩ := Kd.R_slice HO191.out
              subst eo22
              have p200 : 0 ≤ (t195 : Int) := of_decide_eq_true (by first | (with_reducible assumption) | assumption)
              have q200 : t195 < (y189.length : Int) := of_decide_eq_true (by first | (with_reducible assumption) | assumption)
              obtain ⟨ad200, e200, hx200_0⟩ := Kd.at_string (Kd.R_reads' HO191.out).2.2 t195 p200 q200
              cases e200
              obtain ⟨Ao23, co23, eo23⟩ := Kd.R_slice HO194.out
              subst eo23
              have q201 : t195 < (y192.length : Int) := of_decide_eq_true (by first | (with_reducible assumption) | assumption)
              obtain ⟨ad201, e201, hx201_0⟩ := Kd.at_int (Kd.R_reads' HO194.out).2.2 t195 p200 q201
              cases e201
              replace p200 := eq_true p200
              replace q200 := eq_true q200
              replace q201 := eq_true q201
              have c9b3 : (9223372036854775807 < t196.size + 1 + (strOfNums y197).size) = False := by have h := c9; rw [ByteArray.size_append] at h; exact eq_false (Nat.not_lt.2 h)
              have c12b3 : (9223372036854775807 < t196.size + 1 + (strOfNums y197).size + (rdOf ByteArray.empty y189 t195).size) = False := by have h := c12; rw [ByteArray.size_append, ByteArray.size_append] at h; exact eq_false (Nat.not_lt.2 h)
              refine start_ (n := 25) (S := fun w' => w'.cell? (ad200.add (t195 : Int).toNat) = some (.string (rdOf ByteArray.empty y189 t195)) ∧ w'.cell? (ad201.add (t195 : Int).toNat) = some (.int .i64 (rd y192 t195))) (ds := []) #[false, false, false, false, false, false, false, false, false, false, false, false, false, false, false, false, false, false, false, false, false, false, false, false, false] (by kernel_rfl) rfl rfl ⟨hx200_0, hx201_0⟩ (fun hHeld => ?_)
              refine pure_ (i := 0) (N := some 26) (v := ?_) (a' := ?_) #[true, false, false, false, false, false, false, false, false, false, false, false, false, false, false, false, false, false, false, false, false, false, false, false, false] rfl rfl (by kernel_rfl) (fun _ _ _ h => h) (Or.inl ⟨by rfl, ?_⟩) ?_ ?_
              rotate_left
              · intro w'
                go_simp
                with_reducible rfl
              rotate_left
              · simp only [Act.put, List.setIfInBounds_toArray, List.set_cons_zero, List.set_cons_succ, i64_w, i32_w]
                rfl
              refine pure_ (i := 3) (N := some 29) (v := ?_) (a' := ?_) #[true, false, false, true, false, false, false, false, false, false, false, false, false, false, false, false, false, false, false, false, false, false, false, false, false] rfl rfl (by kernel_rfl) (fun _ _ _ h => h) (Or.inl ⟨by rfl, ?_⟩) ?_ ?_
              rotate_left
              · intro w'
                go_simp
                with_reducible rfl
              rotate_left
              · simp only [Act.put, List.setIfInBounds_toArray, List.set_cons_zero, List.set_cons_succ, i64_w, i32_w]
                rfl
              refine pure_ (i := 4) (N := some 30) (v := ?_) (a' := ?_) #[true, false, false, true, true, false, false, false, false, false, false, false, false, false, false, false, false, false, false, false, false, false, false, false, false] rfl rfl (by kernel_rfl) (fun _ _ _ h => h) (Or.inl ⟨by rfl, ?_⟩) ?_ ?_
              rotate_left
              · intro w'
                go_simp
                with_reducible rfl
              rotate_left
              · simp only [Act.put, List.setIfInBounds_toArray, List.set_cons_zero, List.set_cons_succ, i64_w, i32_w]
                rfl
              refine pure_ (i := 5) (N := some 31) (v := ?_) (a' := ?_) #[true, false, false, true, true, true, false, false, false, false, false, false, false, false, false, false, false, false, false, false, false, false, false, false, false] rfl rfl (by kernel_rfl) (fun _ _ _ h => h) (Or.inl ⟨by rfl, ?_⟩) ?_ ?_
              rotate_left
              · intro w'
                go_simp
                with_reducible rfl
              rotate_left
              · simp only [Act.put, List.setIfInBounds_toArray, List.set_cons_zero, List.set_cons_succ, i64_w, i32_w]
                rfl
              refine pure_ (i := 6) (N := some 32) (v := ?_) (a' := ?_) #[true, false, false, true, true, true, true, false, false, false, false, false, false, false, false, false, false, false, false, false, false, false, false, false, false] rfl rfl (by kernel_rfl) (fun _ _ _ h => h) (Or.inl ⟨by rfl, ?_⟩) ?_ ?_
              rotate_left
              · intro w'
                go_simp
                with_reducible rfl
              rotate_left
              · simp only [Act.put, List.setIfInBounds_toArray, List.set_cons_zero, List.set_cons_succ, i64_w, i32_w]
                rfl
              refine pure_ (i := 7) (N := some 33) (v := ?_) (a' := ?_) #[true, false, false, true, true, true, true, true, false, false, false, false, false, false, false, false, false, false, false, false, false, false, false, false, false] rfl rfl (by kernel_rfl) (fun _ _ _ h => h) (Or.inl ⟨by rfl, ?_⟩) ?_ ?_
              rotate_left
              · intro w'
                go_simp
                with_reducible rfl
              rotate_left
              · simp only [Act.put, List.setIfInBounds_toArray, List.set_cons_zero, List.set_cons_succ, i64_w, i32_w]
                rfl
              refine pure_ (i := 8) (N := some 34) (v := ?_) (a' := ?_) #[true, false, false, true, true, true, true, true, true, false, false, false, false, false, false, false, false, false, false, false, false, false, false, false, false] rfl rfl (by kernel_rfl) (fun _ _ _ h => h) (Or.inl ⟨by rfl, ?_⟩) ?_ ?_
              rotate_left
              · intro w'
                go_simp
                with_reducible rfl
              rotate_left
              · simp only [Act.put, List.setIfInBounds_toArray, List.set_cons_zero, List.set_cons_succ, i64_w, i32_w]
                rfl
              refine pure_ (i := 9) (N := some 35) (v := ?_) (a' := ?_) #[true, false, false, true, true, true, true, true, true, true, false, false, false, false, false, false, false, false, false, false, false, false, false, false, false] rfl rfl (by kernel_rfl) (fun _ _ _ h => h) (Or.inl ⟨by rfl, ?_⟩) ?_ ?_
              rotate_left
              · intro w'
                go_simp
                with_reducible rfl
              rotate_left
              · simp only [Act.put, List.setIfInBounds_toArray, List.set_cons_zero, List.set_cons_succ, i64_w, i32_w]
                rfl
              refine pure_ (i := 10) (N := some 36) (v := ?_) (a' := ?_) #[true, false, false, true, true, true, true, true, true, true, true, false, false, false, false, false, false, false, false, false, false, false, false, false, false] rfl rfl (by kernel_rfl) (fun _ _ _ h => h) (Or.inl ⟨by rfl, ?_⟩) ?_ ?_
              rotate_left
              · intro w'
                go_simp
                with_reducible rfl
              rotate_left
              · simp only [Act.put, List.setIfInBounds_toArray, List.set_cons_zero, List.set_cons_succ, i64_w, i32_w]
                rfl
              refine pure_ (i := 11) (N := some 37) (v := ?_) (a' := ?_) #[true, false, false, true, true, true, true, true, true, true, true, true, false, false, false, false, false, false, false, false, false, false, false, false, false] rfl rfl (by kernel_rfl) (fun _ _ _ h => h) (Or.inl ⟨by rfl, ?_⟩) ?_ ?_
              rotate_left
              · intro w'
                go_simp
                with_reducible rfl
              rotate_left
              · simp only [Act.put, List.setIfInBounds_toArray, List.set_cons_zero, List.set_cons_succ, i64_w, i32_w]
                rfl
              refine pure_ (i := 12) (N := some 38) (v := ?_) (a' := ?_) #[true, false, false, true, true, true, true, true, true, true, true, true, true, false, false, false, false, false, false, false, false, false, false, false, false] rfl rfl (by kernel_rfl) (fun _ _ _ h => h) (Or.inl ⟨by rfl, ?_⟩) ?_ ?_
              rotate_left
              · intro w'
                go_simp
                with_reducible rfl
              rotate_left
              · simp only [Act.put, List.setIfInBounds_toArray, List.set_cons_zero, List.set_cons_succ, i64_w, i32_w]
                rfl
              refine pure_ (i := 13) (N := some 39) (v := ?_) (a' := ?_) #[true, false, false, true, true, true, true, true, true, true, true, true, true, true, false, false, false, false, false, false, false, false, false, false, false] rfl rfl (by kernel_rfl) (fun _ _ _ h => h) (Or.inl ⟨by rfl, ?_⟩) ?_ ?_
              rotate_left
              · intro w'
                go_simp
                with_reducible rfl
              rotate_left
              · simp only [Act.put, List.setIfInBounds_toArray, List.set_cons_zero, List.set_cons_succ, i64_w, i32_w]
                rfl
              refine pure_ (i := 14) (N := some 40) (v := ?_) (a' := ?_) #[true, false, false, true, true, true, true, true, true, true, true, true, true, true, true, false, false, false, false, false, false, false, false, false, false] rfl rfl (by kernel_rfl) (fun _ _ _ h => h) (Or.inl ⟨by rfl, ?_⟩) ?_ ?_
              rotate_left
              · intro w'
                go_simp
                with_reducible rfl
              rotate_left
              · simp only [Act.put, List.setIfInBounds_toArray, List.set_cons_zero, List.set_cons_succ, i64_w, i32_w]
                rfl
              refine pure_ (i := 15) (N := some 41) (v := ?_) (a' := ?_) #[true, false, false, true, true, true, true, true, true, true, true, true, true, true, true, true, false, false, false, false, false, false, false, false, false] rfl rfl (by kernel_rfl) (fun _ _ _ h => h) (Or.inl ⟨by rfl, ?_⟩) ?_ ?_
              rotate_left
              · intro w'
                go_simp
                with_reducible rfl
              rotate_left
              · simp only [Act.put, List.setIfInBounds_toArray, List.set_cons_zero, List.set_cons_succ, i64_w, i32_w]
                rfl
              refine pure_ (i := 19) (N := some 45) (v := ?_) (a' := ?_) #[true, false, false, true, true, true, true, true, true, true, true, true, true, true, true, true, false, false, false, true, false, false, false, false, false] rfl rfl (by kernel_rfl) (fun _ _ _ h => h) (Or.inl ⟨by rfl, ?_⟩) ?_ ?_
              rotate_left
              · intro w'
                go_simp
                with_reducible rfl
              rotate_left
              · simp only [Act.put, List.setIfInBounds_toArray, List.set_cons_zero, List.set_cons_succ, i64_w, i32_w]
                rfl
              refine pure_ (i := 20) (N := some 46) (v := ?_) (a' := ?_) #[true, false, false, true, true, true, true, true, true, true, true, true, true, true, true, true, false, false, false, true, true, false, false, false, false] rfl rfl (by kernel_rfl) (fun _ _ _ h => h) (Or.inl ⟨by rfl, ?_⟩) ?_ ?_
              rotate_left
              · intro w'
                go_simp
                with_reducible rfl
              rotate_left
              · simp only [Act.put, List.setIfInBounds_toArray, List.set_cons_zero, List.set_cons_succ, i64_w, i32_w]
                rfl
              refine pure_ (i := 21) (N := some 47) (v := ?_) (a' := ?_) #[true, false, false, true, true, true, true, true, true, true, true, true, true, true, true, true, false, false, false, true, true, true, false, false, false] rfl rfl (by kernel_rfl) (fun _ _ _ h => h) (Or.inl ⟨by rfl, ?_⟩) ?_ ?_
              rotate_left
              · intro w'
                go_simp
                with_reducible rfl
              rotate_left
              · simp only [Act.put, List.setIfInBounds_toArray, List.set_cons_zero, List.set_cons_succ, i64_w, i32_w]
                rfl
              refine take_ (i := 22) (N := some 48) (v := ?_) (a' := ?_) #[true, false, false, true, true, true, true, true, true, true, true, true, true, true, true, true, false, false, false, true, true, true, true, false, false] rfl rfl (by kernel_rfl) (fun _ _ _ h => h) (Or.inl ⟨by rfl, ?_⟩) hHeld ?_ ?_
              rotate_left
              · rintro w' ⟨s0, s1⟩
                go_simp
                with_reducible rfl
              rotate_left
              · simp only [Act.put, List.setIfInBounds_toArray, List.set_cons_zero, List.set_cons_succ, i64_w, i32_w]
                rfl
              refine join_ (σ := Value) 3 #[true, true, true, true, true, true, true, true, true, true, true, true, true, true, true, true, true, true, false, true, true, true, true, false, false] (fun s_ => [(27, .string t196), (28, .string (t196 ++ (⟨#[46]⟩ : ByteArray))), (42, s_), (43, .string (strOfNums y197))]) (fun s_ w' => Below w.heap.size w w' ∧ w'.cell? (ad200.add (t195 : Int).toNat) = some (.string (rdOf ByteArray.empty y189 t195)) ∧ w'.cell? (ad201.add (t195 : Int).toNat) = some (.int .i64 (rd y192 t195))) ?_ ?_
              rotate_left
              · intro hCont
                refine two_ (i := 1) (j := 16) (Ni := some 27) (Nj := some 42) #[true, true, false, true, true, true, true, true, true, true, true, true, true, true, true, true, false, false, false, true, true, true, true, false, false] #[true, false, false, true, true, true, true, true, true, true, true, true, true, true, true, true, true, false, false, true, true, true, true, false, false] rfl rfl rfl rfl (by kernel_rfl) (by decide) (by decide) (fun K hK => ?_) (fun K hK => ?_)
                · skip
                  refine goes_ Tryd.func22 (by kernel_rfl) rfl #[.int .i64 t187] (by rfl) rfl rfl (by simp only [List.map_toArray, List.map_cons, List.map_nil]; rfl) ?_
                  with_reducible refine (strconv_Itoa_22.calls t187 t196 _ A7.out (by first | exact hT_.out | exact hT_.out.up (by repeat (first | (with_reducible first | exact HB.out | apply below_alloc | apply pw_below_drewN | apply below_drew1) | exact HB.out)))).mono ?_
                  rintro e w_1 ⟨rfl, hb⟩
                  refine ⟨_, rfl, ?_⟩
                  replace HB := Aside0.mk (below_step (by repeat (first | (with_reducible first | exact HB.out | apply below_alloc | apply pw_below_drewN | apply below_drew1) | exact HB.out)) hb)
                  refine hK.out _ _ ⟨(pw_cell_below hb hHeld.1), (pw_cell_below hb hHeld.2)⟩ (fun hHeld => ?_)
                  clear hK K
                  refine norm_ (a' := ?_) ?_ ?_
                  rotate_left
                  · show Act.put _ (some 27) _ = _
                    simp only [Act.put, List.setIfInBounds_toArray, List.set_cons_zero, List.set_cons_succ, i64_w, i32_w]
                    rfl
                  refine pure_ (i := 2) (N := some 28) (v := ?_) (a' := ?_) #[true, true, true, true, true, true, true, true, true, true, true, true, true, true, true, true, false, false, false, true, true, true, true, false, false] rfl rfl (by kernel_rfl) (fun _ _ _ h => h) (Or.inl ⟨by rfl, ?_⟩) ?_ ?_
                  rotate_left
                  · intro w'
                    go_simp
                    with_reducible rfl
                  rotate_left
                  · simp only [Act.put, List.setIfInBounds_toArray, List.set_cons_zero, List.set_cons_succ, i64_w, i32_w]
                    rfl
                  refine one_ (i := 16) (N := some 42) #[true, true, true, true, true, true, true, true, true, true, true, true, true, true, true, true, true, false, false, true, true, true, true, false, false] rfl rfl (by kernel_rfl) (by decide) (fun K hK => ?_)
                  refine Kd.R_lit_step (Kd.int .u8) _ 5 ?hg (N := 42) ?hd (xs := ([(wrap64 (48 + (wrap64 (Int.tdiv t188 100)))) % 256, (wrap64 (48 + (Int.tmod (wrap64 (Int.tdiv t188 10)) 10))) % 256, (wrap64 (48 + (Int.tmod t188 10))) % 256] : List Int)) (inner := [.int .u8 ((wrap64 (48 + (wrap64 (Int.tdiv t188 100)))) % 256), .int .u8 ((wrap64 (48 + (Int.tmod (wrap64 (Int.tdiv t188 10)) 10))) % 256), .int .u8 ((wrap64 (48 + (Int.tmod t188 10))) % 256)]) (ok := fun _ => True) (okp := fun _ => True) ?hr ?hp (fun _ hk => hk) trivial (Below.refl _ _) (Nat.le_refl _) (by simp) ?_; (case hd => rfl); (case hg => rfl); (case hr => first | (go_simp; done) | (go_simp; rfl)); (case hp => exact (Reps.one (show Kd.M (Kd.int .u8) _ _ _ ((wrap64 (48 + (wrap64 (Int.tdiv t188 100)))) % 256) [.int .u8 ((wrap64 (48 + (wrap64 (Int.tdiv t188 100)))) % 256)] from rfl) (Reps.one (show Kd.M (Kd.int .u8) _ _ _ ((wrap64 (48 + (Int.tmod (wrap64 (Int.tdiv t188 10)) 10))) % 256) [.int .u8 ((wrap64 (48 + (Int.tmod (wrap64 (Int.tdiv t188 10)) 10))) % 256)] from rfl) (Reps.one (show Kd.M (Kd.int .u8) _ _ _ ((wrap64 (48 + (Int.tmod t188 10))) % 256) [.int .u8 ((wrap64 (48 + (Int.tmod t188 10))) % 256)] from rfl) (Reps.none _ _)))))
                  intro v198 w19 ho20 hb hg_ hnew_
                  clear hg_ hnew_
                  (first | rw [← Ny197.out] at ho20 | (simp only [Int.reduceToNat] at ho20; rw [← Ny197.out] at ho20))
                  have HO199 := Aside0.mk (Kd.R_lower ho20 (below_size (by repeat (first | (with_reducible first | exact HB.out | apply below_alloc | apply pw_below_drewN | apply below_drew1) | exact HB.out))))
                  replace HB := Aside0.mk (below_step (by repeat (first | (with_reducible first | exact HB.out | apply below_alloc | apply pw_below_drewN | apply below_drew1) | exact HB.out)) hb)
                  refine hK.out _ _ ⟨(pw_cell_below hb hHeld.1), (pw_cell_below hb hHeld.2)⟩ (fun hHeld => ?_)
                  clear hK K
                  refine norm_ (a' := ?_) ?_ ?_
                  rotate_left
                  · show Act.put _ (some 42) _ = _
                    simp only [Act.put, List.setIfInBounds_toArray, List.set_cons_zero, List.set_cons_succ, i64_w, i32_w]
                    rfl
                  refine one_ (i := 17) (N := some 43) #[true, true, true, true, true, true, true, true, true, true, true, true, true, true, true, true, true, true, false, true, true, true, true, false, false] rfl rfl (by kernel_rfl) (by decide) (fun K hK => ?_)
                  have hcv21 := own_string (P := Tryd.prog) Tryd.underlying38 Tryd.underlying5 Tryd.underlying9 (Kd.own_of_R HO199.out)
                  refine value_ (w1 := ?_) (v := ?_) (by rfl) rfl ?_ ?_
                  rotate_left 2
                  · go_simp
                    constructor
                    · rfl
                    · rfl
                  refine hK.out _ _ ⟨hHeld.1, hHeld.2⟩ (fun hHeld => ?_)
                  clear hK K
                  refine norm_ (a' := ?_) ?_ ?_
                  rotate_left
                  · show Act.put _ (some 43) _ = _
                    simp only [Act.put, List.setIfInBounds_toArray, List.set_cons_zero, List.set_cons_succ, i64_w, i32_w]
                    rfl
                  exact norm_ (by simp only [putAll, Act.put, List.setIfInBounds_toArray, List.set_cons_zero, List.set_cons_succ]) (hCont v198 _ ⟨(by repeat (first | (with_reducible first | exact HB.out | apply below_alloc | apply pw_below_drewN | apply below_drew1) | exact HB.out)), hHeld.1, hHeld.2⟩)
                · skip
                  refine Kd.R_lit_step (Kd.int .u8) _ 5 ?hg (N := 42) ?hd (xs := ([(wrap64 (48 + (wrap64 (Int.tdiv t188 100)))) % 256, (wrap64 (48 + (Int.tmod (wrap64 (Int.tdiv t188 10)) 10))) % 256, (wrap64 (48 + (Int.tmod t188 10))) % 256] : List Int)) (inner := [.int .u8 ((wrap64 (48 + (wrap64 (Int.tdiv t188 100)))) % 256), .int .u8 ((wrap64 (48 + (Int.tmod (wrap64 (Int.tdiv t188 10)) 10))) % 256), .int .u8 ((wrap64 (48 + (Int.tmod t188 10))) % 256)]) (ok := fun _ => True) (okp := fun _ => True) ?hr ?hp (fun _ hk => hk) trivial (Below.refl _ _) (Nat.le_refl _) (by simp) ?_; (case hd => rfl); (case hg => rfl); (case hr => first | (go_simp; done) | (go_simp; rfl)); (case hp => exact (Reps.one (show Kd.M (Kd.int .u8) _ _ _ ((wrap64 (48 + (wrap64 (Int.tdiv t188 100)))) % 256) [.int .u8 ((wrap64 (48 + (wrap64 (Int.tdiv t188 100)))) % 256)] from rfl) (Reps.one (show Kd.M (Kd.int .u8) _ _ _ ((wrap64 (48 + (Int.tmod (wrap64 (Int.tdiv t188 10)) 10))) % 256) [.int .u8 ((wrap64 (48 + (Int.tmod (wrap64 (Int.tdiv t188 10)) 10))) % 256)] from rfl) (Reps.one (show Kd.M (Kd.int .u8) _ _ _ ((wrap64 (48 + (Int.tmod t188 10))) % 256) [.int .u8 ((wrap64 (48 + (Int.tmod t188 10))) % 256)] from rfl) (Reps.none _ _)))))
                  intro v198 w19 ho20 hb hg_ hnew_
                  clear hg_ hnew_
                  (first | rw [← Ny197.out] at ho20 | (simp only [Int.reduceToNat] at ho20; rw [← Ny197.out] at ho20))
                  have HO199 := Aside0.mk (Kd.R_lower ho20 (below_size (by repeat (first | (with_reducible first | exact HB.out | apply below_alloc | apply pw_below_drewN | apply below_drew1) | exact HB.out))))
                  replace HB := Aside0.mk (below_step (by repeat (first | (with_reducible first | exact HB.out | apply below_alloc | apply pw_below_drewN | apply below_drew1) | exact HB.out)) hb)
                  refine hK.out _ _ ⟨(pw_cell_below hb hHeld.1), (pw_cell_below hb hHeld.2)⟩ (fun hHeld => ?_)
                  clear hK K
                  refine norm_ (a' := ?_) ?_ ?_
                  rotate_left
                  · show Act.put _ (some 42) _ = _
                    simp only [Act.put, List.setIfInBounds_toArray, List.set_cons_zero, List.set_cons_succ, i64_w, i32_w]
                    rfl
                  refine two_ (i := 1) (j := 17) (Ni := some 27) (Nj := some 43) #[true, true, false, true, true, true, true, true, true, true, true, true, true, true, true, true, true, false, false, true, true, true, true, false, false] #[true, false, false, true, true, true, true, true, true, true, true, true, true, true, true, true, true, true, false, true, true, true, true, false, false] rfl rfl rfl rfl (by kernel_rfl) (by decide) (by decide) (fun K hK => ?_) (fun K hK => ?_)
                  · skip
                    refine goes_ Tryd.func22 (by kernel_rfl) rfl #[.int .i64 t187] (by rfl) rfl rfl (by simp only [List.map_toArray, List.map_cons, List.map_nil]; rfl) ?_
                    with_reducible refine (strconv_Itoa_22.calls t187 t196 _ A7.out (by first | exact hT_.out | exact hT_.out.up (by repeat (first | (with_reducible first | exact HB.out | apply below_alloc | apply pw_below_drewN | apply below_drew1) | exact HB.out)))).mono ?_
                    rintro e w_1 ⟨rfl, hb⟩
                    refine ⟨_, rfl, ?_⟩
                    replace HB := Aside0.mk (below_step (by repeat (first | (with_reducible first | exact HB.out | apply below_alloc | apply pw_below_drewN | apply below_drew1) | exact HB.out)) hb)
                    replace HO199 := Aside0.mk (Kd.R_below (by (with_reducible repeat (first | apply Kd.R_alloc | apply Kd.R_drewN | apply Kd.R_drew)); exact HO199.out) hb)
                    refine hK.out _ _ ⟨(pw_cell_below hb hHeld.1), (pw_cell_below hb hHeld.2)⟩ (fun hHeld => ?_)
                    clear hK K
                    refine norm_ (a' := ?_) ?_ ?_
                    rotate_left
                    · show Act.put _ (some 27) _ = _
                      simp only [Act.put, List.setIfInBounds_toArray, List.set_cons_zero, List.set_cons_succ, i64_w, i32_w]
                      rfl
                    refine pure_ (i := 2) (N := some 28) (v := ?_) (a' := ?_) #[true, true, true, true, true, true, true, true, true, true, true, true, true, true, true, true, true, false, false, true, true, true, true, false, false] rfl rfl (by kernel_rfl) (fun _ _ _ h => h) (Or.inl ⟨by rfl, ?_⟩) ?_ ?_
                    rotate_left
                    · intro w'
                      go_simp
                      with_reducible rfl
                    rotate_left
                    · simp only [Act.put, List.setIfInBounds_toArray, List.set_cons_zero, List.set_cons_succ, i64_w, i32_w]
                      rfl
                    refine one_ (i := 17) (N := some 43) #[true, true, true, true, true, true, true, true, true, true, true, true, true, true, true, true, true, true, false, true, true, true, true, false, false] rfl rfl (by kernel_rfl) (by decide) (fun K hK => ?_)
                    have hcv21 := own_string (P := Tryd.prog) Tryd.underlying38 Tryd.underlying5 Tryd.underlying9 (Kd.own_of_R HO199.out)
                    refine value_ (w1 := ?_) (v := ?_) (by rfl) rfl ?_ ?_
                    rotate_left 2
                    · go_simp
                      constructor
                      · rfl
                      · rfl
                    refine hK.out _ _ ⟨hHeld.1, hHeld.2⟩ (fun hHeld => ?_)
                    clear hK K
                    refine norm_ (a' := ?_) ?_ ?_
                    rotate_left
                    · show Act.put _ (some 43) _ = _
                      simp only [Act.put, List.setIfInBounds_toArray, List.set_cons_zero, List.set_cons_succ, i64_w, i32_w]
                      rfl
                    exact norm_ (by simp only [putAll, Act.put, List.setIfInBounds_toArray, List.set_cons_zero, List.set_cons_succ]) (hCont v198 _ ⟨(by repeat (first | (with_reducible first | exact HB.out | apply below_alloc | apply pw_below_drewN | apply below_drew1) | exact HB.out)), hHeld.1, hHeld.2⟩)
                  · skip
                    have hcv21 := own_string (P := Tryd.prog) Tryd.underlying38 Tryd.underlying5 Tryd.underlying9 (Kd.own_of_R HO199.out)
                    refine value_ (w1 := ?_) (v := ?_) (by rfl) rfl ?_ ?_
                    rotate_left 2
                    · go_simp
                      constructor
                      · rfl
                      · rfl
                    refine hK.out _ _ ⟨hHeld.1, hHeld.2⟩ (fun hHeld => ?_)
                    clear hK K
                    refine norm_ (a' := ?_) ?_ ?_
                    rotate_left
                    · show Act.put _ (some 43) _ = _
                      simp only [Act.put, List.setIfInBounds_toArray, List.set_cons_zero, List.set_cons_succ, i64_w, i32_w]
                      rfl
                    refine one_ (i := 1) (N := some 27) #[true, true, false, true, true, true, true, true, true, true, true, true, true, true, true, true, true, true, false, true, true, true, true, false, false] rfl rfl (by kernel_rfl) (by decide) (fun K hK => ?_)
                    refine goes_ Tryd.func22 (by kernel_rfl) rfl #[.int .i64 t187] (by rfl) rfl rfl (by simp only [List.map_toArray, List.map_cons, List.map_nil]; rfl) ?_
                    with_reducible refine (strconv_Itoa_22.calls t187 t196 _ A7.out (by first | exact hT_.out | exact hT_.out.up (by repeat (first | (with_reducible first | exact HB.out | apply below_alloc | apply pw_below_drewN | apply below_drew1) | exact HB.out)))).mono ?_
                    rintro e w_1 ⟨rfl, hb⟩
                    refine ⟨_, rfl, ?_⟩
                    replace HB := Aside0.mk (below_step (by repeat (first | (with_reducible first | exact HB.out | apply below_alloc | apply pw_below_drewN | apply below_drew1) | exact HB.out)) hb)
                    replace HO199 := Aside0.mk (Kd.R_below (by (with_reducible repeat (first | apply Kd.R_alloc | apply Kd.R_drewN | apply Kd.R_drew)); exact HO199.out) hb)
                    refine hK.out _ _ ⟨(pw_cell_below hb hHeld.1), (pw_cell_below hb hHeld.2)⟩ (fun hHeld => ?_)
                    clear hK K
                    refine norm_ (a' := ?_) ?_ ?_
                    rotate_left
                    · show Act.put _ (some 27) _ = _
                      simp only [Act.put, List.setIfInBounds_toArray, List.set_cons_zero, List.set_cons_succ, i64_w, i32_w]
                      rfl
                    refine pure_ (i := 2) (N := some 28) (v := ?_) (a' := ?_) #[true, true, true, true, true, true, true, true, true, true, true, true, true, true, true, true, true, true, false, true, true, true, true, false, false] rfl rfl (by kernel_rfl) (fun _ _ _ h => h) (Or.inl ⟨by rfl, ?_⟩) ?_ ?_
                    rotate_left
                    · intro w'
                      go_simp
                      with_reducible rfl
                    rotate_left
                    · simp only [Act.put, List.setIfInBounds_toArray, List.set_cons_zero, List.set_cons_succ, i64_w, i32_w]
                      rfl
                    exact norm_ (by simp only [putAll, Act.put, List.setIfInBounds_toArray, List.set_cons_zero, List.set_cons_succ]) (hCont v198 _ ⟨(by repeat (first | (with_reducible first | exact HB.out | apply below_alloc | apply pw_below_drewN | apply below_drew1) | exact HB.out)), hHeld.1, hHeld.2⟩)
              rintro s_ wF ⟨HBF, hF0, hF1⟩
              replace HB := Aside0.mk HBF
              clear HBF hHeld
              have hHeld : wF.cell? (ad200.add (t195 : Int).toNat) = some (.string (rdOf ByteArray.empty y189 t195)) ∧ wF.cell? (ad201.add (t195 : Int).toNat) = some (.int .i64 (rd y192 t195)) := ⟨hF0, hF1⟩
              refine norm_ (a' := ?_) ?_ ?_
              rotate_left
              · simp only [putAll, Act.put, List.setIfInBounds_toArray, List.set_cons_zero, List.set_cons_succ]
                rfl
              refine pure_ (i := 18) (N := some 44) (v := ?_) (a' := ?_) #[true, true, true, true, true, true, true, true, true, true, true, true, true, true, true, true, true, true, true, true, true, true, true, false, false] rfl rfl (by kernel_rfl) (fun _ _ _ h => h) (Or.inl ⟨by rfl, ?_⟩) ?_ ?_
              rotate_left
              · intro w'
                go_simp
                with_reducible rfl
              rotate_left
              · simp only [Act.put, List.setIfInBounds_toArray, List.set_cons_zero, List.set_cons_succ, i64_w, i32_w]
                rfl
              refine pure_ (i := 23) (N := some 49) (v := ?_) (a' := ?_) #[true, true, true, true, true, true, true, true, true, true, true, true, true, true, true, true, true, true, true, true, true, true, true, true, false] rfl rfl (by kernel_rfl) (fun _ _ _ h => h) (Or.inl ⟨by rfl, ?_⟩) ?_ ?_
              rotate_left
              · intro w'
                go_simp
                with_reducible rfl
              rotate_left
              · simp only [Act.put, List.setIfInBounds_toArray, List.set_cons_zero, List.set_cons_succ, i64_w, i32_w]
                rfl
              refine pure_ (i := 24) (N := some 10) (v := ?_) (a' := ?_) #[true, true, true, true, true, true, true, true, true, true, true, true, true, true, true, true, true, true, true, true, true, true, true, true, true] rfl rfl (by kernel_rfl) (fun _ _ _ h => h) (Or.inl ⟨by rfl, ?_⟩) ?_ ?_
              rotate_left
              · intro w'
                go_simp
                with_reducible rfl
              rotate_left
              · simp only [Act.put, List.setIfInBounds_toArray, List.set_cons_zero, List.set_cons_succ, i64_w, i32_w]
                rfl
              refine done_ (by kernel_rfl) ?_
              have hx201_1 := hF1
              go_wp2_with (fail)
              go_loopg [12] k (fun kq v12 w' => ∃ (x12_1 : Int), v12 = .int .i64 x12_1 ∧ Aside0 (drayagelaw01_QuantSays.l0 kq (((t196 ++ (⟨#[46]⟩ : ByteArray)) ++ (strOfNums y197)) ++ (rdOf ByteArray.empty y189 t195)) (wrap64 ((wrap64 ((wrap64 (1000 * t187)) + t188)) * (rd y192 t195))) x12_1 = some r) ∧ Aside0 (kq ≤ k) ∧ Aside0 (Below w.heap.size w w'))
              case atStart => exact ⟨(0), (by first | rfl | (simp; done) | (simp [*]; done)), H', ⟨Nat.le_refl _⟩, ⟨by repeat (first | (with_reducible first | exact HB.out | apply below_alloc | apply pw_below_drewN | apply below_drew1) | exact HB.out)⟩⟩
              case round =>
                clear H'
                try clear c1
                try clear c2
                try clear p2
                try clear q2
                try clear hx2
                try clear hcv2
                try clear c6
                try clear p6
                try clear c8
                try clear c8b0
                try clear c8b1
                try clear c8b2
                try clear c9
                try clear c9b0
                try clear c9b1
                try clear c9b2
                try clear c10
                try clear c10b0
                try clear c11
                try clear c11b0
                try clear c12
                try clear c12b0
                try clear c12b1
                try clear c12b2
                try clear c13
                try clear c13b0
                try clear c20
                try clear p20
                try clear q20
                try clear hx20
                try clear hcv21
                try clear c22
                try clear hx200_0
                try clear hx201_0
                try clear p200
                try clear p201
                try clear q200
                try clear q201
                obtain ⟨x12_1, rfl, HA, HK1, HB⟩ := hrel
                cases gk with
                | zero => exact absurd HA.out (by simp [drayagelaw01_QuantSays.l0])
                | succ k1 =>
                  have H := HA.out
                  clear HA
                  simp only [drayagelaw01_QuantSays.l0] at H
                  by_cases c24 : x12_1 < 2
                  · rw [if_pos c24] at H
                    have c24b0 : decide (x12_1 < 2) = true := decide_eq_true c24
                    clear c24
                    obtain ⟨bq, hbq⟩ : ∃ b_ : Bool, (x12_1 == 1) = b_ := ⟨_, rfl⟩
                    rw [hbq] at H
                    have HC25 := Aside0.mk H
                    clear H
                    go_upto_if 65 with (fail)
                    try rw [hbq]
                    go_cut [14] (fun v14 wc => ∃ (kq : Nat) (x14_24 : Int), v14 = .int .i64 x14_24 ∧ Aside0 (drayagelaw01_QuantSays.j1 kq (((t196 ++ (⟨#[46]⟩ : ByteArray)) ++ (strOfNums y197)) ++ (rdOf ByteArray.empty y189 t195)) (wrap64 ((wrap64 ((wrap64 (1000 * t187)) + t188)) * (rd y192 t195))) x12_1 bq x14_24 = some r) ∧ Aside0 (kq ≤ k1) ∧ Aside0 (Below w.heap.size w wc))
                    case first =>
                      have H := HC25.out
                      clear HC25
                      by_cases c26 : x12_1 = 1
                      · rw [if_pos c26] at H
                        have c26b0 : (x12_1 == 1) = true := beq_iff_eq.mpr c26
                        obtain rfl : bq = true := hbq.symm.trans c26b0
                        have c26b1 : (x12_1 != 1) = false := bne_eq_false_iff_eq.mpr c26
                        clear c26
                        (first | rw [c26b0] | (simp only [i64_w, i32_w]; rw [c26b0]) | skip)
                        have H' := Aside0.mk H
                        clear H
                        go_wp2
                        go_meet
                        case rel => exact ⟨_, (1000), (by first | rfl | (simp; done) | (simp [*]; done)), H', ⟨by have := HK1.out; first | omega | exact Nat.le_refl _⟩, ⟨by repeat (first | (with_reducible first | exact HB.out | apply below_alloc | apply pw_below_drewN | apply below_drew1) | exact HB.out)⟩⟩
                      · rw [if_neg c26] at H
                        have c26b0 : (x12_1 == 1) = false := beq_eq_false_iff_ne.mpr c26
                        obtain rfl : bq = false := hbq.symm.trans c26b0
                        have c26b1 : (x12_1 != 1) = true := bne_iff_ne.mpr c26
                        (first | rw [c26b0] | (simp only [i64_w, i32_w]; rw [c26b0]) | skip)
                        have H' := Aside0.mk H
                        clear H
                        go_wp2
                        go_meet
                        case rel => exact ⟨_, (1000000), (by first | rfl | (simp; done) | (simp [*]; done)), H', ⟨by have := HK1.out; first | omega | exact Nat.le_refl _⟩, ⟨by repeat (first | (with_reducible first | exact HB.out | apply below_alloc | apply pw_below_drewN | apply below_drew1) | exact HB.out)⟩⟩
                    case rest =>
                      clear HC25
                      try clear c1
                      try clear c2
                      try clear p2
                      try clear q2
                      try clear hx2
                      try clear hcv2
                      try clear c6
                      try clear p6
                      try clear c8
                      try clear c8b0
                      try clear c8b1
                      try clear c8b2
                      try clear c9
                      try clear c9b0
                      try clear c9b1
                      try clear c9b2
                      try clear c10
                      try clear c10b0
                      try clear c11
                      try clear c11b0
                      try clear c12
                      try clear c12b0
                      try clear c12b1
                      try clear c12b2
                      try clear c13
                      try clear c13b0
                      try clear c20
                      try clear p20
                      try clear q20
                      try clear hx20
                      try clear hcv21
                      try clear c22
                      try clear c24
                      try clear c24b0
                      try clear c26
                      try clear c26b0
                      try clear c26b1
                      try clear hx200_0
                      try clear hx201_0
                      try clear p2
                      try clear p20
                      try clear p200
                      try clear p201
                      try clear p6
                      try clear q2
                      try clear q20
                      try clear q200
                      try clear q201
                      obtain ⟨kq, x14_24, rfl, HA, HJ24, HB⟩ := hcut
                      cases kq with
                      | zero => exact absurd HA.out (by simp [drayagelaw01_QuantSays.j1])
                      | succ kj24 =>
                        have H := HA.out
                        clear HA
                        simp only [drayagelaw01_QuantSays.j1] at H
                        replace H := Option.bind_eq_some_iff.mp H
                        obtain ⟨⟨t203, t204, t205⟩, A270, H⟩ := H
                        replace H : (if (wrap64 ((wrap64 ((wrap64 (1000 * t187)) + t188)) * (rd y192 t195))) > (wrap64 (1099511627776 * x14_24)) then (if t205 = 10 then (if t204 = 0 then (drayagelaw01_QuantSays.l0 kj24 (((t196 ++ (⟨#[46]⟩ : ByteArray)) ++ (strOfNums y197)) ++ (rdOf ByteArray.empty y189 t195)) (wrap64 ((wrap64 ((wrap64 (1000 * t187)) + t188)) * (rd y192 t195))) (wrap64 (x12_1 + 1))) else (some false)) else (some false)) else (if x14_24 = 0 then (none) else (if (Int.tmod (wrap64 ((wrap64 ((wrap64 (1000 * t187)) + t188)) * (rd y192 t195))) x14_24) = 0 then (if t205 = 0 then (if t203 = (wrap64 (Int.tdiv (wrap64 ((wrap64 ((wrap64 (1000 * t187)) + t188)) * (rd y192 t195))) x14_24)) then (drayagelaw01_QuantSays.l0 kj24 (((t196 ++ (⟨#[46]⟩ : ByteArray)) ++ (strOfNums y197)) ++ (rdOf ByteArray.empty y189 t195)) (wrap64 ((wrap64 ((wrap64 (1000 * t187)) + t188)) * (rd y192 t195))) (wrap64 (x12_1 + 1))) else (some false)) else (some false)) else (if t205 = 4 then (if t204 = 0 then (drayagelaw01_QuantSays.l0 kj24 (((t196 ++ (⟨#[46]⟩ : ByteArray)) ++ (strOfNums y197)) ++ (rdOf ByteArray.empty y189 t195)) (wrap64 ((wrap64 ((wrap64 (1000 * t187)) + t188)) * (rd y192 t195))) (wrap64 (x12_1 + 1))) else (some false)) else (some false))))) = some r := H
                        have A27 := Aside0.mk A270
                        clear A270
                        by_cases c28 : (wrap64 ((wrap64 ((wrap64 (1000 * t187)) + t188)) * (rd y192 t195))) > (wrap64 (1099511627776 * x14_24))
                        · rw [if_pos c28] at H
                          have c28b0 : decide ((wrap64 (1099511627776 * x14_24)) < (wrap64 ((wrap64 ((wrap64 (1000 * t187)) + t188)) * (rd y192 t195)))) = true := decide_eq_true c28
                          clear c28
                          by_cases c29 : t205 = 10
                          · rw [if_pos c29] at H
                            have c29b0 : (t205 == 10) = true := beq_iff_eq.mpr c29
                            have c29b1 : (t205 != 10) = false := bne_eq_false_iff_eq.mpr c29
                            clear c29
                            by_cases c30 : t204 = 0
                            · rw [if_pos c30] at H
                              have c30b0 : (t204 == 0) = true := beq_iff_eq.mpr c30
                              have c30b1 : (t204 != 0) = false := bne_eq_false_iff_eq.mpr c30
                              clear c30
                              have H' := Aside0.mk H
                              clear H
                              go_wp2_with (first | ((with_reducible refine gate_callee (f := 11) rfl ?_); refine goesL_ (some 69) rfl rfl Tryd.func11 (by kernel_rfl) rfl #[.string (((t196 ++ (⟨#[46]⟩ : ByteArray)) ++ (strOfNums y197)) ++ (rdOf ByteArray.empty y189 t195)), .bool bq] rfl (by (try simp only [List.map_toArray, List.map_cons, List.map_nil]); first | done | rfl | (simp only [List.length_drop, List.length_take]; rfl)) ?_; (with_reducible refine (quant_Parse.calls (((t196 ++ (⟨#[46]⟩ : ByteArray)) ++ (strOfNums y197)) ++ (rdOf ByteArray.empty y189 t195)) bq t203 t204 t205 _ A27.out).mono ?_); rintro e w31 ⟨rfl, hb⟩; refine ⟨_, rfl, ?_⟩; have n0_ := Aside0.mk (below_step (by repeat (first | (with_reducible first | exact HB.out | apply below_alloc | apply pw_below_drewN | apply below_drew1) | exact HB.out)) hb); clear HB; have HB := n0_; clear n0_; (try clear hb); (try clear hb2); (try clear hk); (try clear hi)))
                              go_roundg kj24
                              case measure => have := HK1.out; have := HJ24.out; omega
                              case rel => exact ⟨(wrap64 (x12_1 + 1)), (by first | rfl | (simp; done) | (simp [*]; done)), H', ⟨by have := HK1.out; have := HJ24.out; omega⟩, ⟨by repeat (first | (with_reducible first | exact HB.out | apply below_alloc | apply pw_below_drewN | apply below_drew1) | exact HB.out)⟩⟩
                            · rw [if_neg c30] at H
                              have c30b0 : (t204 == 0) = false := beq_eq_false_iff_ne.mpr c30
                              have c30b1 : (t204 != 0) = true := bne_iff_ne.mpr c30
                              obtain rfl := Option.some.inj H
                              go_wp2_with (first | ((with_reducible refine gate_callee (f := 11) rfl ?_); refine goesL_ (some 69) rfl rfl Tryd.func11 (by kernel_rfl) rfl #[.string (((t196 ++ (⟨#[46]⟩ : ByteArray)) ++ (strOfNums y197)) ++ (rdOf ByteArray.empty y189 t195)), .bool bq] rfl (by (try simp only [List.map_toArray, List.map_cons, List.map_nil]); first | done | rfl | (simp only [List.length_drop, List.length_take]; rfl)) ?_; (with_reducible refine (quant_Parse.calls (((t196 ++ (⟨#[46]⟩ : ByteArray)) ++ (strOfNums y197)) ++ (rdOf ByteArray.empty y189 t195)) bq t203 t204 t205 _ A27.out).mono ?_); rintro e w32 ⟨rfl, hb⟩; refine ⟨_, rfl, ?_⟩; have n0_ := Aside0.mk (below_step (by repeat (first | (with_reducible first | exact HB.out | apply below_alloc | apply pw_below_drewN | apply below_drew1) | exact HB.out)) hb); clear HB; have HB := n0_; clear n0_; (try clear hb); (try clear hb2); (try clear hk); (try clear hi)))
                              go_ret
                              exact ⟨by first | rfl | (simp [errW_none, errW_some] <;> rfl) | (simp [*, errW_none, errW_some] <;> rfl), by repeat (first | (with_reducible first | exact HB.out | apply below_alloc | apply pw_below_drewN | apply below_drew1) | exact HB.out)⟩
                          · rw [if_neg c29] at H
                            have c29b0 : (t205 == 10) = false := beq_eq_false_iff_ne.mpr c29
                            have c29b1 : (t205 != 10) = true := bne_iff_ne.mpr c29
                            obtain rfl := Option.some.inj H
                            go_wp2_with (first | ((with_reducible refine gate_callee (f := 11) rfl ?_); refine goesL_ (some 69) rfl rfl Tryd.func11 (by kernel_rfl) rfl #[.string (((t196 ++ (⟨#[46]⟩ : ByteArray)) ++ (strOfNums y197)) ++ (rdOf ByteArray.empty y189 t195)), .bool bq] rfl (by (try simp only [List.map_toArray, List.map_cons, List.map_nil]); first | done | rfl | (simp only [List.length_drop, List.length_take]; rfl)) ?_; (with_reducible refine (quant_Parse.calls (((t196 ++ (⟨#[46]⟩ : ByteArray)) ++ (strOfNums y197)) ++ (rdOf ByteArray.empty y189 t195)) bq t203 t204 t205 _ A27.out).mono ?_); rintro e w33 ⟨rfl, hb⟩; refine ⟨_, rfl, ?_⟩; have n0_ := Aside0.mk (below_step (by repeat (first | (with_reducible first | exact HB.out | apply below_alloc | apply pw_below_drewN | apply below_drew1) | exact HB.out)) hb); clear HB; have HB := n0_; clear n0_; (try clear hb); (try clear hb2); (try clear hk); (try clear hi)))
                            go_ret
                            exact ⟨by first | rfl | (simp [errW_none, errW_some] <;> rfl) | (simp [*, errW_none, errW_some] <;> rfl), by repeat (first | (with_reducible first | exact HB.out | apply below_alloc | apply pw_below_drewN | apply below_drew1) | exact HB.out)⟩
                        · rw [if_neg c28] at H
                          have c28b0 : decide ((wrap64 (1099511627776 * x14_24)) < (wrap64 ((wrap64 ((wrap64 (1000 * t187)) + t188)) * (rd y192 t195)))) = false := decide_eq_false c28
                          clear c28
                          by_cases c34 : x14_24 = 0
                          · rw [if_pos c34] at H
                            exact absurd H (by simp)
                          · rw [if_neg c34] at H
                            have c34b0 : (x14_24 == 0) = false := beq_eq_false_iff_ne.mpr c34
                            have c34b1 : (x14_24 != 0) = true := bne_iff_ne.mpr c34
                            by_cases c35 : (Int.tmod (wrap64 ((wrap64 ((wrap64 (1000 * t187)) + t188)) * (rd y192 t195))) x14_24) = 0
                            · rw [if_pos c35] at H
                              have c35b0 : ((Int.tmod (wrap64 ((wrap64 ((wrap64 (1000 * t187)) + t188)) * (rd y192 t195))) x14_24) == 0) = true := beq_iff_eq.mpr c35
                              have c35b1 : ((Int.tmod (wrap64 ((wrap64 ((wrap64 (1000 * t187)) + t188)) * (rd y192 t195))) x14_24) != 0) = false := bne_eq_false_iff_eq.mpr c35
                              clear c35
                              by_cases c36 : t205 = 0
                              · rw [if_pos c36] at H
                                have c36b0 : (t205 == 0) = true := beq_iff_eq.mpr c36
                                have c36b1 : (t205 != 0) = false := bne_eq_false_iff_eq.mpr c36
                                clear c36
                                by_cases c37 : t203 = (wrap64 (Int.tdiv (wrap64 ((wrap64 ((wrap64 (1000 * t187)) + t188)) * (rd y192 t195))) x14_24))
                                · rw [if_pos c37] at H
                                  have c37b0 : (t203 == (wrap64 (Int.tdiv (wrap64 ((wrap64 ((wrap64 (1000 * t187)) + t188)) * (rd y192 t195))) x14_24))) = true := beq_iff_eq.mpr c37
                                  have c37b1 : (t203 != (wrap64 (Int.tdiv (wrap64 ((wrap64 ((wrap64 (1000 * t187)) + t188)) * (rd y192 t195))) x14_24))) = false := bne_eq_false_iff_eq.mpr c37
                                  clear c37
                                  have H' := Aside0.mk H
                                  clear H
                                  go_wp2_with (first | ((with_reducible refine gate_callee (f := 11) rfl ?_); refine goesL_ (some 69) rfl rfl Tryd.func11 (by kernel_rfl) rfl #[.string (((t196 ++ (⟨#[46]⟩ : ByteArray)) ++ (strOfNums y197)) ++ (rdOf ByteArray.empty y189 t195)), .bool bq] rfl (by (try simp only [List.map_toArray, List.map_cons, List.map_nil]); first | done | rfl | (simp only [List.length_drop, List.length_take]; rfl)) ?_; (with_reducible refine (quant_Parse.calls (((t196 ++ (⟨#[46]⟩ : ByteArray)) ++ (strOfNums y197)) ++ (rdOf ByteArray.empty y189 t195)) bq t203 t204 t205 _ A27.out).mono ?_); rintro e w38 ⟨rfl, hb⟩; refine ⟨_, rfl, ?_⟩; have n0_ := Aside0.mk (below_step (by repeat (first | (with_reducible first | exact HB.out | apply below_alloc | apply pw_below_drewN | apply below_drew1) | exact HB.out)) hb); clear HB; have HB := n0_; clear n0_; (try clear hb); (try clear hb2); (try clear hk); (try clear hi)))
                                  go_roundg kj24
                                  case measure => have := HK1.out; have := HJ24.out; omega
                                  case rel => exact ⟨(wrap64 (x12_1 + 1)), (by first | rfl | (simp; done) | (simp [*]; done)), H', ⟨by have := HK1.out; have := HJ24.out; omega⟩, ⟨by repeat (first | (with_reducible first | exact HB.out | apply below_alloc | apply pw_below_drewN | apply below_drew1) | exact HB.out)⟩⟩
                                · rw [if_neg c37] at H
                                  have c37b0 : (t203 == (wrap64 (Int.tdiv (wrap64 ((wrap64 ((wrap64 (1000 * t187)) + t188)) * (rd y192 t195))) x14_24))) = false := beq_eq_false_iff_ne.mpr c37
                                  have c37b1 : (t203 != (wrap64 (Int.tdiv (wrap64 ((wrap64 ((wrap64 (1000 * t187)) + t188)) * (rd y192 t195))) x14_24))) = true := bne_iff_ne.mpr c37
                                  obtain rfl := Option.some.inj H
                                  go_wp2_with (first | ((with_reducible refine gate_callee (f := 11) rfl ?_); refine goesL_ (some 69) rfl rfl Tryd.func11 (by kernel_rfl) rfl #[.string (((t196 ++ (⟨#[46]⟩ : ByteArray)) ++ (strOfNums y197)) ++ (rdOf ByteArray.empty y189 t195)), .bool bq] rfl (by (try simp only [List.map_toArray, List.map_cons, List.map_nil]); first | done | rfl | (simp only [List.length_drop, List.length_take]; rfl)) ?_; (with_reducible refine (quant_Parse.calls (((t196 ++ (⟨#[46]⟩ : ByteArray)) ++ (strOfNums y197)) ++ (rdOf ByteArray.empty y189 t195)) bq t203 t204 t205 _ A27.out).mono ?_); rintro e w39 ⟨rfl, hb⟩; refine ⟨_, rfl, ?_⟩; have n0_ := Aside0.mk (below_step (by repeat (first | (with_reducible first | exact HB.out | apply below_alloc | apply pw_below_drewN | apply below_drew1) | exact HB.out)) hb); clear HB; have HB := n0_; clear n0_; (try clear hb); (try clear hb2); (try clear hk); (try clear hi)))
                                  go_ret
                                  exact ⟨by first | rfl | (simp [errW_none, errW_some] <;> rfl) | (simp [*, errW_none, errW_some] <;> rfl), by repeat (first | (with_reducible first | exact HB.out | apply below_alloc | apply pw_below_drewN | apply below_drew1) | exact HB.out)⟩
                              · rw [if_neg c36] at H
                                have c36b0 : (t205 == 0) = false := beq_eq_false_iff_ne.mpr c36
                                have c36b1 : (t205 != 0) = true := bne_iff_ne.mpr c36
                                obtain rfl := Option.some.inj H
                                go_wp2_with (first | ((with_reducible refine gate_callee (f := 11) rfl ?_); refine goesL_ (some 69) rfl rfl Tryd.func11 (by kernel_rfl) rfl #[.string (((t196 ++ (⟨#[46]⟩ : ByteArray)) ++ (strOfNums y197)) ++ (rdOf ByteArray.empty y189 t195)), .bool bq] rfl (by (try simp only [List.map_toArray, List.map_cons, List.map_nil]); first | done | rfl | (simp only [List.length_drop, List.length_take]; rfl)) ?_; (with_reducible refine (quant_Parse.calls (((t196 ++ (⟨#[46]⟩ : ByteArray)) ++ (strOfNums y197)) ++ (rdOf ByteArray.empty y189 t195)) bq t203 t204 t205 _ A27.out).mono ?_); rintro e w40 ⟨rfl, hb⟩; refine ⟨_, rfl, ?_⟩; have n0_ := Aside0.mk (below_step (by repeat (first | (with_reducible first | exact HB.out | apply below_alloc | apply pw_below_drewN | apply below_drew1) | exact HB.out)) hb); clear HB; have HB := n0_; clear n0_; (try clear hb); (try clear hb2); (try clear hk); (try clear hi)))
                                go_ret
                                exact ⟨by first | rfl | (simp [errW_none, errW_some] <;> rfl) | (simp [*, errW_none, errW_some] <;> rfl), by repeat (first | (with_reducible first | exact HB.out | apply below_alloc | apply pw_below_drewN | apply below_drew1) | exact HB.out)⟩
                            · rw [if_neg c35] at H
                              have c35b0 : ((Int.tmod (wrap64 ((wrap64 ((wrap64 (1000 * t187)) + t188)) * (rd y192 t195))) x14_24) == 0) = false := beq_eq_false_iff_ne.mpr c35
                              have c35b1 : ((Int.tmod (wrap64 ((wrap64 ((wrap64 (1000 * t187)) + t188)) * (rd y192 t195))) x14_24) != 0) = true := bne_iff_ne.mpr c35
                              by_cases c41 : t205 = 4
                              · rw [if_pos c41] at H
                                have c41b0 : (t205 == 4) = true := beq_iff_eq.mpr c41
                                have c41b1 : (t205 != 4) = false := bne_eq_false_iff_eq.mpr c41
                                clear c41
                                by_cases c42 : t204 = 0
                                · rw [if_pos c42] at H
                                  have c42b0 : (t204 == 0) = true := beq_iff_eq.mpr c42
                                  have c42b1 : (t204 != 0) = false := bne_eq_false_iff_eq.mpr c42
                                  clear c42
                                  have H' := Aside0.mk H
                                  clear H
                                  go_wp2_with (first | ((with_reducible refine gate_callee (f := 11) rfl ?_); refine goesL_ (some 69) rfl rfl Tryd.func11 (by kernel_rfl) rfl #[.string (((t196 ++ (⟨#[46]⟩ : ByteArray)) ++ (strOfNums y197)) ++ (rdOf ByteArray.empty y189 t195)), .bool bq] rfl (by (try simp only [List.map_toArray, List.map_cons, List.map_nil]); first | done | rfl | (simp only [List.length_drop, List.length_take]; rfl)) ?_; (with_reducible refine (quant_Parse.calls (((t196 ++ (⟨#[46]⟩ : ByteArray)) ++ (strOfNums y197)) ++ (rdOf ByteArray.empty y189 t195)) bq t203 t204 t205 _ A27.out).mono ?_); rintro e w43 ⟨rfl, hb⟩; refine ⟨_, rfl, ?_⟩; have n0_ := Aside0.mk (below_step (by repeat (first | (with_reducible first | exact HB.out | apply below_alloc | apply pw_below_drewN | apply below_drew1) | exact HB.out)) hb); clear HB; have HB := n0_; clear n0_; (try clear hb); (try clear hb2); (try clear hk); (try clear hi)))
                                  go_roundg kj24
                                  case measure => have := HK1.out; have := HJ24.out; omega
                                  case rel => exact ⟨(wrap64 (x12_1 + 1)), (by first | rfl | (simp; done) | (simp [*]; done)), H', ⟨by have := HK1.out; have := HJ24.out; omega⟩, ⟨by repeat (first | (with_reducible first | exact HB.out | apply below_alloc | apply pw_below_drewN | apply below_drew1) | exact HB.out)⟩⟩
                                · rw [if_neg c42] at H
                                  have c42b0 : (t204 == 0) = false := beq_eq_false_iff_ne.mpr c42
                                  have c42b1 : (t204 != 0) = true := bne_iff_ne.mpr c42
                                  obtain rfl := Option.some.inj H
                                  go_wp2_with (first | ((with_reducible refine gate_callee (f := 11) rfl ?_); refine goesL_ (some 69) rfl rfl Tryd.func11 (by kernel_rfl) rfl #[.string (((t196 ++ (⟨#[46]⟩ : ByteArray)) ++ (strOfNums y197)) ++ (rdOf ByteArray.empty y189 t195)), .bool bq] rfl (by (try simp only [List.map_toArray, List.map_cons, List.map_nil]); first | done | rfl | (simp only [List.length_drop, List.length_take]; rfl)) ?_; (with_reducible refine (quant_Parse.calls (((t196 ++ (⟨#[46]⟩ : ByteArray)) ++ (strOfNums y197)) ++ (rdOf ByteArray.empty y189 t195)) bq t203 t204 t205 _ A27.out).mono ?_); rintro e w44 ⟨rfl, hb⟩; refine ⟨_, rfl, ?_⟩; have n0_ := Aside0.mk (below_step (by repeat (first | (with_reducible first | exact HB.out | apply below_alloc | apply pw_below_drewN | apply below_drew1) | exact HB.out)) hb); clear HB; have HB := n0_; clear n0_; (try clear hb); (try clear hb2); (try clear hk); (try clear hi)))
                                  go_ret
                                  exact ⟨by first | rfl | (simp [errW_none, errW_some] <;> rfl) | (simp [*, errW_none, errW_some] <;> rfl), by repeat (first | (with_reducible first | exact HB.out | apply below_alloc | apply pw_below_drewN | apply below_drew1) | exact HB.out)⟩
                              · rw [if_neg c41] at H
                                have c41b0 : (t205 == 4) = false := beq_eq_false_iff_ne.mpr c41
                                have c41b1 : (t205 != 4) = true := bne_iff_ne.mpr c41
                                obtain rfl := Option.some.inj H
                                go_wp2_with (first | ((with_reducible refine gate_callee (f := 11) rfl ?_); refine goesL_ (some 69) rfl rfl Tryd.func11 (by kernel_rfl) rfl #[.string (((t196 ++ (⟨#[46]⟩ : ByteArray)) ++ (strOfNums y197)) ++ (rdOf ByteArray.empty y189 t195)), .bool bq] rfl (by (try simp only [List.map_toArray, List.map_cons, List.map_nil]); first | done | rfl | (simp only [List.length_drop, List.length_take]; rfl)) ?_; (with_reducible refine (quant_Parse.calls (((t196 ++ (⟨#[46]⟩ : ByteArray)) ++ (strOfNums y197)) ++ (rdOf ByteArray.empty y189 t195)) bq t203 t204 t205 _ A27.out).mono ?_); rintro e w45 ⟨rfl, hb⟩; refine ⟨_, rfl, ?_⟩; have n0_ := Aside0.mk (below_step (by repeat (first | (with_reducible first | exact HB.out | apply below_alloc | apply pw_below_drewN | apply below_drew1) | exact HB.out)) hb); clear HB; have HB := n0_; clear n0_; (try clear hb); (try clear hb2); (try clear hk); (try clear hi)))
                                go_ret
                                exact ⟨by first | rfl | (simp [errW_none, errW_some] <;> rfl) | (simp [*, errW_none, errW_some] <;> rfl), by repeat (first | (with_reducible first | exact HB.out | apply below_alloc | apply pw_below_drewN | apply below_drew1) | exact HB.out)⟩
                  · rw [if_neg c24] at H
                    have c24b0 : decide (x12_1 < 2) = false := decide_eq_false c24
                    clear c24
                    replace H := Option.bind_eq_some_iff.mp H
                    obtain ⟨t202, A460, H⟩ := H
                    replace H : (some t202) = some r := H
                    have A46 := Aside0.mk A460
                    clear A460
                    obtain rfl := Option.some.inj H
                    go_wp2_with (first | ((with_reducible refine gate_callee (f := 15) rfl ?_); refine goesL_ (some 105) rfl rfl Tryd.func15 (by kernel_rfl) rfl #[] rfl (by (try simp only [List.map_toArray, List.map_cons, List.map_nil]); first | done | rfl | (simp only [List.length_drop, List.length_take]; rfl)) ?_; (with_reducible refine (drayagelaw01_works.calls k1  t202 _ A46.out ?sideT_).mono ?_); (case sideT_ => first | exact hT_.out | exact hT_.out.up (by repeat (first | (with_reducible first | exact HB.out | apply below_alloc | apply pw_below_drewN | apply below_drew1) | exact HB.out))); rintro e w47 ⟨rfl, hb⟩; refine ⟨_, rfl, ?_⟩; have n0_ := Aside0.mk (below_step (by repeat (first | (with_reducible first | exact HB.out | apply below_alloc | apply pw_below_drewN | apply below_drew1) | exact HB.out)) hb); clear HB; have HB := n0_; clear n0_; (try clear hb); (try clear hb2); (try clear hk); (try clear hi)))
                    go_ret
                    exact ⟨by first | rfl | (simp [errW_none, errW_some] <;> rfl) | (simp [*, errW_none, errW_some] <;> rfl), by repeat (first | (with_reducible first | exact HB.out | apply below_alloc | apply pw_below_drewN | apply below_drew1) | exact HB.out)⟩
            · rw [if_neg c13] at H
              exact absurd H (by simp)
          · rw [if_neg c12] at H
            exact absurd H (by simp)
        · rw [if_neg c11] at H
          exact absurd H (by simp)
      · rw [if_neg c10] at H
        exact absurd H (by simp)
    · rw [if_neg c9] at H
      exact absurd H (by simp)
  · rw [if_neg c8] at H
    exact absurd H (by simp)

/-- THE ONE PURE STATEMENT of drayagelaw01_QuantSays: yours. -/
def drayagelaw01_QuantSays.Pure : Prop := ∀ (a0 : Int) (a1 : Int) (a2 : Int), (Lit.int .i64 a0).wf = true → (Lit.int .i64 a1).wf = true → (Lit.int .i64 a2).wf = true → ∃ k, drayagelaw01_QuantSays.f k a0 a1 a2 = some true
theorem drayagelaw01_QuantSays.walk (P : drayagelaw01_QuantSays.Pure) (a0 : Int) (a1 : Int) (a2 : Int) (w : World) (w0 : (Lit.int .i64 a0).wf = true) (w1 : (Lit.int .i64 a1).wf = true) (w2 : (Lit.int .i64 a2).wf = true) (hT0 : Tb w) :
    Calls Tryd.prog 6 #[.int .i64 a0, .int .i64 a1, .int .i64 a2] w fun e w' => e = .returned (.bool true) ∧ Below w.heap.size w w' := by
  obtain ⟨k, h⟩ := P a0 a1 a2 w0 w1 w2
  refine (drayagelaw01_QuantSays.calls k a0 a1 a2 true w h hT0).mono ?_
  rintro e w' ⟨rfl, hd⟩
  exact ⟨rfl, hd⟩

end Go.Proofs.YtkpoipjgbdcdjaaDoor.P
