import Derived.Test.YtkpoipjgbdcdjaaDoorP0
import Derived.Test.YtkpoipjgbdcdjaaDoorHparse
import Derived.Test.YtkpoipjgbdcdjaaDoorPf18
import Derived.Test.YtkpoipjgbdcdjaaDoorPf21
import Derived.Test.YtkpoipjgbdcdjaaDoorPf25
import Derived.Test.YtkpoipjgbdcdjaaDoorPf27
import Derived.Test.YtkpoipjgbdcdjaaDoorPf29
import Derived.Test.YtkpoipjgbdcdjaaDoorPf48
import Derived.Test.YtkpoipjgbdcdjaaDoorPf49
namespace Go.Proofs.YtkpoipjgbdcdjaaDoor.P
open Go.RowKit Go.Proofs.YtkpoipjgbdcdjaaDoorW.PrintWords Go.Proofs.YtkpoipjgbdcdjaaDoorW.PrintLast Go.Proofs.YtkpoipjgbdcdjaaDoorW.PrintMore
attribute [local go_sem] max2_int min2_int max_two min_two max_three min_three max_four min_four   -- for this text's walks alone
set_option linter.unusedVariables false
set_option linter.unusedSimpArgs false

mutual
def drayagelaw01_works.j0 : Nat → Bool → Option (Bool)
 | 0, _ => none
 | k + 1, x1 => (drayagelaw01_wrong.f (⟨#[48, 55]⟩ : ByteArray) 1 4).bind fun t178 => (if t178 = true then ((drayagelaw01_wrong.f (⟨#[49, 46]⟩ : ByteArray) 2 3).bind fun t179 => (if t179 = true then ((drayagelaw01_wrong.f (⟨#[50, 120]⟩ : ByteArray) 1 4).bind fun t180 => (if t180 = true then ((drayagelaw01_wrong.f (⟨#[53, 195, 169]⟩ : ByteArray) 1 4).bind fun t181 => (if t181 = true then ((drayagelaw01_wrong.f (⟨#[]⟩ : ByteArray) 0 3).bind fun t182 => (if t182 = true then ((drayagelaw01_wrong.f (⟨#[49, 48, 50, 53, 71, 105]⟩ : ByteArray) 0 10).bind fun t183 => (drayagelaw01_works.j1 k x1 t183)) else (drayagelaw01_works.j1 k x1 false))) else (drayagelaw01_works.j1 k x1 false))) else (drayagelaw01_works.j1 k x1 false))) else (drayagelaw01_works.j1 k x1 false))) else (drayagelaw01_works.j1 k x1 false))
def drayagelaw01_works.j1 : Nat → Bool → Bool → Option (Bool)
 | 0, _, _ => none
 | k + 1, x1, x2 => (quant_Percent.f (⟨#[56, 53, 46, 53, 37]⟩ : ByteArray)).bind fun bt184 => ((quant_Percent.f (⟨#[56, 53]⟩ : ByteArray)).bind fun bt187 => ((quant_Percent.f (⟨#[49, 48, 49, 37]⟩ : ByteArray)).bind fun bt190 => ((quant_PrintPercent.f k 855).bind fun bt193 => ((drayagelaw01_prints.f k 1500 true (⟨#[49, 53, 48, 48, 109]⟩ : ByteArray)).bind fun t195 => (if t195 = true then ((drayagelaw01_prints.f k 3072 false (⟨#[51, 75, 105]⟩ : ByteArray)).bind fun t196 => (if t196 = true then ((drayagelaw01_prints.f k 0 false (⟨#[48]⟩ : ByteArray)).bind fun t197 => (if t197 = true then (if bt184.1 = 855 then (if bt184.2.2 = 0 then (if bt187.2.1 = 2 then (if bt187.2.2 = 3 then (if bt190.2.2 = 10 then (if bt193.1.toList = ([56, 53, 46, 53, 37] : List UInt8) then (drayagelaw01_works.j2 k x1 x2 (bt193.2 == 0)) else (drayagelaw01_works.j2 k x1 x2 false)) else (drayagelaw01_works.j2 k x1 x2 false)) else (drayagelaw01_works.j2 k x1 x2 false)) else (drayagelaw01_works.j2 k x1 x2 false)) else (drayagelaw01_works.j2 k x1 x2 false)) else (drayagelaw01_works.j2 k x1 x2 false)) else (drayagelaw01_works.j2 k x1 x2 false))) else (drayagelaw01_works.j2 k x1 x2 false))) else (drayagelaw01_works.j2 k x1 x2 false))))))
def drayagelaw01_works.j2 : Nat → Bool → Bool → Bool → Option (Bool)
 | 0, _, _, _ => none
 | k + 1, x1, x2, x14 => (quant_Share.f k 1 3).bind fun bt198 => ((quant_Share.f k 0 0).bind fun bt200 => ((quant_Share.f k 1 0).bind fun bt202 => ((quant_Sub.f 2 3).bind fun bt204 => ((quant_Mul.f 1048576 2097152).bind fun bt206 => (if x1 = true then (if x2 = true then (if x14 = true then (if bt198.1 = 333 then (if bt198.2 = 0 then (if bt200.1 = 0 then (if bt200.2 = 0 then (if bt202.2 = 2 then (if bt204.2 = 2 then (some (bt206.2 == 10)) else (some false)) else (some false)) else (some false)) else (some false)) else (some false)) else (some false)) else (some false)) else (some false)) else (some false))))))
end
def drayagelaw01_works.f (k : Nat)  : Option (Bool) := (drayagelaw01_says.f (⟨#[49, 46, 53]⟩ : ByteArray) true 1500).bind fun t173 => (if t173 = true then ((drayagelaw01_says.f (⟨#[53, 48, 48, 109]⟩ : ByteArray) true 500).bind fun t174 => (if t174 = true then ((drayagelaw01_says.f (⟨#[50, 71, 105]⟩ : ByteArray) false 2147483648).bind fun t175 => (if t175 = true then ((drayagelaw01_says.f (⟨#[49, 46, 53, 107]⟩ : ByteArray) false 1500).bind fun t176 => (if t176 = true then ((drayagelaw01_wrong.f (⟨#[49, 46, 53]⟩ : ByteArray) 0 4).bind fun t177 => (drayagelaw01_works.j0 k t177)) else (drayagelaw01_works.j0 k false))) else (drayagelaw01_works.j0 k false))) else (drayagelaw01_works.j0 k false))) else (drayagelaw01_works.j0 k false))
theorem drayagelaw01_works.mono_l : ∀ k, (∀ y0, LeO (drayagelaw01_works.j0 k y0) (drayagelaw01_works.j0 (k + 1) y0)) ∧ (∀ y0 y1, LeO (drayagelaw01_works.j1 k y0 y1) (drayagelaw01_works.j1 (k + 1) y0 y1)) ∧ (∀ y0 y1 y2, LeO (drayagelaw01_works.j2 k y0 y1 y2) (drayagelaw01_works.j2 (k + 1) y0 y1 y2))
 | 0 => ⟨fun _ r h => by simp [drayagelaw01_works.j0] at h, fun _ _ r h => by simp [drayagelaw01_works.j1] at h, fun _ _ _ r h => by simp [drayagelaw01_works.j2] at h⟩
 | k + 1 => by
  obtain ⟨ih0, ih1, ih2⟩ := drayagelaw01_works.mono_l k
  refine ⟨?_, ?_, ?_⟩
  ·intro y0
   unfold drayagelaw01_works.j0
   repeat' first
   | (with_reducible exact ih0 _)
   | (with_reducible exact ih1 _ _)
   | (with_reducible exact ih2 _ _ _)
   | (with_reducible exact drayagelaw01_prints.mono _ _ _ _)
   | (with_reducible exact quant_PrintPercent.mono _ _)
   | (with_reducible exact quant_Share.mono _ _ _)
   | (with_reducible exact LeO.refl _)
   | (with_reducible exact LeO.none _)
   | (with_reducible refine LeO.ite ?_ ?_)
   | (with_reducible refine LeO.bind ?_ (fun _ => ?_))
   | exact ih0 _
   | exact ih1 _ _
   | exact ih2 _ _ _
   | exact drayagelaw01_prints.mono _ _ _ _
   | exact quant_PrintPercent.mono _ _
   | exact quant_Share.mono _ _ _
   | exact LeO.none _
   | refine LeO.ite ?_ ?_
   | refine LeO.bind ?_ (fun _ => ?_)
  ·intro y0 y1
   unfold drayagelaw01_works.j1
   repeat' first
   | (with_reducible exact ih0 _)
   | (with_reducible exact ih1 _ _)
   | (with_reducible exact ih2 _ _ _)
   | (with_reducible exact drayagelaw01_prints.mono _ _ _ _)
   | (with_reducible exact quant_PrintPercent.mono _ _)
   | (with_reducible exact quant_Share.mono _ _ _)
   | (with_reducible exact LeO.refl _)
   | (with_reducible exact LeO.none _)
   | (with_reducible refine LeO.ite ?_ ?_)
   | (with_reducible refine LeO.bind ?_ (fun _ => ?_))
   | exact ih0 _
   | exact ih1 _ _
   | exact ih2 _ _ _
   | exact drayagelaw01_prints.mono _ _ _ _
   | exact quant_PrintPercent.mono _ _
   | exact quant_Share.mono _ _ _
   | exact LeO.none _
   | refine LeO.ite ?_ ?_
   | refine LeO.bind ?_ (fun _ => ?_)
  ·intro y0 y1 y2
   unfold drayagelaw01_works.j2
   repeat' first
   | (with_reducible exact ih0 _)
   | (with_reducible exact ih1 _ _)
   | (with_reducible exact ih2 _ _ _)
   | (with_reducible exact drayagelaw01_prints.mono _ _ _ _)
   | (with_reducible exact quant_PrintPercent.mono _ _)
   | (with_reducible exact quant_Share.mono _ _ _)
   | (with_reducible exact LeO.refl _)
   | (with_reducible exact LeO.none _)
   | (with_reducible refine LeO.ite ?_ ?_)
   | (with_reducible refine LeO.bind ?_ (fun _ => ?_))
   | exact ih0 _
   | exact ih1 _ _
   | exact ih2 _ _ _
   | exact drayagelaw01_prints.mono _ _ _ _
   | exact quant_PrintPercent.mono _ _
   | exact quant_Share.mono _ _ _
   | exact LeO.none _
   | refine LeO.ite ?_ ?_
   | refine LeO.bind ?_ (fun _ => ?_)
theorem drayagelaw01_works.mono : ∀ k, LeO (drayagelaw01_works.f k ) (drayagelaw01_works.f (k + 1) ) := by
 intro  k
 obtain ⟨ih0, ih1, ih2⟩ := drayagelaw01_works.mono_l k
 unfold drayagelaw01_works.f
 repeat' first
   | (with_reducible exact ih0 _)
   | (with_reducible exact ih1 _ _)
   | (with_reducible exact ih2 _ _ _)
   | (with_reducible exact drayagelaw01_prints.mono _ _ _ _)
   | (with_reducible exact quant_PrintPercent.mono _ _)
   | (with_reducible exact quant_Share.mono _ _ _)
   | (with_reducible exact LeO.refl _)
   | (with_reducible exact LeO.none _)
   | (with_reducible refine LeO.ite ?_ ?_)
   | (with_reducible refine LeO.bind ?_ (fun _ => ?_))
   | exact ih0 _
   | exact ih1 _ _
   | exact ih2 _ _ _
   | exact drayagelaw01_prints.mono _ _ _ _
   | exact quant_PrintPercent.mono _ _
   | exact quant_Share.mono _ _ _
   | exact LeO.none _
   | refine LeO.ite ?_ ?_
   | refine LeO.bind ?_ (fun _ => ?_)
set_option maxHeartbeats 8000000 in
set_option maxRecDepth 100000 in
theorem drayagelaw01_works.calls (k : Nat)  (r : Bool) (w : World) (h : drayagelaw01_works.f k  = some r) (hT0 : Tb w) :
  Calls Tryd.prog 15 #[] w fun e w' => e = .returned (.bool r) ∧ Below w.heap.size w w' := by
 have hT_ := Aside0.mk hT0
 clear hT0
 have HB := Aside0.mk (Below.refl w.heap.size w)
 have H : ((drayagelaw01_says.f (⟨#[49, 46, 53]⟩ : ByteArray) true 1500).bind fun t173 => (if t173 = true then ((drayagelaw01_says.f (⟨#[53, 48, 48, 109]⟩ : ByteArray) true 500).bind fun t174 => (if t174 = true then ((drayagelaw01_says.f (⟨#[50, 71, 105]⟩ : ByteArray) false 2147483648).bind fun t175 => (if t175 = true then ((drayagelaw01_says.f (⟨#[49, 46, 53, 107]⟩ : ByteArray) false 1500).bind fun t176 => (if t176 = true then ((drayagelaw01_wrong.f (⟨#[49, 46, 53]⟩ : ByteArray) 0 4).bind fun t177 => (drayagelaw01_works.j0 k t177)) else (drayagelaw01_works.j0 k false))) else (drayagelaw01_works.j0 k false))) else (drayagelaw01_works.j0 k false))) else (drayagelaw01_works.j0 k false))) = some r := h
 clear h
 have HC1 := Aside0.mk H
 clear H
 go_enter Tryd.func15, Tryd.ntmps15
 go_upto_region 1 with (fail)
 go_cut [1] (fun v1 wc => ∃ (kq : Nat) (x1_0 : Bool), v1 = .bool x1_0 ∧ Aside0 (drayagelaw01_works.j0 kq x1_0 = some r) ∧ Aside0 (kq ≤ k) ∧ Aside0 (Below w.heap.size w wc))
 case first =>
  have H := HC1.out
  clear HC1
  replace H := Option.bind_eq_some_iff.mp H
  obtain ⟨t173, A20, H⟩ := H
  try dsimp only at H
  have A2 := Aside0.mk A20
  clear A20
  by_cases c3 : t173 = true
  ·subst c3
   rw [if_pos rfl] at H
   replace H := Option.bind_eq_some_iff.mp H
   obtain ⟨t174, A40, H⟩ := H
   try dsimp only at H
   have A4 := Aside0.mk A40
   clear A40
   by_cases c5 : t174 = true
   ·subst c5
    rw [if_pos rfl] at H
    replace H := Option.bind_eq_some_iff.mp H
    obtain ⟨t175, A60, H⟩ := H
    try dsimp only at H
    have A6 := Aside0.mk A60
    clear A60
    by_cases c7 : t175 = true
    ·subst c7
     rw [if_pos rfl] at H
     replace H := Option.bind_eq_some_iff.mp H
     obtain ⟨t176, A80, H⟩ := H
     try dsimp only at H
     have A8 := Aside0.mk A80
     clear A80
     by_cases c9 : t176 = true
     ·subst c9
      rw [if_pos rfl] at H
      replace H := Option.bind_eq_some_iff.mp H
      obtain ⟨t177, A100, H⟩ := H
      try dsimp only at H
      have A10 := Aside0.mk A100
      clear A100
      have H' := Aside0.mk H
      clear H
      go_wp2_with (first | ((with_reducible refine gate_callee (f := 21) rfl ?_); refine goesL_ (some 25) rfl rfl Tryd.func21 (by kernel_rfl) rfl #[.string (⟨#[49, 46, 53]⟩ : ByteArray), .bool true, .int .i64 1500] rfl ca_ ?_; (with_reducible refine (drayagelaw01_says.calls (⟨#[49, 46, 53]⟩ : ByteArray) true 1500 true _ A2.out).mono ?_); rintro e w11 ⟨rfl, hb⟩; refine ⟨_, rfl, ?_⟩; replace HB := Aside0.mk (below_step bw_ hb); (try clear hb); (try clear hb2); (try clear hk); (try clear hi)) | (go_at_call 21; (with_reducible refine (drayagelaw01_says.calls (⟨#[53, 48, 48, 109]⟩ : ByteArray) true 500 true _ A4.out).mono ?_); rintro e w12 ⟨rfl, hb⟩; replace HB := Aside0.mk (below_step bw_ hb); (try clear hb); (try clear hb2); (try clear hk); (try clear hi)) | (go_at_call 21; (with_reducible refine (drayagelaw01_says.calls (⟨#[50, 71, 105]⟩ : ByteArray) false 2147483648 true _ A6.out).mono ?_); rintro e w13 ⟨rfl, hb⟩; replace HB := Aside0.mk (below_step bw_ hb); (try clear hb); (try clear hb2); (try clear hk); (try clear hi)) | (go_at_call 21; (with_reducible refine (drayagelaw01_says.calls (⟨#[49, 46, 53, 107]⟩ : ByteArray) false 1500 true _ A8.out).mono ?_); rintro e w14 ⟨rfl, hb⟩; replace HB := Aside0.mk (below_step bw_ hb); (try clear hb); (try clear hb2); (try clear hk); (try clear hi)) | (go_at_call 48; (with_reducible refine (drayagelaw01_wrong.calls (⟨#[49, 46, 53]⟩ : ByteArray) 0 4 t177 _ A10.out).mono ?_); rintro e w15 ⟨rfl, hb⟩; replace HB := Aside0.mk (below_step bw_ hb); (try clear hb); (try clear hb2); (try clear hk); (try clear hi)))
      go_meet
      case rel => exact ⟨_, (t177), fs_, H', ⟨by first | omega | exact Nat.le_refl _⟩, ⟨bw_⟩⟩
     ·replace c9 := Bool.eq_false_iff.mpr c9
      subst c9
      have H1 : (drayagelaw01_works.j0 k false) = some r := by rw [if_neg (show ¬ (false = true) by decide)] at H; exact H
      clear H
      have H := H1
      clear H1
      have H' := Aside0.mk H
      clear H
      go_wp2_with (first | ((with_reducible refine gate_callee (f := 21) rfl ?_); refine goesL_ (some 25) rfl rfl Tryd.func21 (by kernel_rfl) rfl #[.string (⟨#[49, 46, 53]⟩ : ByteArray), .bool true, .int .i64 1500] rfl ca_ ?_; (with_reducible refine (drayagelaw01_says.calls (⟨#[49, 46, 53]⟩ : ByteArray) true 1500 true _ A2.out).mono ?_); rintro e w16 ⟨rfl, hb⟩; refine ⟨_, rfl, ?_⟩; replace HB := Aside0.mk (below_step bw_ hb); (try clear hb); (try clear hb2); (try clear hk); (try clear hi)) | (go_at_call 21; (with_reducible refine (drayagelaw01_says.calls (⟨#[53, 48, 48, 109]⟩ : ByteArray) true 500 true _ A4.out).mono ?_); rintro e w17 ⟨rfl, hb⟩; replace HB := Aside0.mk (below_step bw_ hb); (try clear hb); (try clear hb2); (try clear hk); (try clear hi)) | (go_at_call 21; (with_reducible refine (drayagelaw01_says.calls (⟨#[50, 71, 105]⟩ : ByteArray) false 2147483648 true _ A6.out).mono ?_); rintro e w18 ⟨rfl, hb⟩; replace HB := Aside0.mk (below_step bw_ hb); (try clear hb); (try clear hb2); (try clear hk); (try clear hi)) | (go_at_call 21; (with_reducible refine (drayagelaw01_says.calls (⟨#[49, 46, 53, 107]⟩ : ByteArray) false 1500 false _ A8.out).mono ?_); rintro e w19 ⟨rfl, hb⟩; replace HB := Aside0.mk (below_step bw_ hb); (try clear hb); (try clear hb2); (try clear hk); (try clear hi)))
      go_meet
      case rel => exact ⟨_, (false), fs_, H', ⟨by first | omega | exact Nat.le_refl _⟩, ⟨bw_⟩⟩
    ·replace c7 := Bool.eq_false_iff.mpr c7
     subst c7
     have H1 : (drayagelaw01_works.j0 k false) = some r := by rw [if_neg (show ¬ (false = true) by decide)] at H; exact H
     clear H
     have H := H1
     clear H1
     have H' := Aside0.mk H
     clear H
     go_wp2_with (first | ((with_reducible refine gate_callee (f := 21) rfl ?_); refine goesL_ (some 25) rfl rfl Tryd.func21 (by kernel_rfl) rfl #[.string (⟨#[49, 46, 53]⟩ : ByteArray), .bool true, .int .i64 1500] rfl ca_ ?_; (with_reducible refine (drayagelaw01_says.calls (⟨#[49, 46, 53]⟩ : ByteArray) true 1500 true _ A2.out).mono ?_); rintro e w20 ⟨rfl, hb⟩; refine ⟨_, rfl, ?_⟩; replace HB := Aside0.mk (below_step bw_ hb); (try clear hb); (try clear hb2); (try clear hk); (try clear hi)) | (go_at_call 21; (with_reducible refine (drayagelaw01_says.calls (⟨#[53, 48, 48, 109]⟩ : ByteArray) true 500 true _ A4.out).mono ?_); rintro e w21 ⟨rfl, hb⟩; replace HB := Aside0.mk (below_step bw_ hb); (try clear hb); (try clear hb2); (try clear hk); (try clear hi)) | (go_at_call 21; (with_reducible refine (drayagelaw01_says.calls (⟨#[50, 71, 105]⟩ : ByteArray) false 2147483648 false _ A6.out).mono ?_); rintro e w22 ⟨rfl, hb⟩; replace HB := Aside0.mk (below_step bw_ hb); (try clear hb); (try clear hb2); (try clear hk); (try clear hi)))
     go_meet
     case rel => exact ⟨_, (false), fs_, H', ⟨by first | omega | exact Nat.le_refl _⟩, ⟨bw_⟩⟩
   ·replace c5 := Bool.eq_false_iff.mpr c5
    subst c5
    have H1 : (drayagelaw01_works.j0 k false) = some r := by rw [if_neg (show ¬ (false = true) by decide)] at H; exact H
    clear H
    have H := H1
    clear H1
    have H' := Aside0.mk H
    clear H
    go_wp2_with (first | ((with_reducible refine gate_callee (f := 21) rfl ?_); refine goesL_ (some 25) rfl rfl Tryd.func21 (by kernel_rfl) rfl #[.string (⟨#[49, 46, 53]⟩ : ByteArray), .bool true, .int .i64 1500] rfl ca_ ?_; (with_reducible refine (drayagelaw01_says.calls (⟨#[49, 46, 53]⟩ : ByteArray) true 1500 true _ A2.out).mono ?_); rintro e w23 ⟨rfl, hb⟩; refine ⟨_, rfl, ?_⟩; replace HB := Aside0.mk (below_step bw_ hb); (try clear hb); (try clear hb2); (try clear hk); (try clear hi)) | (go_at_call 21; (with_reducible refine (drayagelaw01_says.calls (⟨#[53, 48, 48, 109]⟩ : ByteArray) true 500 false _ A4.out).mono ?_); rintro e w24 ⟨rfl, hb⟩; replace HB := Aside0.mk (below_step bw_ hb); (try clear hb); (try clear hb2); (try clear hk); (try clear hi)))
    go_meet
    case rel => exact ⟨_, (false), fs_, H', ⟨by first | omega | exact Nat.le_refl _⟩, ⟨bw_⟩⟩
  ·replace c3 := Bool.eq_false_iff.mpr c3
   subst c3
   have H1 : (drayagelaw01_works.j0 k false) = some r := by rw [if_neg (show ¬ (false = true) by decide)] at H; exact H
   clear H
   have H := H1
   clear H1
   have H' := Aside0.mk H
   clear H
   go_wp2_with (first | ((with_reducible refine gate_callee (f := 21) rfl ?_); refine goesL_ (some 25) rfl rfl Tryd.func21 (by kernel_rfl) rfl #[.string (⟨#[49, 46, 53]⟩ : ByteArray), .bool true, .int .i64 1500] rfl ca_ ?_; (with_reducible refine (drayagelaw01_says.calls (⟨#[49, 46, 53]⟩ : ByteArray) true 1500 false _ A2.out).mono ?_); rintro e w25 ⟨rfl, hb⟩; refine ⟨_, rfl, ?_⟩; replace HB := Aside0.mk (below_step bw_ hb); (try clear hb); (try clear hb2); (try clear hk); (try clear hi)))
   go_meet
   case rel => exact ⟨_, (false), fs_, H', ⟨by first | omega | exact Nat.le_refl _⟩, ⟨bw_⟩⟩
 case rest =>
  clear HC1
  (try clear c1); (try clear c2); (try clear p2); (try clear c3); (try clear c5); (try clear c7); (try clear c9); (try clear c15); (try clear c21)
  obtain ⟨kq, x1_0, rfl, HA, HJ0, HB⟩ := hcut
  cases kq with
  | zero => exact absurd HA.out (by simp [drayagelaw01_works.j0])
  | succ kj0 =>
   have H := HA.out
   clear HA
   simp only [drayagelaw01_works.j0] at H
   have HC26 := Aside0.mk H
   clear H
   go_upto_region 2 with (fail)
   go_cut [2] (fun v2 wc => ∃ (kq : Nat) (x2_25 : Bool), v2 = .bool x2_25 ∧ Aside0 (drayagelaw01_works.j1 kq x1_0 x2_25 = some r) ∧ Aside0 (kq ≤ kj0) ∧ Aside0 (Below w.heap.size w wc))
   case first =>
    have H := HC26.out
    clear HC26
    replace H := Option.bind_eq_some_iff.mp H
    obtain ⟨t178, A270, H⟩ := H
    try dsimp only at H
    have A27 := Aside0.mk A270
    clear A270
    by_cases c28 : t178 = true
    ·subst c28
     rw [if_pos rfl] at H
     replace H := Option.bind_eq_some_iff.mp H
     obtain ⟨t179, A290, H⟩ := H
     try dsimp only at H
     have A29 := Aside0.mk A290
     clear A290
     by_cases c30 : t179 = true
     ·subst c30
      rw [if_pos rfl] at H
      replace H := Option.bind_eq_some_iff.mp H
      obtain ⟨t180, A310, H⟩ := H
      try dsimp only at H
      have A31 := Aside0.mk A310
      clear A310
      by_cases c32 : t180 = true
      ·subst c32
       rw [if_pos rfl] at H
       replace H := Option.bind_eq_some_iff.mp H
       obtain ⟨t181, A330, H⟩ := H
       try dsimp only at H
       have A33 := Aside0.mk A330
       clear A330
       by_cases c34 : t181 = true
       ·subst c34
        rw [if_pos rfl] at H
        replace H := Option.bind_eq_some_iff.mp H
        obtain ⟨t182, A350, H⟩ := H
        try dsimp only at H
        have A35 := Aside0.mk A350
        clear A350
        by_cases c36 : t182 = true
        ·subst c36
         rw [if_pos rfl] at H
         replace H := Option.bind_eq_some_iff.mp H
         obtain ⟨t183, A370, H⟩ := H
         try dsimp only at H
         have A37 := Aside0.mk A370
         clear A370
         have H' := Aside0.mk H
         clear H
         go_wp2_with (first | ((with_reducible refine gate_callee (f := 48) rfl ?_); refine goesL_ (some 38) rfl rfl Tryd.func48 (by kernel_rfl) rfl #[.string (⟨#[48, 55]⟩ : ByteArray), .int .i64 1, .int .i64 4] rfl ca_ ?_; (with_reducible refine (drayagelaw01_wrong.calls (⟨#[48, 55]⟩ : ByteArray) 1 4 true _ A27.out).mono ?_); rintro e w38 ⟨rfl, hb⟩; refine ⟨_, rfl, ?_⟩; replace HB := Aside0.mk (below_step bw_ hb); (try clear hb); (try clear hb2); (try clear hk); (try clear hi)) | (go_at_call 48; (with_reducible refine (drayagelaw01_wrong.calls (⟨#[49, 46]⟩ : ByteArray) 2 3 true _ A29.out).mono ?_); rintro e w39 ⟨rfl, hb⟩; replace HB := Aside0.mk (below_step bw_ hb); (try clear hb); (try clear hb2); (try clear hk); (try clear hi)) | (go_at_call 48; (with_reducible refine (drayagelaw01_wrong.calls (⟨#[50, 120]⟩ : ByteArray) 1 4 true _ A31.out).mono ?_); rintro e w40 ⟨rfl, hb⟩; replace HB := Aside0.mk (below_step bw_ hb); (try clear hb); (try clear hb2); (try clear hk); (try clear hi)) | (go_at_call 48; (with_reducible refine (drayagelaw01_wrong.calls (⟨#[53, 195, 169]⟩ : ByteArray) 1 4 true _ A33.out).mono ?_); rintro e w41 ⟨rfl, hb⟩; replace HB := Aside0.mk (below_step bw_ hb); (try clear hb); (try clear hb2); (try clear hk); (try clear hi)) | (go_at_call 48; (with_reducible refine (drayagelaw01_wrong.calls (⟨#[]⟩ : ByteArray) 0 3 true _ A35.out).mono ?_); rintro e w42 ⟨rfl, hb⟩; replace HB := Aside0.mk (below_step bw_ hb); (try clear hb); (try clear hb2); (try clear hk); (try clear hi)) | (go_at_call 48; (with_reducible refine (drayagelaw01_wrong.calls (⟨#[49, 48, 50, 53, 71, 105]⟩ : ByteArray) 0 10 t183 _ A37.out).mono ?_); rintro e w43 ⟨rfl, hb⟩; replace HB := Aside0.mk (below_step bw_ hb); (try clear hb); (try clear hb2); (try clear hk); (try clear hi)))
         go_meet
         case rel => exact ⟨_, (t183), fs_, H', ⟨by have := HJ0.out; first | omega | exact Nat.le_refl _⟩, ⟨bw_⟩⟩
        ·replace c36 := Bool.eq_false_iff.mpr c36
         subst c36
         have H1 : (drayagelaw01_works.j1 kj0 x1_0 false) = some r := by rw [if_neg (show ¬ (false = true) by decide)] at H; exact H
         clear H
         have H := H1
         clear H1
         have H' := Aside0.mk H
         clear H
         go_wp2_with (first | ((with_reducible refine gate_callee (f := 48) rfl ?_); refine goesL_ (some 38) rfl rfl Tryd.func48 (by kernel_rfl) rfl #[.string (⟨#[48, 55]⟩ : ByteArray), .int .i64 1, .int .i64 4] rfl ca_ ?_; (with_reducible refine (drayagelaw01_wrong.calls (⟨#[48, 55]⟩ : ByteArray) 1 4 true _ A27.out).mono ?_); rintro e w44 ⟨rfl, hb⟩; refine ⟨_, rfl, ?_⟩; replace HB := Aside0.mk (below_step bw_ hb); (try clear hb); (try clear hb2); (try clear hk); (try clear hi)) | (go_at_call 48; (with_reducible refine (drayagelaw01_wrong.calls (⟨#[49, 46]⟩ : ByteArray) 2 3 true _ A29.out).mono ?_); rintro e w45 ⟨rfl, hb⟩; replace HB := Aside0.mk (below_step bw_ hb); (try clear hb); (try clear hb2); (try clear hk); (try clear hi)) | (go_at_call 48; (with_reducible refine (drayagelaw01_wrong.calls (⟨#[50, 120]⟩ : ByteArray) 1 4 true _ A31.out).mono ?_); rintro e w46 ⟨rfl, hb⟩; replace HB := Aside0.mk (below_step bw_ hb); (try clear hb); (try clear hb2); (try clear hk); (try clear hi)) | (go_at_call 48; (with_reducible refine (drayagelaw01_wrong.calls (⟨#[53, 195, 169]⟩ : ByteArray) 1 4 true _ A33.out).mono ?_); rintro e w47 ⟨rfl, hb⟩; replace HB := Aside0.mk (below_step bw_ hb); (try clear hb); (try clear hb2); (try clear hk); (try clear hi)) | (go_at_call 48; (with_reducible refine (drayagelaw01_wrong.calls (⟨#[]⟩ : ByteArray) 0 3 false _ A35.out).mono ?_); rintro e w48 ⟨rfl, hb⟩; replace HB := Aside0.mk (below_step bw_ hb); (try clear hb); (try clear hb2); (try clear hk); (try clear hi)))
         go_meet
         case rel => exact ⟨_, (false), fs_, H', ⟨by have := HJ0.out; first | omega | exact Nat.le_refl _⟩, ⟨bw_⟩⟩
       ·replace c34 := Bool.eq_false_iff.mpr c34
        subst c34
        have H1 : (drayagelaw01_works.j1 kj0 x1_0 false) = some r := by rw [if_neg (show ¬ (false = true) by decide)] at H; exact H
        clear H
        have H := H1
        clear H1
        have H' := Aside0.mk H
        clear H
        go_wp2_with (first | ((with_reducible refine gate_callee (f := 48) rfl ?_); refine goesL_ (some 38) rfl rfl Tryd.func48 (by kernel_rfl) rfl #[.string (⟨#[48, 55]⟩ : ByteArray), .int .i64 1, .int .i64 4] rfl ca_ ?_; (with_reducible refine (drayagelaw01_wrong.calls (⟨#[48, 55]⟩ : ByteArray) 1 4 true _ A27.out).mono ?_); rintro e w49 ⟨rfl, hb⟩; refine ⟨_, rfl, ?_⟩; replace HB := Aside0.mk (below_step bw_ hb); (try clear hb); (try clear hb2); (try clear hk); (try clear hi)) | (go_at_call 48; (with_reducible refine (drayagelaw01_wrong.calls (⟨#[49, 46]⟩ : ByteArray) 2 3 true _ A29.out).mono ?_); rintro e w50 ⟨rfl, hb⟩; replace HB := Aside0.mk (below_step bw_ hb); (try clear hb); (try clear hb2); (try clear hk); (try clear hi)) | (go_at_call 48; (with_reducible refine (drayagelaw01_wrong.calls (⟨#[50, 120]⟩ : ByteArray) 1 4 true _ A31.out).mono ?_); rintro e w51 ⟨rfl, hb⟩; replace HB := Aside0.mk (below_step bw_ hb); (try clear hb); (try clear hb2); (try clear hk); (try clear hi)) | (go_at_call 48; (with_reducible refine (drayagelaw01_wrong.calls (⟨#[53, 195, 169]⟩ : ByteArray) 1 4 false _ A33.out).mono ?_); rintro e w52 ⟨rfl, hb⟩; replace HB := Aside0.mk (below_step bw_ hb); (try clear hb); (try clear hb2); (try clear hk); (try clear hi)))
        go_meet
        case rel => exact ⟨_, (false), fs_, H', ⟨by have := HJ0.out; first | omega | exact Nat.le_refl _⟩, ⟨bw_⟩⟩
      ·replace c32 := Bool.eq_false_iff.mpr c32
       subst c32
       have H1 : (drayagelaw01_works.j1 kj0 x1_0 false) = some r := by rw [if_neg (show ¬ (false = true) by decide)] at H; exact H
       clear H
       have H := H1
       clear H1
       have H' := Aside0.mk H
       clear H
       go_wp2_with (first | ((with_reducible refine gate_callee (f := 48) rfl ?_); refine goesL_ (some 38) rfl rfl Tryd.func48 (by kernel_rfl) rfl #[.string (⟨#[48, 55]⟩ : ByteArray), .int .i64 1, .int .i64 4] rfl ca_ ?_; (with_reducible refine (drayagelaw01_wrong.calls (⟨#[48, 55]⟩ : ByteArray) 1 4 true _ A27.out).mono ?_); rintro e w53 ⟨rfl, hb⟩; refine ⟨_, rfl, ?_⟩; replace HB := Aside0.mk (below_step bw_ hb); (try clear hb); (try clear hb2); (try clear hk); (try clear hi)) | (go_at_call 48; (with_reducible refine (drayagelaw01_wrong.calls (⟨#[49, 46]⟩ : ByteArray) 2 3 true _ A29.out).mono ?_); rintro e w54 ⟨rfl, hb⟩; replace HB := Aside0.mk (below_step bw_ hb); (try clear hb); (try clear hb2); (try clear hk); (try clear hi)) | (go_at_call 48; (with_reducible refine (drayagelaw01_wrong.calls (⟨#[50, 120]⟩ : ByteArray) 1 4 false _ A31.out).mono ?_); rintro e w55 ⟨rfl, hb⟩; replace HB := Aside0.mk (below_step bw_ hb); (try clear hb); (try clear hb2); (try clear hk); (try clear hi)))
       go_meet
       case rel => exact ⟨_, (false), fs_, H', ⟨by have := HJ0.out; first | omega | exact Nat.le_refl _⟩, ⟨bw_⟩⟩
     ·replace c30 := Bool.eq_false_iff.mpr c30
      subst c30
      have H1 : (drayagelaw01_works.j1 kj0 x1_0 false) = some r := by rw [if_neg (show ¬ (false = true) by decide)] at H; exact H
      clear H
      have H := H1
      clear H1
      have H' := Aside0.mk H
      clear H
      go_wp2_with (first | ((with_reducible refine gate_callee (f := 48) rfl ?_); refine goesL_ (some 38) rfl rfl Tryd.func48 (by kernel_rfl) rfl #[.string (⟨#[48, 55]⟩ : ByteArray), .int .i64 1, .int .i64 4] rfl ca_ ?_; (with_reducible refine (drayagelaw01_wrong.calls (⟨#[48, 55]⟩ : ByteArray) 1 4 true _ A27.out).mono ?_); rintro e w56 ⟨rfl, hb⟩; refine ⟨_, rfl, ?_⟩; replace HB := Aside0.mk (below_step bw_ hb); (try clear hb); (try clear hb2); (try clear hk); (try clear hi)) | (go_at_call 48; (with_reducible refine (drayagelaw01_wrong.calls (⟨#[49, 46]⟩ : ByteArray) 2 3 false _ A29.out).mono ?_); rintro e w57 ⟨rfl, hb⟩; replace HB := Aside0.mk (below_step bw_ hb); (try clear hb); (try clear hb2); (try clear hk); (try clear hi)))
      go_meet
      case rel => exact ⟨_, (false), fs_, H', ⟨by have := HJ0.out; first | omega | exact Nat.le_refl _⟩, ⟨bw_⟩⟩
    ·replace c28 := Bool.eq_false_iff.mpr c28
     subst c28
     have H1 : (drayagelaw01_works.j1 kj0 x1_0 false) = some r := by rw [if_neg (show ¬ (false = true) by decide)] at H; exact H
     clear H
     have H := H1
     clear H1
     have H' := Aside0.mk H
     clear H
     go_wp2_with (first | ((with_reducible refine gate_callee (f := 48) rfl ?_); refine goesL_ (some 38) rfl rfl Tryd.func48 (by kernel_rfl) rfl #[.string (⟨#[48, 55]⟩ : ByteArray), .int .i64 1, .int .i64 4] rfl ca_ ?_; (with_reducible refine (drayagelaw01_wrong.calls (⟨#[48, 55]⟩ : ByteArray) 1 4 false _ A27.out).mono ?_); rintro e w58 ⟨rfl, hb⟩; refine ⟨_, rfl, ?_⟩; replace HB := Aside0.mk (below_step bw_ hb); (try clear hb); (try clear hb2); (try clear hk); (try clear hi)))
     go_meet
     case rel => exact ⟨_, (false), fs_, H', ⟨by have := HJ0.out; first | omega | exact Nat.le_refl _⟩, ⟨bw_⟩⟩
   case rest =>
    clear HC26
    (try clear c1); (try clear c2); (try clear p2); (try clear c3); (try clear c4); (try clear c5); (try clear c7); (try clear c9); (try clear c15); (try clear c21); (try clear c28); (try clear c30); (try clear c32); (try clear c34); (try clear c36); (try clear c48); (try clear p2)
    obtain ⟨kq, x2_25, rfl, HA, HJ25, HB⟩ := hcut
    cases kq with
    | zero => exact absurd HA.out (by simp [drayagelaw01_works.j1])
    | succ kj25 =>
     have H := HA.out
     clear HA
     simp only [drayagelaw01_works.j1] at H
     replace H := Option.bind_eq_some_iff.mp H
     obtain ⟨⟨t184, t185, t186⟩, A590, H⟩ := H
     try dsimp only at H
     have A59 := Aside0.mk A590
     clear A590
     replace H := Option.bind_eq_some_iff.mp H
     obtain ⟨⟨t187, t188, t189⟩, A600, H⟩ := H
     try dsimp only at H
     have A60 := Aside0.mk A600
     clear A600
     replace H := Option.bind_eq_some_iff.mp H
     obtain ⟨⟨t190, t191, t192⟩, A610, H⟩ := H
     try dsimp only at H
     have A61 := Aside0.mk A610
     clear A610
     replace H := Option.bind_eq_some_iff.mp H
     obtain ⟨⟨t193, t194⟩, A620, H⟩ := H
     try dsimp only at H
     have A62 := Aside0.mk A620
     clear A620
     have HC63 := Aside0.mk H
     clear H
     go_upto_region 7 with (first | ((with_reducible refine gate_callee (f := 13) rfl ?_); refine goesL_ (some 55) rfl rfl Tryd.func13 (by kernel_rfl) rfl #[.string (⟨#[56, 53, 46, 53, 37]⟩ : ByteArray)] rfl ca_ ?_; (with_reducible refine (quant_Percent.calls (⟨#[56, 53, 46, 53, 37]⟩ : ByteArray) t184 t185 t186 _ A59.out).mono ?_); rintro e w64 ⟨rfl, hb⟩; refine ⟨_, rfl, ?_⟩; replace HB := Aside0.mk (below_step bw_ hb); (try clear hb); (try clear hb2); (try clear hk); (try clear hi)) | ((with_reducible refine gate_callee (f := 13) rfl ?_); refine goesL_ (some 60) rfl rfl Tryd.func13 (by kernel_rfl) rfl #[.string (⟨#[56, 53]⟩ : ByteArray)] rfl ca_ ?_; (with_reducible refine (quant_Percent.calls (⟨#[56, 53]⟩ : ByteArray) t187 t188 t189 _ A60.out).mono ?_); rintro e w65 ⟨rfl, hb⟩; refine ⟨_, rfl, ?_⟩; replace HB := Aside0.mk (below_step bw_ hb); (try clear hb); (try clear hb2); (try clear hk); (try clear hi)) | ((with_reducible refine gate_callee (f := 13) rfl ?_); refine goesL_ (some 65) rfl rfl Tryd.func13 (by kernel_rfl) rfl #[.string (⟨#[49, 48, 49, 37]⟩ : ByteArray)] rfl ca_ ?_; (with_reducible refine (quant_Percent.calls (⟨#[49, 48, 49, 37]⟩ : ByteArray) t190 t191 t192 _ A61.out).mono ?_); rintro e w66 ⟨rfl, hb⟩; refine ⟨_, rfl, ?_⟩; replace HB := Aside0.mk (below_step bw_ hb); (try clear hb); (try clear hb2); (try clear hk); (try clear hi)) | ((with_reducible refine gate_callee (f := 18) rfl ?_); refine goesL_ (some 70) rfl rfl Tryd.func18 (by kernel_rfl) rfl #[.int .i64 855] rfl ca_ ?_; (with_reducible refine (quant_PrintPercent.calls kj25 855 t193 t194 _ A62.out ?sideT_).mono ?_); (case sideT_ => first | exact hT_.out | exact hT_.out.up bw_); rintro e w67 ⟨rfl, hb⟩; refine ⟨_, rfl, ?_⟩; replace HB := Aside0.mk (below_step bw_ hb); (try clear hb); (try clear hb2); (try clear hk); (try clear hi)))
     (try simp only [Act.put, List.setIfInBounds_toArray, List.set_cons_zero, List.set_cons_succ])
     go_cut [14] (fun v14 wc => ∃ (kq : Nat) (x14_62 : Bool), v14 = .bool x14_62 ∧ Aside0 (drayagelaw01_works.j2 kq x1_0 x2_25 x14_62 = some r) ∧ Aside0 (kq ≤ kj25) ∧ Aside0 (Below w.heap.size w wc))
     case first =>
      have H := HC63.out
      clear HC63
      replace H := Option.bind_eq_some_iff.mp H
      obtain ⟨t195, A680, H⟩ := H
      try dsimp only at H
      have A68 := Aside0.mk A680
      clear A680
      by_cases c69 : t195 = true
      ·subst c69
       rw [if_pos rfl] at H
       replace H := Option.bind_eq_some_iff.mp H
       obtain ⟨t196, A700, H⟩ := H
       try dsimp only at H
       have A70 := Aside0.mk A700
       clear A700
       by_cases c71 : t196 = true
       ·subst c71
        rw [if_pos rfl] at H
        replace H := Option.bind_eq_some_iff.mp H
        obtain ⟨t197, A720, H⟩ := H
        try dsimp only at H
        have A72 := Aside0.mk A720
        clear A720
        by_cases c73 : t197 = true
        ·subst c73
         rw [if_pos rfl] at H
         by_cases c74 : t184 = 855
         ·rw [if_pos c74] at H
          have c74b0 : (t184 == 855) = true := beq_iff_eq.mpr c74
          have c74b1 : (t184 != 855) = false := bne_eq_false_iff_eq.mpr c74
          clear c74
          (first | rw [c74b0] | (simp only [i64_w, i32_w]; rw [c74b0]) | skip)
          by_cases c75 : t186 = 0
          ·rw [if_pos c75] at H
           have c75b0 : (t186 == 0) = true := beq_iff_eq.mpr c75
           have c75b1 : (t186 != 0) = false := bne_eq_false_iff_eq.mpr c75
           clear c75
           by_cases c76 : t188 = 2
           ·rw [if_pos c76] at H
            have c76b0 : (t188 == 2) = true := beq_iff_eq.mpr c76
            have c76b1 : (t188 != 2) = false := bne_eq_false_iff_eq.mpr c76
            clear c76
            by_cases c77 : t189 = 3
            ·rw [if_pos c77] at H
             have c77b0 : (t189 == 3) = true := beq_iff_eq.mpr c77
             have c77b1 : (t189 != 3) = false := bne_eq_false_iff_eq.mpr c77
             clear c77
             by_cases c78 : t192 = 10
             ·rw [if_pos c78] at H
              have c78b0 : (t192 == 10) = true := beq_iff_eq.mpr c78
              have c78b1 : (t192 != 10) = false := bne_eq_false_iff_eq.mpr c78
              clear c78
              by_cases c79 : t193.toList = ([56, 53, 46, 53, 37] : List UInt8)
              ·rw [if_pos c79] at H
               have c79b0 : (t193.toList == ([56, 53, 46, 53, 37] : List UInt8)) = true := beq_iff_eq.mpr c79
               have c79b1 : (t193.toList != ([56, 53, 46, 53, 37] : List UInt8)) = false := bne_eq_false_iff_eq.mpr c79
               clear c79
               have H' := Aside0.mk H
               clear H
               go_wp2_with (first | ((with_reducible refine gate_callee (f := 49) rfl ?_); refine goesL_ (some 73) rfl rfl Tryd.func49 (by kernel_rfl) rfl #[.int .i64 1500, .bool true, .string (⟨#[49, 53, 48, 48, 109]⟩ : ByteArray)] rfl ca_ ?_; (with_reducible refine (drayagelaw01_prints.calls kj25 1500 true (⟨#[49, 53, 48, 48, 109]⟩ : ByteArray) true _ A68.out ?sideT_).mono ?_); (case sideT_ => first | exact hT_.out | exact hT_.out.up bw_); rintro e w80 ⟨rfl, hb⟩; refine ⟨_, rfl, ?_⟩; replace HB := Aside0.mk (below_step bw_ hb); (try clear hb); (try clear hb2); (try clear hk); (try clear hi)) | (go_at_call 49; (with_reducible refine (drayagelaw01_prints.calls kj25 3072 false (⟨#[51, 75, 105]⟩ : ByteArray) true _ A70.out ?sideT_).mono ?_); (case sideT_ => first | exact hT_.out | exact hT_.out.up bw_); rintro e w81 ⟨rfl, hb⟩; replace HB := Aside0.mk (below_step bw_ hb); (try clear hb); (try clear hb2); (try clear hk); (try clear hi)) | (go_at_call 49; (with_reducible refine (drayagelaw01_prints.calls kj25 0 false (⟨#[48]⟩ : ByteArray) true _ A72.out ?sideT_).mono ?_); (case sideT_ => first | exact hT_.out | exact hT_.out.up bw_); rintro e w82 ⟨rfl, hb⟩; replace HB := Aside0.mk (below_step bw_ hb); (try clear hb); (try clear hb2); (try clear hk); (try clear hi)))
               go_meet
               case rel => exact ⟨_, ((t194 == 0)), fs_, H', ⟨by have := HJ0.out; have := HJ25.out; first | omega | exact Nat.le_refl _⟩, ⟨bw_⟩⟩
              ·rw [if_neg c79] at H
               have c79b0 : (t193.toList == ([56, 53, 46, 53, 37] : List UInt8)) = false := beq_eq_false_iff_ne.mpr c79
               have c79b1 : (t193.toList != ([56, 53, 46, 53, 37] : List UInt8)) = true := bne_iff_ne.mpr c79
               have H' := Aside0.mk H
               clear H
               go_wp2_with (first | ((with_reducible refine gate_callee (f := 49) rfl ?_); refine goesL_ (some 73) rfl rfl Tryd.func49 (by kernel_rfl) rfl #[.int .i64 1500, .bool true, .string (⟨#[49, 53, 48, 48, 109]⟩ : ByteArray)] rfl ca_ ?_; (with_reducible refine (drayagelaw01_prints.calls kj25 1500 true (⟨#[49, 53, 48, 48, 109]⟩ : ByteArray) true _ A68.out ?sideT_).mono ?_); (case sideT_ => first | exact hT_.out | exact hT_.out.up bw_); rintro e w83 ⟨rfl, hb⟩; refine ⟨_, rfl, ?_⟩; replace HB := Aside0.mk (below_step bw_ hb); (try clear hb); (try clear hb2); (try clear hk); (try clear hi)) | (go_at_call 49; (with_reducible refine (drayagelaw01_prints.calls kj25 3072 false (⟨#[51, 75, 105]⟩ : ByteArray) true _ A70.out ?sideT_).mono ?_); (case sideT_ => first | exact hT_.out | exact hT_.out.up bw_); rintro e w84 ⟨rfl, hb⟩; replace HB := Aside0.mk (below_step bw_ hb); (try clear hb); (try clear hb2); (try clear hk); (try clear hi)) | (go_at_call 49; (with_reducible refine (drayagelaw01_prints.calls kj25 0 false (⟨#[48]⟩ : ByteArray) true _ A72.out ?sideT_).mono ?_); (case sideT_ => first | exact hT_.out | exact hT_.out.up bw_); rintro e w85 ⟨rfl, hb⟩; replace HB := Aside0.mk (below_step bw_ hb); (try clear hb); (try clear hb2); (try clear hk); (try clear hi)))
               go_meet
               case rel => exact ⟨_, (false), fs_, H', ⟨by have := HJ0.out; have := HJ25.out; first | omega | exact Nat.le_refl _⟩, ⟨bw_⟩⟩
             ·rw [if_neg c78] at H
              have c78b0 : (t192 == 10) = false := beq_eq_false_iff_ne.mpr c78
              have c78b1 : (t192 != 10) = true := bne_iff_ne.mpr c78
              have H' := Aside0.mk H
              clear H
              go_wp2_with (first | ((with_reducible refine gate_callee (f := 49) rfl ?_); refine goesL_ (some 73) rfl rfl Tryd.func49 (by kernel_rfl) rfl #[.int .i64 1500, .bool true, .string (⟨#[49, 53, 48, 48, 109]⟩ : ByteArray)] rfl ca_ ?_; (with_reducible refine (drayagelaw01_prints.calls kj25 1500 true (⟨#[49, 53, 48, 48, 109]⟩ : ByteArray) true _ A68.out ?sideT_).mono ?_); (case sideT_ => first | exact hT_.out | exact hT_.out.up bw_); rintro e w86 ⟨rfl, hb⟩; refine ⟨_, rfl, ?_⟩; replace HB := Aside0.mk (below_step bw_ hb); (try clear hb); (try clear hb2); (try clear hk); (try clear hi)) | (go_at_call 49; (with_reducible refine (drayagelaw01_prints.calls kj25 3072 false (⟨#[51, 75, 105]⟩ : ByteArray) true _ A70.out ?sideT_).mono ?_); (case sideT_ => first | exact hT_.out | exact hT_.out.up bw_); rintro e w87 ⟨rfl, hb⟩; replace HB := Aside0.mk (below_step bw_ hb); (try clear hb); (try clear hb2); (try clear hk); (try clear hi)) | (go_at_call 49; (with_reducible refine (drayagelaw01_prints.calls kj25 0 false (⟨#[48]⟩ : ByteArray) true _ A72.out ?sideT_).mono ?_); (case sideT_ => first | exact hT_.out | exact hT_.out.up bw_); rintro e w88 ⟨rfl, hb⟩; replace HB := Aside0.mk (below_step bw_ hb); (try clear hb); (try clear hb2); (try clear hk); (try clear hi)))
              go_meet
              case rel => exact ⟨_, (false), fs_, H', ⟨by have := HJ0.out; have := HJ25.out; first | omega | exact Nat.le_refl _⟩, ⟨bw_⟩⟩
            ·rw [if_neg c77] at H
             have c77b0 : (t189 == 3) = false := beq_eq_false_iff_ne.mpr c77
             have c77b1 : (t189 != 3) = true := bne_iff_ne.mpr c77
             have H' := Aside0.mk H
             clear H
             go_wp2_with (first | ((with_reducible refine gate_callee (f := 49) rfl ?_); refine goesL_ (some 73) rfl rfl Tryd.func49 (by kernel_rfl) rfl #[.int .i64 1500, .bool true, .string (⟨#[49, 53, 48, 48, 109]⟩ : ByteArray)] rfl ca_ ?_; (with_reducible refine (drayagelaw01_prints.calls kj25 1500 true (⟨#[49, 53, 48, 48, 109]⟩ : ByteArray) true _ A68.out ?sideT_).mono ?_); (case sideT_ => first | exact hT_.out | exact hT_.out.up bw_); rintro e w89 ⟨rfl, hb⟩; refine ⟨_, rfl, ?_⟩; replace HB := Aside0.mk (below_step bw_ hb); (try clear hb); (try clear hb2); (try clear hk); (try clear hi)) | (go_at_call 49; (with_reducible refine (drayagelaw01_prints.calls kj25 3072 false (⟨#[51, 75, 105]⟩ : ByteArray) true _ A70.out ?sideT_).mono ?_); (case sideT_ => first | exact hT_.out | exact hT_.out.up bw_); rintro e w90 ⟨rfl, hb⟩; replace HB := Aside0.mk (below_step bw_ hb); (try clear hb); (try clear hb2); (try clear hk); (try clear hi)) | (go_at_call 49; (with_reducible refine (drayagelaw01_prints.calls kj25 0 false (⟨#[48]⟩ : ByteArray) true _ A72.out ?sideT_).mono ?_); (case sideT_ => first | exact hT_.out | exact hT_.out.up bw_); rintro e w91 ⟨rfl, hb⟩; replace HB := Aside0.mk (below_step bw_ hb); (try clear hb); (try clear hb2); (try clear hk); (try clear hi)))
             go_meet
             case rel => exact ⟨_, (false), fs_, H', ⟨by have := HJ0.out; have := HJ25.out; first | omega | exact Nat.le_refl _⟩, ⟨bw_⟩⟩
           ·rw [if_neg c76] at H
            have c76b0 : (t188 == 2) = false := beq_eq_false_iff_ne.mpr c76
            have c76b1 : (t188 != 2) = true := bne_iff_ne.mpr c76
            have H' := Aside0.mk H
            clear H
            go_wp2_with (first | ((with_reducible refine gate_callee (f := 49) rfl ?_); refine goesL_ (some 73) rfl rfl Tryd.func49 (by kernel_rfl) rfl #[.int .i64 1500, .bool true, .string (⟨#[49, 53, 48, 48, 109]⟩ : ByteArray)] rfl ca_ ?_; (with_reducible refine (drayagelaw01_prints.calls kj25 1500 true (⟨#[49, 53, 48, 48, 109]⟩ : ByteArray) true _ A68.out ?sideT_).mono ?_); (case sideT_ => first | exact hT_.out | exact hT_.out.up bw_); rintro e w92 ⟨rfl, hb⟩; refine ⟨_, rfl, ?_⟩; replace HB := Aside0.mk (below_step bw_ hb); (try clear hb); (try clear hb2); (try clear hk); (try clear hi)) | (go_at_call 49; (with_reducible refine (drayagelaw01_prints.calls kj25 3072 false (⟨#[51, 75, 105]⟩ : ByteArray) true _ A70.out ?sideT_).mono ?_); (case sideT_ => first | exact hT_.out | exact hT_.out.up bw_); rintro e w93 ⟨rfl, hb⟩; replace HB := Aside0.mk (below_step bw_ hb); (try clear hb); (try clear hb2); (try clear hk); (try clear hi)) | (go_at_call 49; (with_reducible refine (drayagelaw01_prints.calls kj25 0 false (⟨#[48]⟩ : ByteArray) true _ A72.out ?sideT_).mono ?_); (case sideT_ => first | exact hT_.out | exact hT_.out.up bw_); rintro e w94 ⟨rfl, hb⟩; replace HB := Aside0.mk (below_step bw_ hb); (try clear hb); (try clear hb2); (try clear hk); (try clear hi)))
            go_meet
            case rel => exact ⟨_, (false), fs_, H', ⟨by have := HJ0.out; have := HJ25.out; first | omega | exact Nat.le_refl _⟩, ⟨bw_⟩⟩
          ·rw [if_neg c75] at H
           have c75b0 : (t186 == 0) = false := beq_eq_false_iff_ne.mpr c75
           have c75b1 : (t186 != 0) = true := bne_iff_ne.mpr c75
           have H' := Aside0.mk H
           clear H
           go_wp2_with (first | ((with_reducible refine gate_callee (f := 49) rfl ?_); refine goesL_ (some 73) rfl rfl Tryd.func49 (by kernel_rfl) rfl #[.int .i64 1500, .bool true, .string (⟨#[49, 53, 48, 48, 109]⟩ : ByteArray)] rfl ca_ ?_; (with_reducible refine (drayagelaw01_prints.calls kj25 1500 true (⟨#[49, 53, 48, 48, 109]⟩ : ByteArray) true _ A68.out ?sideT_).mono ?_); (case sideT_ => first | exact hT_.out | exact hT_.out.up bw_); rintro e w95 ⟨rfl, hb⟩; refine ⟨_, rfl, ?_⟩; replace HB := Aside0.mk (below_step bw_ hb); (try clear hb); (try clear hb2); (try clear hk); (try clear hi)) | (go_at_call 49; (with_reducible refine (drayagelaw01_prints.calls kj25 3072 false (⟨#[51, 75, 105]⟩ : ByteArray) true _ A70.out ?sideT_).mono ?_); (case sideT_ => first | exact hT_.out | exact hT_.out.up bw_); rintro e w96 ⟨rfl, hb⟩; replace HB := Aside0.mk (below_step bw_ hb); (try clear hb); (try clear hb2); (try clear hk); (try clear hi)) | (go_at_call 49; (with_reducible refine (drayagelaw01_prints.calls kj25 0 false (⟨#[48]⟩ : ByteArray) true _ A72.out ?sideT_).mono ?_); (case sideT_ => first | exact hT_.out | exact hT_.out.up bw_); rintro e w97 ⟨rfl, hb⟩; replace HB := Aside0.mk (below_step bw_ hb); (try clear hb); (try clear hb2); (try clear hk); (try clear hi)))
           go_meet
           case rel => exact ⟨_, (false), fs_, H', ⟨by have := HJ0.out; have := HJ25.out; first | omega | exact Nat.le_refl _⟩, ⟨bw_⟩⟩
         ·rw [if_neg c74] at H
          have c74b0 : (t184 == 855) = false := beq_eq_false_iff_ne.mpr c74
          have c74b1 : (t184 != 855) = true := bne_iff_ne.mpr c74
          (first | rw [c74b0] | (simp only [i64_w, i32_w]; rw [c74b0]) | skip)
          have H' := Aside0.mk H
          clear H
          go_wp2_with (first | ((with_reducible refine gate_callee (f := 49) rfl ?_); refine goesL_ (some 73) rfl rfl Tryd.func49 (by kernel_rfl) rfl #[.int .i64 1500, .bool true, .string (⟨#[49, 53, 48, 48, 109]⟩ : ByteArray)] rfl ca_ ?_; (with_reducible refine (drayagelaw01_prints.calls kj25 1500 true (⟨#[49, 53, 48, 48, 109]⟩ : ByteArray) true _ A68.out ?sideT_).mono ?_); (case sideT_ => first | exact hT_.out | exact hT_.out.up bw_); rintro e w98 ⟨rfl, hb⟩; refine ⟨_, rfl, ?_⟩; replace HB := Aside0.mk (below_step bw_ hb); (try clear hb); (try clear hb2); (try clear hk); (try clear hi)) | (go_at_call 49; (with_reducible refine (drayagelaw01_prints.calls kj25 3072 false (⟨#[51, 75, 105]⟩ : ByteArray) true _ A70.out ?sideT_).mono ?_); (case sideT_ => first | exact hT_.out | exact hT_.out.up bw_); rintro e w99 ⟨rfl, hb⟩; replace HB := Aside0.mk (below_step bw_ hb); (try clear hb); (try clear hb2); (try clear hk); (try clear hi)) | (go_at_call 49; (with_reducible refine (drayagelaw01_prints.calls kj25 0 false (⟨#[48]⟩ : ByteArray) true _ A72.out ?sideT_).mono ?_); (case sideT_ => first | exact hT_.out | exact hT_.out.up bw_); rintro e w100 ⟨rfl, hb⟩; replace HB := Aside0.mk (below_step bw_ hb); (try clear hb); (try clear hb2); (try clear hk); (try clear hi)))
          go_meet
          case rel => exact ⟨_, (false), fs_, H', ⟨by have := HJ0.out; have := HJ25.out; first | omega | exact Nat.le_refl _⟩, ⟨bw_⟩⟩
        ·replace c73 := Bool.eq_false_iff.mpr c73
         subst c73
         have H1 : (drayagelaw01_works.j2 kj25 x1_0 x2_25 false) = some r := by rw [if_neg (show ¬ (false = true) by decide)] at H; exact H
         clear H
         have H := H1
         clear H1
         have H' := Aside0.mk H
         clear H
         go_wp2_with (first | ((with_reducible refine gate_callee (f := 49) rfl ?_); refine goesL_ (some 73) rfl rfl Tryd.func49 (by kernel_rfl) rfl #[.int .i64 1500, .bool true, .string (⟨#[49, 53, 48, 48, 109]⟩ : ByteArray)] rfl ca_ ?_; (with_reducible refine (drayagelaw01_prints.calls kj25 1500 true (⟨#[49, 53, 48, 48, 109]⟩ : ByteArray) true _ A68.out ?sideT_).mono ?_); (case sideT_ => first | exact hT_.out | exact hT_.out.up bw_); rintro e w101 ⟨rfl, hb⟩; refine ⟨_, rfl, ?_⟩; replace HB := Aside0.mk (below_step bw_ hb); (try clear hb); (try clear hb2); (try clear hk); (try clear hi)) | (go_at_call 49; (with_reducible refine (drayagelaw01_prints.calls kj25 3072 false (⟨#[51, 75, 105]⟩ : ByteArray) true _ A70.out ?sideT_).mono ?_); (case sideT_ => first | exact hT_.out | exact hT_.out.up bw_); rintro e w102 ⟨rfl, hb⟩; replace HB := Aside0.mk (below_step bw_ hb); (try clear hb); (try clear hb2); (try clear hk); (try clear hi)) | (go_at_call 49; (with_reducible refine (drayagelaw01_prints.calls kj25 0 false (⟨#[48]⟩ : ByteArray) false _ A72.out ?sideT_).mono ?_); (case sideT_ => first | exact hT_.out | exact hT_.out.up bw_); rintro e w103 ⟨rfl, hb⟩; replace HB := Aside0.mk (below_step bw_ hb); (try clear hb); (try clear hb2); (try clear hk); (try clear hi)))
         go_meet
         case rel => exact ⟨_, (false), fs_, H', ⟨by have := HJ0.out; have := HJ25.out; first | omega | exact Nat.le_refl _⟩, ⟨bw_⟩⟩
       ·replace c71 := Bool.eq_false_iff.mpr c71
        subst c71
        have H1 : (drayagelaw01_works.j2 kj25 x1_0 x2_25 false) = some r := by rw [if_neg (show ¬ (false = true) by decide)] at H; exact H
        clear H
        have H := H1
        clear H1
        have H' := Aside0.mk H
        clear H
        go_wp2_with (first | ((with_reducible refine gate_callee (f := 49) rfl ?_); refine goesL_ (some 73) rfl rfl Tryd.func49 (by kernel_rfl) rfl #[.int .i64 1500, .bool true, .string (⟨#[49, 53, 48, 48, 109]⟩ : ByteArray)] rfl ca_ ?_; (with_reducible refine (drayagelaw01_prints.calls kj25 1500 true (⟨#[49, 53, 48, 48, 109]⟩ : ByteArray) true _ A68.out ?sideT_).mono ?_); (case sideT_ => first | exact hT_.out | exact hT_.out.up bw_); rintro e w104 ⟨rfl, hb⟩; refine ⟨_, rfl, ?_⟩; replace HB := Aside0.mk (below_step bw_ hb); (try clear hb); (try clear hb2); (try clear hk); (try clear hi)) | (go_at_call 49; (with_reducible refine (drayagelaw01_prints.calls kj25 3072 false (⟨#[51, 75, 105]⟩ : ByteArray) false _ A70.out ?sideT_).mono ?_); (case sideT_ => first | exact hT_.out | exact hT_.out.up bw_); rintro e w105 ⟨rfl, hb⟩; replace HB := Aside0.mk (below_step bw_ hb); (try clear hb); (try clear hb2); (try clear hk); (try clear hi)))
        go_meet
        case rel => exact ⟨_, (false), fs_, H', ⟨by have := HJ0.out; have := HJ25.out; first | omega | exact Nat.le_refl _⟩, ⟨bw_⟩⟩
      ·replace c69 := Bool.eq_false_iff.mpr c69
       subst c69
       have H1 : (drayagelaw01_works.j2 kj25 x1_0 x2_25 false) = some r := by rw [if_neg (show ¬ (false = true) by decide)] at H; exact H
       clear H
       have H := H1
       clear H1
       have H' := Aside0.mk H
       clear H
       go_wp2_with (first | ((with_reducible refine gate_callee (f := 49) rfl ?_); refine goesL_ (some 73) rfl rfl Tryd.func49 (by kernel_rfl) rfl #[.int .i64 1500, .bool true, .string (⟨#[49, 53, 48, 48, 109]⟩ : ByteArray)] rfl ca_ ?_; (with_reducible refine (drayagelaw01_prints.calls kj25 1500 true (⟨#[49, 53, 48, 48, 109]⟩ : ByteArray) false _ A68.out ?sideT_).mono ?_); (case sideT_ => first | exact hT_.out | exact hT_.out.up bw_); rintro e w106 ⟨rfl, hb⟩; refine ⟨_, rfl, ?_⟩; replace HB := Aside0.mk (below_step bw_ hb); (try clear hb); (try clear hb2); (try clear hk); (try clear hi)))
       go_meet
       case rel => exact ⟨_, (false), fs_, H', ⟨by have := HJ0.out; have := HJ25.out; first | omega | exact Nat.le_refl _⟩, ⟨bw_⟩⟩
     case rest =>
      clear HC63
      (try clear c1); (try clear c2); (try clear p2); (try clear c3); (try clear c4); (try clear c5); (try clear c6); (try clear c7); (try clear c9); (try clear c13); (try clear c15); (try clear c18); (try clear c21); (try clear c28); (try clear c30); (try clear c32); (try clear c34); (try clear c36); (try clear c48); (try clear c49); (try clear c69); (try clear c71); (try clear c73); (try clear c74); (try clear c74b0); (try clear c74b1); (try clear c75); (try clear c75b0); (try clear c75b1); (try clear c76); (try clear c76b0); (try clear c76b1); (try clear c77); (try clear c77b0); (try clear c77b1); (try clear c78); (try clear c78b0); (try clear c78b1); (try clear c79); (try clear c79b0); (try clear c79b1); (try clear p2)
      obtain ⟨kq, x14_62, rfl, HA, HJ62, HB⟩ := hcut
      cases kq with
      | zero => exact absurd HA.out (by simp [drayagelaw01_works.j2])
      | succ kj62 =>
       have H := HA.out
       clear HA
       simp only [drayagelaw01_works.j2] at H
       replace H := Option.bind_eq_some_iff.mp H
       obtain ⟨⟨t198, t199⟩, A1070, H⟩ := H
       try dsimp only at H
       have A107 := Aside0.mk A1070
       clear A1070
       replace H := Option.bind_eq_some_iff.mp H
       obtain ⟨⟨t200, t201⟩, A1080, H⟩ := H
       try dsimp only at H
       have A108 := Aside0.mk A1080
       clear A1080
       replace H := Option.bind_eq_some_iff.mp H
       obtain ⟨⟨t202, t203⟩, A1090, H⟩ := H
       try dsimp only at H
       have A109 := Aside0.mk A1090
       clear A1090
       replace H := Option.bind_eq_some_iff.mp H
       obtain ⟨⟨t204, t205⟩, A1100, H⟩ := H
       try dsimp only at H
       have A110 := Aside0.mk A1100
       clear A1100
       replace H := Option.bind_eq_some_iff.mp H
       obtain ⟨⟨t206, t207⟩, A1110, H⟩ := H
       try dsimp only at H
       have A111 := Aside0.mk A1110
       clear A1110
       by_cases c112 : x1_0 = true
       ·subst c112
        rw [if_pos rfl] at H
        by_cases c113 : x2_25 = true
        ·subst c113
         rw [if_pos rfl] at H
         by_cases c114 : x14_62 = true
         ·subst c114
          rw [if_pos rfl] at H
          by_cases c115 : t198 = 333
          ·rw [if_pos c115] at H
           have c115b0 : (t198 == 333) = true := beq_iff_eq.mpr c115
           have c115b1 : (t198 != 333) = false := bne_eq_false_iff_eq.mpr c115
           clear c115
           by_cases c116 : t199 = 0
           ·rw [if_pos c116] at H
            have c116b0 : (t199 == 0) = true := beq_iff_eq.mpr c116
            have c116b1 : (t199 != 0) = false := bne_eq_false_iff_eq.mpr c116
            clear c116
            by_cases c117 : t200 = 0
            ·rw [if_pos c117] at H
             have c117b0 : (t200 == 0) = true := beq_iff_eq.mpr c117
             have c117b1 : (t200 != 0) = false := bne_eq_false_iff_eq.mpr c117
             clear c117
             by_cases c118 : t201 = 0
             ·rw [if_pos c118] at H
              have c118b0 : (t201 == 0) = true := beq_iff_eq.mpr c118
              have c118b1 : (t201 != 0) = false := bne_eq_false_iff_eq.mpr c118
              clear c118
              by_cases c119 : t203 = 2
              ·rw [if_pos c119] at H
               have c119b0 : (t203 == 2) = true := beq_iff_eq.mpr c119
               have c119b1 : (t203 != 2) = false := bne_eq_false_iff_eq.mpr c119
               clear c119
               by_cases c120 : t205 = 2
               ·rw [if_pos c120] at H
                have c120b0 : (t205 == 2) = true := beq_iff_eq.mpr c120
                have c120b1 : (t205 != 2) = false := bne_eq_false_iff_eq.mpr c120
                clear c120
                obtain rfl := Option.some.inj H
                go_wp2_with (first | ((with_reducible refine gate_callee (f := 29) rfl ?_); refine goesL_ (some 109) rfl rfl Tryd.func29 (by kernel_rfl) rfl #[.int .i64 1, .int .i64 3] rfl ca_ ?_; (with_reducible refine (quant_Share.calls kj62 1 3 t198 t199 _ A107.out).mono ?_); rintro e w121 ⟨rfl, hb⟩; refine ⟨_, rfl, ?_⟩; replace HB := Aside0.mk (below_step bw_ hb); (try clear hb); (try clear hb2); (try clear hk); (try clear hi)) | ((with_reducible refine gate_callee (f := 29) rfl ?_); refine goesL_ (some 113) rfl rfl Tryd.func29 (by kernel_rfl) rfl #[.int .i64 0, .int .i64 0] rfl ca_ ?_; (with_reducible refine (quant_Share.calls kj62 0 0 t200 t201 _ A108.out).mono ?_); rintro e w122 ⟨rfl, hb⟩; refine ⟨_, rfl, ?_⟩; replace HB := Aside0.mk (below_step bw_ hb); (try clear hb); (try clear hb2); (try clear hk); (try clear hi)) | ((with_reducible refine gate_callee (f := 29) rfl ?_); refine goesL_ (some 117) rfl rfl Tryd.func29 (by kernel_rfl) rfl #[.int .i64 1, .int .i64 0] rfl ca_ ?_; (with_reducible refine (quant_Share.calls kj62 1 0 t202 t203 _ A109.out).mono ?_); rintro e w123 ⟨rfl, hb⟩; refine ⟨_, rfl, ?_⟩; replace HB := Aside0.mk (below_step bw_ hb); (try clear hb); (try clear hb2); (try clear hk); (try clear hi)) | ((with_reducible refine gate_callee (f := 25) rfl ?_); refine goesL_ (some 121) rfl rfl Tryd.func25 (by kernel_rfl) rfl #[.int .i64 2, .int .i64 3] rfl ca_ ?_; (with_reducible refine (quant_Sub.calls 2 3 t204 t205 _ A110.out).mono ?_); rintro e w124 ⟨rfl, hb⟩; refine ⟨_, rfl, ?_⟩; replace HB := Aside0.mk (below_step bw_ hb); (try clear hb); (try clear hb2); (try clear hk); (try clear hi)) | ((with_reducible refine gate_callee (f := 27) rfl ?_); refine goesL_ (some 125) rfl rfl Tryd.func27 (by kernel_rfl) rfl #[.int .i64 1048576, .int .i64 2097152] rfl ca_ ?_; (with_reducible refine (quant_Mul.calls 1048576 2097152 t206 t207 _ A111.out).mono ?_); rintro e w125 ⟨rfl, hb⟩; refine ⟨_, rfl, ?_⟩; replace HB := Aside0.mk (below_step bw_ hb); (try clear hb); (try clear hb2); (try clear hk); (try clear hi)))
                go_ret
                exact ⟨fi_, bw_⟩
               ·rw [if_neg c120] at H
                have c120b0 : (t205 == 2) = false := beq_eq_false_iff_ne.mpr c120
                have c120b1 : (t205 != 2) = true := bne_iff_ne.mpr c120
                obtain rfl := Option.some.inj H
                go_wp2_with (first | ((with_reducible refine gate_callee (f := 29) rfl ?_); refine goesL_ (some 109) rfl rfl Tryd.func29 (by kernel_rfl) rfl #[.int .i64 1, .int .i64 3] rfl ca_ ?_; (with_reducible refine (quant_Share.calls kj62 1 3 t198 t199 _ A107.out).mono ?_); rintro e w126 ⟨rfl, hb⟩; refine ⟨_, rfl, ?_⟩; replace HB := Aside0.mk (below_step bw_ hb); (try clear hb); (try clear hb2); (try clear hk); (try clear hi)) | ((with_reducible refine gate_callee (f := 29) rfl ?_); refine goesL_ (some 113) rfl rfl Tryd.func29 (by kernel_rfl) rfl #[.int .i64 0, .int .i64 0] rfl ca_ ?_; (with_reducible refine (quant_Share.calls kj62 0 0 t200 t201 _ A108.out).mono ?_); rintro e w127 ⟨rfl, hb⟩; refine ⟨_, rfl, ?_⟩; replace HB := Aside0.mk (below_step bw_ hb); (try clear hb); (try clear hb2); (try clear hk); (try clear hi)) | ((with_reducible refine gate_callee (f := 29) rfl ?_); refine goesL_ (some 117) rfl rfl Tryd.func29 (by kernel_rfl) rfl #[.int .i64 1, .int .i64 0] rfl ca_ ?_; (with_reducible refine (quant_Share.calls kj62 1 0 t202 t203 _ A109.out).mono ?_); rintro e w128 ⟨rfl, hb⟩; refine ⟨_, rfl, ?_⟩; replace HB := Aside0.mk (below_step bw_ hb); (try clear hb); (try clear hb2); (try clear hk); (try clear hi)) | ((with_reducible refine gate_callee (f := 25) rfl ?_); refine goesL_ (some 121) rfl rfl Tryd.func25 (by kernel_rfl) rfl #[.int .i64 2, .int .i64 3] rfl ca_ ?_; (with_reducible refine (quant_Sub.calls 2 3 t204 t205 _ A110.out).mono ?_); rintro e w129 ⟨rfl, hb⟩; refine ⟨_, rfl, ?_⟩; replace HB := Aside0.mk (below_step bw_ hb); (try clear hb); (try clear hb2); (try clear hk); (try clear hi)) | ((with_reducible refine gate_callee (f := 27) rfl ?_); refine goesL_ (some 125) rfl rfl Tryd.func27 (by kernel_rfl) rfl #[.int .i64 1048576, .int .i64 2097152] rfl ca_ ?_; (with_reducible refine (quant_Mul.calls 1048576 2097152 t206 t207 _ A111.out).mono ?_); rintro e w130 ⟨rfl, hb⟩; refine ⟨_, rfl, ?_⟩; replace HB := Aside0.mk (below_step bw_ hb); (try clear hb); (try clear hb2); (try clear hk); (try clear hi)))
                go_ret
                exact ⟨fi_, bw_⟩
              ·rw [if_neg c119] at H
               have c119b0 : (t203 == 2) = false := beq_eq_false_iff_ne.mpr c119
               have c119b1 : (t203 != 2) = true := bne_iff_ne.mpr c119
               obtain rfl := Option.some.inj H
               go_wp2_with (first | ((with_reducible refine gate_callee (f := 29) rfl ?_); refine goesL_ (some 109) rfl rfl Tryd.func29 (by kernel_rfl) rfl #[.int .i64 1, .int .i64 3] rfl ca_ ?_; (with_reducible refine (quant_Share.calls kj62 1 3 t198 t199 _ A107.out).mono ?_); rintro e w131 ⟨rfl, hb⟩; refine ⟨_, rfl, ?_⟩; replace HB := Aside0.mk (below_step bw_ hb); (try clear hb); (try clear hb2); (try clear hk); (try clear hi)) | ((with_reducible refine gate_callee (f := 29) rfl ?_); refine goesL_ (some 113) rfl rfl Tryd.func29 (by kernel_rfl) rfl #[.int .i64 0, .int .i64 0] rfl ca_ ?_; (with_reducible refine (quant_Share.calls kj62 0 0 t200 t201 _ A108.out).mono ?_); rintro e w132 ⟨rfl, hb⟩; refine ⟨_, rfl, ?_⟩; replace HB := Aside0.mk (below_step bw_ hb); (try clear hb); (try clear hb2); (try clear hk); (try clear hi)) | ((with_reducible refine gate_callee (f := 29) rfl ?_); refine goesL_ (some 117) rfl rfl Tryd.func29 (by kernel_rfl) rfl #[.int .i64 1, .int .i64 0] rfl ca_ ?_; (with_reducible refine (quant_Share.calls kj62 1 0 t202 t203 _ A109.out).mono ?_); rintro e w133 ⟨rfl, hb⟩; refine ⟨_, rfl, ?_⟩; replace HB := Aside0.mk (below_step bw_ hb); (try clear hb); (try clear hb2); (try clear hk); (try clear hi)) | ((with_reducible refine gate_callee (f := 25) rfl ?_); refine goesL_ (some 121) rfl rfl Tryd.func25 (by kernel_rfl) rfl #[.int .i64 2, .int .i64 3] rfl ca_ ?_; (with_reducible refine (quant_Sub.calls 2 3 t204 t205 _ A110.out).mono ?_); rintro e w134 ⟨rfl, hb⟩; refine ⟨_, rfl, ?_⟩; replace HB := Aside0.mk (below_step bw_ hb); (try clear hb); (try clear hb2); (try clear hk); (try clear hi)) | ((with_reducible refine gate_callee (f := 27) rfl ?_); refine goesL_ (some 125) rfl rfl Tryd.func27 (by kernel_rfl) rfl #[.int .i64 1048576, .int .i64 2097152] rfl ca_ ?_; (with_reducible refine (quant_Mul.calls 1048576 2097152 t206 t207 _ A111.out).mono ?_); rintro e w135 ⟨rfl, hb⟩; refine ⟨_, rfl, ?_⟩; replace HB := Aside0.mk (below_step bw_ hb); (try clear hb); (try clear hb2); (try clear hk); (try clear hi)))
               go_ret
               exact ⟨fi_, bw_⟩
             ·rw [if_neg c118] at H
              have c118b0 : (t201 == 0) = false := beq_eq_false_iff_ne.mpr c118
              have c118b1 : (t201 != 0) = true := bne_iff_ne.mpr c118
              obtain rfl := Option.some.inj H
              go_wp2_with (first | ((with_reducible refine gate_callee (f := 29) rfl ?_); refine goesL_ (some 109) rfl rfl Tryd.func29 (by kernel_rfl) rfl #[.int .i64 1, .int .i64 3] rfl ca_ ?_; (with_reducible refine (quant_Share.calls kj62 1 3 t198 t199 _ A107.out).mono ?_); rintro e w136 ⟨rfl, hb⟩; refine ⟨_, rfl, ?_⟩; replace HB := Aside0.mk (below_step bw_ hb); (try clear hb); (try clear hb2); (try clear hk); (try clear hi)) | ((with_reducible refine gate_callee (f := 29) rfl ?_); refine goesL_ (some 113) rfl rfl Tryd.func29 (by kernel_rfl) rfl #[.int .i64 0, .int .i64 0] rfl ca_ ?_; (with_reducible refine (quant_Share.calls kj62 0 0 t200 t201 _ A108.out).mono ?_); rintro e w137 ⟨rfl, hb⟩; refine ⟨_, rfl, ?_⟩; replace HB := Aside0.mk (below_step bw_ hb); (try clear hb); (try clear hb2); (try clear hk); (try clear hi)) | ((with_reducible refine gate_callee (f := 29) rfl ?_); refine goesL_ (some 117) rfl rfl Tryd.func29 (by kernel_rfl) rfl #[.int .i64 1, .int .i64 0] rfl ca_ ?_; (with_reducible refine (quant_Share.calls kj62 1 0 t202 t203 _ A109.out).mono ?_); rintro e w138 ⟨rfl, hb⟩; refine ⟨_, rfl, ?_⟩; replace HB := Aside0.mk (below_step bw_ hb); (try clear hb); (try clear hb2); (try clear hk); (try clear hi)) | ((with_reducible refine gate_callee (f := 25) rfl ?_); refine goesL_ (some 121) rfl rfl Tryd.func25 (by kernel_rfl) rfl #[.int .i64 2, .int .i64 3] rfl ca_ ?_; (with_reducible refine (quant_Sub.calls 2 3 t204 t205 _ A110.out).mono ?_); rintro e w139 ⟨rfl, hb⟩; refine ⟨_, rfl, ?_⟩; replace HB := Aside0.mk (below_step bw_ hb); (try clear hb); (try clear hb2); (try clear hk); (try clear hi)) | ((with_reducible refine gate_callee (f := 27) rfl ?_); refine goesL_ (some 125) rfl rfl Tryd.func27 (by kernel_rfl) rfl #[.int .i64 1048576, .int .i64 2097152] rfl ca_ ?_; (with_reducible refine (quant_Mul.calls 1048576 2097152 t206 t207 _ A111.out).mono ?_); rintro e w140 ⟨rfl, hb⟩; refine ⟨_, rfl, ?_⟩; replace HB := Aside0.mk (below_step bw_ hb); (try clear hb); (try clear hb2); (try clear hk); (try clear hi)))
              go_ret
              exact ⟨fi_, bw_⟩
            ·rw [if_neg c117] at H
             have c117b0 : (t200 == 0) = false := beq_eq_false_iff_ne.mpr c117
             have c117b1 : (t200 != 0) = true := bne_iff_ne.mpr c117
             obtain rfl := Option.some.inj H
             go_wp2_with (first | ((with_reducible refine gate_callee (f := 29) rfl ?_); refine goesL_ (some 109) rfl rfl Tryd.func29 (by kernel_rfl) rfl #[.int .i64 1, .int .i64 3] rfl ca_ ?_; (with_reducible refine (quant_Share.calls kj62 1 3 t198 t199 _ A107.out).mono ?_); rintro e w141 ⟨rfl, hb⟩; refine ⟨_, rfl, ?_⟩; replace HB := Aside0.mk (below_step bw_ hb); (try clear hb); (try clear hb2); (try clear hk); (try clear hi)) | ((with_reducible refine gate_callee (f := 29) rfl ?_); refine goesL_ (some 113) rfl rfl Tryd.func29 (by kernel_rfl) rfl #[.int .i64 0, .int .i64 0] rfl ca_ ?_; (with_reducible refine (quant_Share.calls kj62 0 0 t200 t201 _ A108.out).mono ?_); rintro e w142 ⟨rfl, hb⟩; refine ⟨_, rfl, ?_⟩; replace HB := Aside0.mk (below_step bw_ hb); (try clear hb); (try clear hb2); (try clear hk); (try clear hi)) | ((with_reducible refine gate_callee (f := 29) rfl ?_); refine goesL_ (some 117) rfl rfl Tryd.func29 (by kernel_rfl) rfl #[.int .i64 1, .int .i64 0] rfl ca_ ?_; (with_reducible refine (quant_Share.calls kj62 1 0 t202 t203 _ A109.out).mono ?_); rintro e w143 ⟨rfl, hb⟩; refine ⟨_, rfl, ?_⟩; replace HB := Aside0.mk (below_step bw_ hb); (try clear hb); (try clear hb2); (try clear hk); (try clear hi)) | ((with_reducible refine gate_callee (f := 25) rfl ?_); refine goesL_ (some 121) rfl rfl Tryd.func25 (by kernel_rfl) rfl #[.int .i64 2, .int .i64 3] rfl ca_ ?_; (with_reducible refine (quant_Sub.calls 2 3 t204 t205 _ A110.out).mono ?_); rintro e w144 ⟨rfl, hb⟩; refine ⟨_, rfl, ?_⟩; replace HB := Aside0.mk (below_step bw_ hb); (try clear hb); (try clear hb2); (try clear hk); (try clear hi)) | ((with_reducible refine gate_callee (f := 27) rfl ?_); refine goesL_ (some 125) rfl rfl Tryd.func27 (by kernel_rfl) rfl #[.int .i64 1048576, .int .i64 2097152] rfl ca_ ?_; (with_reducible refine (quant_Mul.calls 1048576 2097152 t206 t207 _ A111.out).mono ?_); rintro e w145 ⟨rfl, hb⟩; refine ⟨_, rfl, ?_⟩; replace HB := Aside0.mk (below_step bw_ hb); (try clear hb); (try clear hb2); (try clear hk); (try clear hi)))
             go_ret
             exact ⟨fi_, bw_⟩
           ·rw [if_neg c116] at H
            have c116b0 : (t199 == 0) = false := beq_eq_false_iff_ne.mpr c116
            have c116b1 : (t199 != 0) = true := bne_iff_ne.mpr c116
            obtain rfl := Option.some.inj H
            go_wp2_with (first | ((with_reducible refine gate_callee (f := 29) rfl ?_); refine goesL_ (some 109) rfl rfl Tryd.func29 (by kernel_rfl) rfl #[.int .i64 1, .int .i64 3] rfl ca_ ?_; (with_reducible refine (quant_Share.calls kj62 1 3 t198 t199 _ A107.out).mono ?_); rintro e w146 ⟨rfl, hb⟩; refine ⟨_, rfl, ?_⟩; replace HB := Aside0.mk (below_step bw_ hb); (try clear hb); (try clear hb2); (try clear hk); (try clear hi)) | ((with_reducible refine gate_callee (f := 29) rfl ?_); refine goesL_ (some 113) rfl rfl Tryd.func29 (by kernel_rfl) rfl #[.int .i64 0, .int .i64 0] rfl ca_ ?_; (with_reducible refine (quant_Share.calls kj62 0 0 t200 t201 _ A108.out).mono ?_); rintro e w147 ⟨rfl, hb⟩; refine ⟨_, rfl, ?_⟩; replace HB := Aside0.mk (below_step bw_ hb); (try clear hb); (try clear hb2); (try clear hk); (try clear hi)) | ((with_reducible refine gate_callee (f := 29) rfl ?_); refine goesL_ (some 117) rfl rfl Tryd.func29 (by kernel_rfl) rfl #[.int .i64 1, .int .i64 0] rfl ca_ ?_; (with_reducible refine (quant_Share.calls kj62 1 0 t202 t203 _ A109.out).mono ?_); rintro e w148 ⟨rfl, hb⟩; refine ⟨_, rfl, ?_⟩; replace HB := Aside0.mk (below_step bw_ hb); (try clear hb); (try clear hb2); (try clear hk); (try clear hi)) | ((with_reducible refine gate_callee (f := 25) rfl ?_); refine goesL_ (some 121) rfl rfl Tryd.func25 (by kernel_rfl) rfl #[.int .i64 2, .int .i64 3] rfl ca_ ?_; (with_reducible refine (quant_Sub.calls 2 3 t204 t205 _ A110.out).mono ?_); rintro e w149 ⟨rfl, hb⟩; refine ⟨_, rfl, ?_⟩; replace HB := Aside0.mk (below_step bw_ hb); (try clear hb); (try clear hb2); (try clear hk); (try clear hi)) | ((with_reducible refine gate_callee (f := 27) rfl ?_); refine goesL_ (some 125) rfl rfl Tryd.func27 (by kernel_rfl) rfl #[.int .i64 1048576, .int .i64 2097152] rfl ca_ ?_; (with_reducible refine (quant_Mul.calls 1048576 2097152 t206 t207 _ A111.out).mono ?_); rintro e w150 ⟨rfl, hb⟩; refine ⟨_, rfl, ?_⟩; replace HB := Aside0.mk (below_step bw_ hb); (try clear hb); (try clear hb2); (try clear hk); (try clear hi)))
            go_ret
            exact ⟨fi_, bw_⟩
          ·rw [if_neg c115] at H
           have c115b0 : (t198 == 333) = false := beq_eq_false_iff_ne.mpr c115
           have c115b1 : (t198 != 333) = true := bne_iff_ne.mpr c115
           obtain rfl := Option.some.inj H
           go_wp2_with (first | ((with_reducible refine gate_callee (f := 29) rfl ?_); refine goesL_ (some 109) rfl rfl Tryd.func29 (by kernel_rfl) rfl #[.int .i64 1, .int .i64 3] rfl ca_ ?_; (with_reducible refine (quant_Share.calls kj62 1 3 t198 t199 _ A107.out).mono ?_); rintro e w151 ⟨rfl, hb⟩; refine ⟨_, rfl, ?_⟩; replace HB := Aside0.mk (below_step bw_ hb); (try clear hb); (try clear hb2); (try clear hk); (try clear hi)) | ((with_reducible refine gate_callee (f := 29) rfl ?_); refine goesL_ (some 113) rfl rfl Tryd.func29 (by kernel_rfl) rfl #[.int .i64 0, .int .i64 0] rfl ca_ ?_; (with_reducible refine (quant_Share.calls kj62 0 0 t200 t201 _ A108.out).mono ?_); rintro e w152 ⟨rfl, hb⟩; refine ⟨_, rfl, ?_⟩; replace HB := Aside0.mk (below_step bw_ hb); (try clear hb); (try clear hb2); (try clear hk); (try clear hi)) | ((with_reducible refine gate_callee (f := 29) rfl ?_); refine goesL_ (some 117) rfl rfl Tryd.func29 (by kernel_rfl) rfl #[.int .i64 1, .int .i64 0] rfl ca_ ?_; (with_reducible refine (quant_Share.calls kj62 1 0 t202 t203 _ A109.out).mono ?_); rintro e w153 ⟨rfl, hb⟩; refine ⟨_, rfl, ?_⟩; replace HB := Aside0.mk (below_step bw_ hb); (try clear hb); (try clear hb2); (try clear hk); (try clear hi)) | ((with_reducible refine gate_callee (f := 25) rfl ?_); refine goesL_ (some 121) rfl rfl Tryd.func25 (by kernel_rfl) rfl #[.int .i64 2, .int .i64 3] rfl ca_ ?_; (with_reducible refine (quant_Sub.calls 2 3 t204 t205 _ A110.out).mono ?_); rintro e w154 ⟨rfl, hb⟩; refine ⟨_, rfl, ?_⟩; replace HB := Aside0.mk (below_step bw_ hb); (try clear hb); (try clear hb2); (try clear hk); (try clear hi)) | ((with_reducible refine gate_callee (f := 27) rfl ?_); refine goesL_ (some 125) rfl rfl Tryd.func27 (by kernel_rfl) rfl #[.int .i64 1048576, .int .i64 2097152] rfl ca_ ?_; (with_reducible refine (quant_Mul.calls 1048576 2097152 t206 t207 _ A111.out).mono ?_); rintro e w155 ⟨rfl, hb⟩; refine ⟨_, rfl, ?_⟩; replace HB := Aside0.mk (below_step bw_ hb); (try clear hb); (try clear hb2); (try clear hk); (try clear hi)))
           go_ret
           exact ⟨fi_, bw_⟩
         ·replace c114 := Bool.eq_false_iff.mpr c114
          subst c114
          have H1 : (some false) = some r := by rw [if_neg (show ¬ (false = true) by decide)] at H; exact H
          clear H
          have H := H1
          clear H1
          obtain rfl := Option.some.inj H
          go_wp2_with (first | ((with_reducible refine gate_callee (f := 29) rfl ?_); refine goesL_ (some 109) rfl rfl Tryd.func29 (by kernel_rfl) rfl #[.int .i64 1, .int .i64 3] rfl ca_ ?_; (with_reducible refine (quant_Share.calls kj62 1 3 t198 t199 _ A107.out).mono ?_); rintro e w156 ⟨rfl, hb⟩; refine ⟨_, rfl, ?_⟩; replace HB := Aside0.mk (below_step bw_ hb); (try clear hb); (try clear hb2); (try clear hk); (try clear hi)) | ((with_reducible refine gate_callee (f := 29) rfl ?_); refine goesL_ (some 113) rfl rfl Tryd.func29 (by kernel_rfl) rfl #[.int .i64 0, .int .i64 0] rfl ca_ ?_; (with_reducible refine (quant_Share.calls kj62 0 0 t200 t201 _ A108.out).mono ?_); rintro e w157 ⟨rfl, hb⟩; refine ⟨_, rfl, ?_⟩; replace HB := Aside0.mk (below_step bw_ hb); (try clear hb); (try clear hb2); (try clear hk); (try clear hi)) | ((with_reducible refine gate_callee (f := 29) rfl ?_); refine goesL_ (some 117) rfl rfl Tryd.func29 (by kernel_rfl) rfl #[.int .i64 1, .int .i64 0] rfl ca_ ?_; (with_reducible refine (quant_Share.calls kj62 1 0 t202 t203 _ A109.out).mono ?_); rintro e w158 ⟨rfl, hb⟩; refine ⟨_, rfl, ?_⟩; replace HB := Aside0.mk (below_step bw_ hb); (try clear hb); (try clear hb2); (try clear hk); (try clear hi)) | ((with_reducible refine gate_callee (f := 25) rfl ?_); refine goesL_ (some 121) rfl rfl Tryd.func25 (by kernel_rfl) rfl #[.int .i64 2, .int .i64 3] rfl ca_ ?_; (with_reducible refine (quant_Sub.calls 2 3 t204 t205 _ A110.out).mono ?_); rintro e w159 ⟨rfl, hb⟩; refine ⟨_, rfl, ?_⟩; replace HB := Aside0.mk (below_step bw_ hb); (try clear hb); (try clear hb2); (try clear hk); (try clear hi)) | ((with_reducible refine gate_callee (f := 27) rfl ?_); refine goesL_ (some 125) rfl rfl Tryd.func27 (by kernel_rfl) rfl #[.int .i64 1048576, .int .i64 2097152] rfl ca_ ?_; (with_reducible refine (quant_Mul.calls 1048576 2097152 t206 t207 _ A111.out).mono ?_); rintro e w160 ⟨rfl, hb⟩; refine ⟨_, rfl, ?_⟩; replace HB := Aside0.mk (below_step bw_ hb); (try clear hb); (try clear hb2); (try clear hk); (try clear hi)))
          go_ret
          exact ⟨fi_, bw_⟩
        ·replace c113 := Bool.eq_false_iff.mpr c113
         subst c113
         have H1 : (some false) = some r := by rw [if_neg (show ¬ (false = true) by decide)] at H; exact H
         clear H
         have H := H1
         clear H1
         obtain rfl := Option.some.inj H
         go_wp2_with (first | ((with_reducible refine gate_callee (f := 29) rfl ?_); refine goesL_ (some 109) rfl rfl Tryd.func29 (by kernel_rfl) rfl #[.int .i64 1, .int .i64 3] rfl ca_ ?_; (with_reducible refine (quant_Share.calls kj62 1 3 t198 t199 _ A107.out).mono ?_); rintro e w161 ⟨rfl, hb⟩; refine ⟨_, rfl, ?_⟩; replace HB := Aside0.mk (below_step bw_ hb); (try clear hb); (try clear hb2); (try clear hk); (try clear hi)) | ((with_reducible refine gate_callee (f := 29) rfl ?_); refine goesL_ (some 113) rfl rfl Tryd.func29 (by kernel_rfl) rfl #[.int .i64 0, .int .i64 0] rfl ca_ ?_; (with_reducible refine (quant_Share.calls kj62 0 0 t200 t201 _ A108.out).mono ?_); rintro e w162 ⟨rfl, hb⟩; refine ⟨_, rfl, ?_⟩; replace HB := Aside0.mk (below_step bw_ hb); (try clear hb); (try clear hb2); (try clear hk); (try clear hi)) | ((with_reducible refine gate_callee (f := 29) rfl ?_); refine goesL_ (some 117) rfl rfl Tryd.func29 (by kernel_rfl) rfl #[.int .i64 1, .int .i64 0] rfl ca_ ?_; (with_reducible refine (quant_Share.calls kj62 1 0 t202 t203 _ A109.out).mono ?_); rintro e w163 ⟨rfl, hb⟩; refine ⟨_, rfl, ?_⟩; replace HB := Aside0.mk (below_step bw_ hb); (try clear hb); (try clear hb2); (try clear hk); (try clear hi)) | ((with_reducible refine gate_callee (f := 25) rfl ?_); refine goesL_ (some 121) rfl rfl Tryd.func25 (by kernel_rfl) rfl #[.int .i64 2, .int .i64 3] rfl ca_ ?_; (with_reducible refine (quant_Sub.calls 2 3 t204 t205 _ A110.out).mono ?_); rintro e w164 ⟨rfl, hb⟩; refine ⟨_, rfl, ?_⟩; replace HB := Aside0.mk (below_step bw_ hb); (try clear hb); (try clear hb2); (try clear hk); (try clear hi)) | ((with_reducible refine gate_callee (f := 27) rfl ?_); refine goesL_ (some 125) rfl rfl Tryd.func27 (by kernel_rfl) rfl #[.int .i64 1048576, .int .i64 2097152] rfl ca_ ?_; (with_reducible refine (quant_Mul.calls 1048576 2097152 t206 t207 _ A111.out).mono ?_); rintro e w165 ⟨rfl, hb⟩; refine ⟨_, rfl, ?_⟩; replace HB := Aside0.mk (below_step bw_ hb); (try clear hb); (try clear hb2); (try clear hk); (try clear hi)))
         go_ret
         exact ⟨fi_, bw_⟩
       ·replace c112 := Bool.eq_false_iff.mpr c112
        subst c112
        have H1 : (some false) = some r := by rw [if_neg (show ¬ (false = true) by decide)] at H; exact H
        clear H
        have H := H1
        clear H1
        obtain rfl := Option.some.inj H
        go_wp2_with (first | ((with_reducible refine gate_callee (f := 29) rfl ?_); refine goesL_ (some 109) rfl rfl Tryd.func29 (by kernel_rfl) rfl #[.int .i64 1, .int .i64 3] rfl ca_ ?_; (with_reducible refine (quant_Share.calls kj62 1 3 t198 t199 _ A107.out).mono ?_); rintro e w166 ⟨rfl, hb⟩; refine ⟨_, rfl, ?_⟩; replace HB := Aside0.mk (below_step bw_ hb); (try clear hb); (try clear hb2); (try clear hk); (try clear hi)) | ((with_reducible refine gate_callee (f := 29) rfl ?_); refine goesL_ (some 113) rfl rfl Tryd.func29 (by kernel_rfl) rfl #[.int .i64 0, .int .i64 0] rfl ca_ ?_; (with_reducible refine (quant_Share.calls kj62 0 0 t200 t201 _ A108.out).mono ?_); rintro e w167 ⟨rfl, hb⟩; refine ⟨_, rfl, ?_⟩; replace HB := Aside0.mk (below_step bw_ hb); (try clear hb); (try clear hb2); (try clear hk); (try clear hi)) | ((with_reducible refine gate_callee (f := 29) rfl ?_); refine goesL_ (some 117) rfl rfl Tryd.func29 (by kernel_rfl) rfl #[.int .i64 1, .int .i64 0] rfl ca_ ?_; (with_reducible refine (quant_Share.calls kj62 1 0 t202 t203 _ A109.out).mono ?_); rintro e w168 ⟨rfl, hb⟩; refine ⟨_, rfl, ?_⟩; replace HB := Aside0.mk (below_step bw_ hb); (try clear hb); (try clear hb2); (try clear hk); (try clear hi)) | ((with_reducible refine gate_callee (f := 25) rfl ?_); refine goesL_ (some 121) rfl rfl Tryd.func25 (by kernel_rfl) rfl #[.int .i64 2, .int .i64 3] rfl ca_ ?_; (with_reducible refine (quant_Sub.calls 2 3 t204 t205 _ A110.out).mono ?_); rintro e w169 ⟨rfl, hb⟩; refine ⟨_, rfl, ?_⟩; replace HB := Aside0.mk (below_step bw_ hb); (try clear hb); (try clear hb2); (try clear hk); (try clear hi)) | ((with_reducible refine gate_callee (f := 27) rfl ?_); refine goesL_ (some 125) rfl rfl Tryd.func27 (by kernel_rfl) rfl #[.int .i64 1048576, .int .i64 2097152] rfl ca_ ?_; (with_reducible refine (quant_Mul.calls 1048576 2097152 t206 t207 _ A111.out).mono ?_); rintro e w170 ⟨rfl, hb⟩; refine ⟨_, rfl, ?_⟩; replace HB := Aside0.mk (below_step bw_ hb); (try clear hb); (try clear hb2); (try clear hk); (try clear hi)))
        go_ret
        exact ⟨fi_, bw_⟩

end Go.Proofs.YtkpoipjgbdcdjaaDoor.P
