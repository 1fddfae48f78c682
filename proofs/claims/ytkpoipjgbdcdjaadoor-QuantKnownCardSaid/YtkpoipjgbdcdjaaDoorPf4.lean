import Derived.Test.YtkpoipjgbdcdjaaDoorP0
import Derived.Test.YtkpoipjgbdcdjaaDoorPf15
import Derived.Test.YtkpoipjgbdcdjaaDoorPf16
import Derived.Test.YtkpoipjgbdcdjaaDoorPf17
import Derived.Test.YtkpoipjgbdcdjaaDoorPf18
import Derived.Test.YtkpoipjgbdcdjaaDoorPf19
namespace Go.Proofs.YtkpoipjgbdcdjaaDoor.P
open Go.RowKit Go.Proofs.YtkpoipjgbdcdjaaDoorW.PrintWords Go.Proofs.YtkpoipjgbdcdjaaDoorW.PrintLast Go.Proofs.YtkpoipjgbdcdjaaDoorW.PrintMore
attribute [local go_sem] max2_int min2_int max_two min_two max_three min_three max_four min_four   -- for this text's walks alone
set_option linter.unusedVariables false
set_option linter.unusedSimpArgs false

def drayagelaw01_QuantPrints.f (k : Nat) (a0 : Int) (a1 : Bool) : Option (Bool) := (quant_Print.f k a0 a1).bind fun bt231 => ((drayageref01_Print.f k a0 a1).bind fun bt233 => ((quant_PrintPercent.f k a0).bind fun bt235 => ((drayageref01_PrintPercent.f k a0).bind fun bt237 => (if bt231.1.toList = bt233.1.toList then (if bt231.2 = bt233.2 then (if bt235.1.toList = bt237.1.toList then (if bt235.2 = bt237.2 then ((drayagelaw01_works.f k).bind fun t239 => (some t239)) else (some false)) else (some false)) else (some false)) else (some false)))))
theorem drayagelaw01_QuantPrints.mono : ∀ a0 a1 k, LeO (drayagelaw01_QuantPrints.f k a0 a1) (drayagelaw01_QuantPrints.f (k + 1) a0 a1) := by
 intro a0 a1 k
 unfold drayagelaw01_QuantPrints.f
 repeat' first
   | (with_reducible exact drayagelaw01_works.mono _)
   | (with_reducible exact drayageref01_Print.mono _ _ _)
   | (with_reducible exact drayageref01_PrintPercent.mono _ _)
   | (with_reducible exact quant_Print.mono _ _ _)
   | (with_reducible exact quant_PrintPercent.mono _ _)
   | (with_reducible exact LeO.refl _)
   | (with_reducible exact LeO.none _)
   | (with_reducible refine LeO.ite ?_ ?_)
   | (with_reducible refine LeO.bind ?_ (fun _ => ?_))
   | exact drayagelaw01_works.mono _
   | exact drayageref01_Print.mono _ _ _
   | exact drayageref01_PrintPercent.mono _ _
   | exact quant_Print.mono _ _ _
   | exact quant_PrintPercent.mono _ _
   | exact LeO.none _
   | refine LeO.ite ?_ ?_
   | refine LeO.bind ?_ (fun _ => ?_)
set_option maxHeartbeats 8000000 in
set_option maxRecDepth 100000 in
theorem drayagelaw01_QuantPrints.calls (k : Nat) (a0 : Int) (a1 : Bool) (r : Bool) (w : World) (h : drayagelaw01_QuantPrints.f k a0 a1 = some r) (hT0 : Tb w) :
  Calls Tryd.prog 4 #[.int .i64 a0, .bool a1] w fun e w' => e = .returned (.bool r) ∧ Below w.heap.size w w' := by
 have hT_ := Aside0.mk hT0
 clear hT0
 have HB := Aside0.mk (Below.refl w.heap.size w)
 have H : ((quant_Print.f k a0 a1).bind fun bt231 => ((drayageref01_Print.f k a0 a1).bind fun bt233 => ((quant_PrintPercent.f k a0).bind fun bt235 => ((drayageref01_PrintPercent.f k a0).bind fun bt237 => (if bt231.1.toList = bt233.1.toList then (if bt231.2 = bt233.2 then (if bt235.1.toList = bt237.1.toList then (if bt235.2 = bt237.2 then ((drayagelaw01_works.f k).bind fun t239 => (some t239)) else (some false)) else (some false)) else (some false)) else (some false)))))) = some r := h
 clear h
 replace H := Option.bind_eq_some_iff.mp H
 obtain ⟨⟨t231, t232⟩, A30, H⟩ := H
 try dsimp only at H
 have A3 := Aside0.mk A30
 clear A30
 replace H := Option.bind_eq_some_iff.mp H
 obtain ⟨⟨t233, t234⟩, A40, H⟩ := H
 try dsimp only at H
 have A4 := Aside0.mk A40
 clear A40
 replace H := Option.bind_eq_some_iff.mp H
 obtain ⟨⟨t235, t236⟩, A50, H⟩ := H
 try dsimp only at H
 have A5 := Aside0.mk A50
 clear A50
 replace H := Option.bind_eq_some_iff.mp H
 obtain ⟨⟨t237, t238⟩, A60, H⟩ := H
 try dsimp only at H
 have A6 := Aside0.mk A60
 clear A60
 by_cases c7 : t231.toList = t233.toList
 ·rw [if_pos c7] at H
  have c7b0 : (t231.toList == t233.toList) = true := beq_iff_eq.mpr c7
  have c7b1 : (t231.toList != t233.toList) = false := bne_eq_false_iff_eq.mpr c7
  clear c7
  by_cases c8 : t232 = t234
  ·rw [if_pos c8] at H
   have c8b0 : (t232 == t234) = true := beq_iff_eq.mpr c8
   have c8b1 : (t232 != t234) = false := bne_eq_false_iff_eq.mpr c8
   clear c8
   by_cases c9 : t235.toList = t237.toList
   ·rw [if_pos c9] at H
    have c9b0 : (t235.toList == t237.toList) = true := beq_iff_eq.mpr c9
    have c9b1 : (t235.toList != t237.toList) = false := bne_eq_false_iff_eq.mpr c9
    clear c9
    by_cases c10 : t236 = t238
    ·rw [if_pos c10] at H
     have c10b0 : (t236 == t238) = true := beq_iff_eq.mpr c10
     have c10b1 : (t236 != t238) = false := bne_eq_false_iff_eq.mpr c10
     clear c10
     replace H := Option.bind_eq_some_iff.mp H
     obtain ⟨t239, A110, H⟩ := H
     try dsimp only at H
     have A11 := Aside0.mk A110
     clear A110
     obtain rfl := Option.some.inj H
     go_enter Tryd.func4, Tryd.ntmps4
     go_wp2_with (first | ((with_reducible refine gate_callee (f := 16) rfl ?_); refine goesL_ (some 16) rfl rfl Tryd.func16 (by kernel_rfl) rfl #[.int .i64 a0, .bool a1] rfl ca_ ?_; (with_reducible refine (quant_Print.calls k a0 a1 t231 t232 _ A3.out ?sideT_).mono ?_); (case sideT_ => first | exact hT_.out | exact hT_.out.up bw_); rintro e w12 ⟨rfl, hb⟩; refine ⟨_, rfl, ?_⟩; replace HB := Aside0.mk (below_step bw_ hb); (try clear hb); (try clear hb2); (try clear hk); (try clear hi)) | ((with_reducible refine gate_callee (f := 17) rfl ?_); refine goesL_ (some 22) rfl rfl Tryd.func17 (by kernel_rfl) rfl #[.int .i64 a0, .bool a1] rfl ca_ ?_; (with_reducible refine (drayageref01_Print.calls k a0 a1 t233 t234 _ A4.out ?sideT_).mono ?_); (case sideT_ => first | exact hT_.out | exact hT_.out.up bw_); rintro e w13 ⟨rfl, hb⟩; refine ⟨_, rfl, ?_⟩; replace HB := Aside0.mk (below_step bw_ hb); (try clear hb); (try clear hb2); (try clear hk); (try clear hi)) | ((with_reducible refine gate_callee (f := 18) rfl ?_); refine goesL_ (some 27) rfl rfl Tryd.func18 (by kernel_rfl) rfl #[.int .i64 a0] rfl ca_ ?_; (with_reducible refine (quant_PrintPercent.calls k a0 t235 t236 _ A5.out ?sideT_).mono ?_); (case sideT_ => first | exact hT_.out | exact hT_.out.up bw_); rintro e w14 ⟨rfl, hb⟩; refine ⟨_, rfl, ?_⟩; replace HB := Aside0.mk (below_step bw_ hb); (try clear hb); (try clear hb2); (try clear hk); (try clear hi)) | ((with_reducible refine gate_callee (f := 19) rfl ?_); refine goesL_ (some 32) rfl rfl Tryd.func19 (by kernel_rfl) rfl #[.int .i64 a0] rfl ca_ ?_; (with_reducible refine (drayageref01_PrintPercent.calls k a0 t237 t238 _ A6.out ?sideT_).mono ?_); (case sideT_ => first | exact hT_.out | exact hT_.out.up bw_); rintro e w15 ⟨rfl, hb⟩; refine ⟨_, rfl, ?_⟩; replace HB := Aside0.mk (below_step bw_ hb); (try clear hb); (try clear hb2); (try clear hk); (try clear hi)) | (go_at_call 15; (with_reducible refine (drayagelaw01_works.calls k  t239 _ A11.out ?sideT_).mono ?_); (case sideT_ => first | exact hT_.out | exact hT_.out.up bw_); rintro e w16 ⟨rfl, hb⟩; replace HB := Aside0.mk (below_step bw_ hb); (try clear hb); (try clear hb2); (try clear hk); (try clear hi)))
     go_ret
     exact ⟨fi_, bw_⟩
    ·rw [if_neg c10] at H
     have c10b0 : (t236 == t238) = false := beq_eq_false_iff_ne.mpr c10
     have c10b1 : (t236 != t238) = true := bne_iff_ne.mpr c10
     obtain rfl := Option.some.inj H
     go_enter Tryd.func4, Tryd.ntmps4
     go_wp2_with (first | ((with_reducible refine gate_callee (f := 16) rfl ?_); refine goesL_ (some 16) rfl rfl Tryd.func16 (by kernel_rfl) rfl #[.int .i64 a0, .bool a1] rfl ca_ ?_; (with_reducible refine (quant_Print.calls k a0 a1 t231 t232 _ A3.out ?sideT_).mono ?_); (case sideT_ => first | exact hT_.out | exact hT_.out.up bw_); rintro e w17 ⟨rfl, hb⟩; refine ⟨_, rfl, ?_⟩; replace HB := Aside0.mk (below_step bw_ hb); (try clear hb); (try clear hb2); (try clear hk); (try clear hi)) | ((with_reducible refine gate_callee (f := 17) rfl ?_); refine goesL_ (some 22) rfl rfl Tryd.func17 (by kernel_rfl) rfl #[.int .i64 a0, .bool a1] rfl ca_ ?_; (with_reducible refine (drayageref01_Print.calls k a0 a1 t233 t234 _ A4.out ?sideT_).mono ?_); (case sideT_ => first | exact hT_.out | exact hT_.out.up bw_); rintro e w18 ⟨rfl, hb⟩; refine ⟨_, rfl, ?_⟩; replace HB := Aside0.mk (below_step bw_ hb); (try clear hb); (try clear hb2); (try clear hk); (try clear hi)) | ((with_reducible refine gate_callee (f := 18) rfl ?_); refine goesL_ (some 27) rfl rfl Tryd.func18 (by kernel_rfl) rfl #[.int .i64 a0] rfl ca_ ?_; (with_reducible refine (quant_PrintPercent.calls k a0 t235 t236 _ A5.out ?sideT_).mono ?_); (case sideT_ => first | exact hT_.out | exact hT_.out.up bw_); rintro e w19 ⟨rfl, hb⟩; refine ⟨_, rfl, ?_⟩; replace HB := Aside0.mk (below_step bw_ hb); (try clear hb); (try clear hb2); (try clear hk); (try clear hi)) | ((with_reducible refine gate_callee (f := 19) rfl ?_); refine goesL_ (some 32) rfl rfl Tryd.func19 (by kernel_rfl) rfl #[.int .i64 a0] rfl ca_ ?_; (with_reducible refine (drayageref01_PrintPercent.calls k a0 t237 t238 _ A6.out ?sideT_).mono ?_); (case sideT_ => first | exact hT_.out | exact hT_.out.up bw_); rintro e w20 ⟨rfl, hb⟩; refine ⟨_, rfl, ?_⟩; replace HB := Aside0.mk (below_step bw_ hb); (try clear hb); (try clear hb2); (try clear hk); (try clear hi)))
     go_ret
     exact ⟨fi_, bw_⟩
   ·rw [if_neg c9] at H
    have c9b0 : (t235.toList == t237.toList) = false := beq_eq_false_iff_ne.mpr c9
    have c9b1 : (t235.toList != t237.toList) = true := bne_iff_ne.mpr c9
    obtain rfl := Option.some.inj H
    go_enter Tryd.func4, Tryd.ntmps4
    go_wp2_with (first | ((with_reducible refine gate_callee (f := 16) rfl ?_); refine goesL_ (some 16) rfl rfl Tryd.func16 (by kernel_rfl) rfl #[.int .i64 a0, .bool a1] rfl ca_ ?_; (with_reducible refine (quant_Print.calls k a0 a1 t231 t232 _ A3.out ?sideT_).mono ?_); (case sideT_ => first | exact hT_.out | exact hT_.out.up bw_); rintro e w21 ⟨rfl, hb⟩; refine ⟨_, rfl, ?_⟩; replace HB := Aside0.mk (below_step bw_ hb); (try clear hb); (try clear hb2); (try clear hk); (try clear hi)) | ((with_reducible refine gate_callee (f := 17) rfl ?_); refine goesL_ (some 22) rfl rfl Tryd.func17 (by kernel_rfl) rfl #[.int .i64 a0, .bool a1] rfl ca_ ?_; (with_reducible refine (drayageref01_Print.calls k a0 a1 t233 t234 _ A4.out ?sideT_).mono ?_); (case sideT_ => first | exact hT_.out | exact hT_.out.up bw_); rintro e w22 ⟨rfl, hb⟩; refine ⟨_, rfl, ?_⟩; replace HB := Aside0.mk (below_step bw_ hb); (try clear hb); (try clear hb2); (try clear hk); (try clear hi)) | ((with_reducible refine gate_callee (f := 18) rfl ?_); refine goesL_ (some 27) rfl rfl Tryd.func18 (by kernel_rfl) rfl #[.int .i64 a0] rfl ca_ ?_; (with_reducible refine (quant_PrintPercent.calls k a0 t235 t236 _ A5.out ?sideT_).mono ?_); (case sideT_ => first | exact hT_.out | exact hT_.out.up bw_); rintro e w23 ⟨rfl, hb⟩; refine ⟨_, rfl, ?_⟩; replace HB := Aside0.mk (below_step bw_ hb); (try clear hb); (try clear hb2); (try clear hk); (try clear hi)) | ((with_reducible refine gate_callee (f := 19) rfl ?_); refine goesL_ (some 32) rfl rfl Tryd.func19 (by kernel_rfl) rfl #[.int .i64 a0] rfl ca_ ?_; (with_reducible refine (drayageref01_PrintPercent.calls k a0 t237 t238 _ A6.out ?sideT_).mono ?_); (case sideT_ => first | exact hT_.out | exact hT_.out.up bw_); rintro e w24 ⟨rfl, hb⟩; refine ⟨_, rfl, ?_⟩; replace HB := Aside0.mk (below_step bw_ hb); (try clear hb); (try clear hb2); (try clear hk); (try clear hi)))
    go_ret
    exact ⟨fi_, bw_⟩
  ·rw [if_neg c8] at H
   have c8b0 : (t232 == t234) = false := beq_eq_false_iff_ne.mpr c8
   have c8b1 : (t232 != t234) = true := bne_iff_ne.mpr c8
   obtain rfl := Option.some.inj H
   go_enter Tryd.func4, Tryd.ntmps4
   go_wp2_with (first | ((with_reducible refine gate_callee (f := 16) rfl ?_); refine goesL_ (some 16) rfl rfl Tryd.func16 (by kernel_rfl) rfl #[.int .i64 a0, .bool a1] rfl ca_ ?_; (with_reducible refine (quant_Print.calls k a0 a1 t231 t232 _ A3.out ?sideT_).mono ?_); (case sideT_ => first | exact hT_.out | exact hT_.out.up bw_); rintro e w25 ⟨rfl, hb⟩; refine ⟨_, rfl, ?_⟩; replace HB := Aside0.mk (below_step bw_ hb); (try clear hb); (try clear hb2); (try clear hk); (try clear hi)) | ((with_reducible refine gate_callee (f := 17) rfl ?_); refine goesL_ (some 22) rfl rfl Tryd.func17 (by kernel_rfl) rfl #[.int .i64 a0, .bool a1] rfl ca_ ?_; (with_reducible refine (drayageref01_Print.calls k a0 a1 t233 t234 _ A4.out ?sideT_).mono ?_); (case sideT_ => first | exact hT_.out | exact hT_.out.up bw_); rintro e w26 ⟨rfl, hb⟩; refine ⟨_, rfl, ?_⟩; replace HB := Aside0.mk (below_step bw_ hb); (try clear hb); (try clear hb2); (try clear hk); (try clear hi)) | ((with_reducible refine gate_callee (f := 18) rfl ?_); refine goesL_ (some 27) rfl rfl Tryd.func18 (by kernel_rfl) rfl #[.int .i64 a0] rfl ca_ ?_; (with_reducible refine (quant_PrintPercent.calls k a0 t235 t236 _ A5.out ?sideT_).mono ?_); (case sideT_ => first | exact hT_.out | exact hT_.out.up bw_); rintro e w27 ⟨rfl, hb⟩; refine ⟨_, rfl, ?_⟩; replace HB := Aside0.mk (below_step bw_ hb); (try clear hb); (try clear hb2); (try clear hk); (try clear hi)) | ((with_reducible refine gate_callee (f := 19) rfl ?_); refine goesL_ (some 32) rfl rfl Tryd.func19 (by kernel_rfl) rfl #[.int .i64 a0] rfl ca_ ?_; (with_reducible refine (drayageref01_PrintPercent.calls k a0 t237 t238 _ A6.out ?sideT_).mono ?_); (case sideT_ => first | exact hT_.out | exact hT_.out.up bw_); rintro e w28 ⟨rfl, hb⟩; refine ⟨_, rfl, ?_⟩; replace HB := Aside0.mk (below_step bw_ hb); (try clear hb); (try clear hb2); (try clear hk); (try clear hi)))
   go_ret
   exact ⟨fi_, bw_⟩
 ·rw [if_neg c7] at H
  have c7b0 : (t231.toList == t233.toList) = false := beq_eq_false_iff_ne.mpr c7
  have c7b1 : (t231.toList != t233.toList) = true := bne_iff_ne.mpr c7
  obtain rfl := Option.some.inj H
  go_enter Tryd.func4, Tryd.ntmps4
  go_wp2_with (first | ((with_reducible refine gate_callee (f := 16) rfl ?_); refine goesL_ (some 16) rfl rfl Tryd.func16 (by kernel_rfl) rfl #[.int .i64 a0, .bool a1] rfl ca_ ?_; (with_reducible refine (quant_Print.calls k a0 a1 t231 t232 _ A3.out ?sideT_).mono ?_); (case sideT_ => first | exact hT_.out | exact hT_.out.up bw_); rintro e w29 ⟨rfl, hb⟩; refine ⟨_, rfl, ?_⟩; replace HB := Aside0.mk (below_step bw_ hb); (try clear hb); (try clear hb2); (try clear hk); (try clear hi)) | ((with_reducible refine gate_callee (f := 17) rfl ?_); refine goesL_ (some 22) rfl rfl Tryd.func17 (by kernel_rfl) rfl #[.int .i64 a0, .bool a1] rfl ca_ ?_; (with_reducible refine (drayageref01_Print.calls k a0 a1 t233 t234 _ A4.out ?sideT_).mono ?_); (case sideT_ => first | exact hT_.out | exact hT_.out.up bw_); rintro e w30 ⟨rfl, hb⟩; refine ⟨_, rfl, ?_⟩; replace HB := Aside0.mk (below_step bw_ hb); (try clear hb); (try clear hb2); (try clear hk); (try clear hi)) | ((with_reducible refine gate_callee (f := 18) rfl ?_); refine goesL_ (some 27) rfl rfl Tryd.func18 (by kernel_rfl) rfl #[.int .i64 a0] rfl ca_ ?_; (with_reducible refine (quant_PrintPercent.calls k a0 t235 t236 _ A5.out ?sideT_).mono ?_); (case sideT_ => first | exact hT_.out | exact hT_.out.up bw_); rintro e w31 ⟨rfl, hb⟩; refine ⟨_, rfl, ?_⟩; replace HB := Aside0.mk (below_step bw_ hb); (try clear hb); (try clear hb2); (try clear hk); (try clear hi)) | ((with_reducible refine gate_callee (f := 19) rfl ?_); refine goesL_ (some 32) rfl rfl Tryd.func19 (by kernel_rfl) rfl #[.int .i64 a0] rfl ca_ ?_; (with_reducible refine (drayageref01_PrintPercent.calls k a0 t237 t238 _ A6.out ?sideT_).mono ?_); (case sideT_ => first | exact hT_.out | exact hT_.out.up bw_); rintro e w32 ⟨rfl, hb⟩; refine ⟨_, rfl, ?_⟩; replace HB := Aside0.mk (below_step bw_ hb); (try clear hb); (try clear hb2); (try clear hk); (try clear hi)))
  go_ret
  exact ⟨fi_, bw_⟩

end Go.Proofs.YtkpoipjgbdcdjaaDoor.P
