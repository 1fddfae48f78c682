import Derived.Test.YtkpoipjgbdcdjaaDoorP0
import Derived.Test.YtkpoipjgbdcdjaaDoorPf16
namespace Go.Proofs.YtkpoipjgbdcdjaaDoor.P
open Go.RowKit Go.Proofs.YtkpoipjgbdcdjaaDoorW.PrintWords Go.Proofs.YtkpoipjgbdcdjaaDoorW.PrintLast Go.Proofs.YtkpoipjgbdcdjaaDoorW.PrintMore
attribute [local go_sem] max2_int min2_int max_two min_two max_three min_three max_four min_four   -- for this text's walks alone
set_option linter.unusedVariables false
set_option linter.unusedSimpArgs false

def drayagelaw01_prints.f (k : Nat) (a0 : Int) (a1 : Bool) (a2 : ByteArray) : Option (Bool) := (quant_Print.f k a0 a1).bind fun bt171 => (if bt171.1.toList = a2.toList then (some (bt171.2 == 0)) else (some false))
theorem drayagelaw01_prints.mono : ∀ a0 a1 a2 k, LeO (drayagelaw01_prints.f k a0 a1 a2) (drayagelaw01_prints.f (k + 1) a0 a1 a2) := by
 intro a0 a1 a2 k
 unfold drayagelaw01_prints.f
 repeat' first
   | (with_reducible exact quant_Print.mono _ _ _)
   | (with_reducible exact LeO.refl _)
   | (with_reducible exact LeO.none _)
   | (with_reducible refine LeO.ite ?_ ?_)
   | (with_reducible refine LeO.bind ?_ (fun _ => ?_))
   | exact quant_Print.mono _ _ _
   | exact LeO.none _
   | refine LeO.ite ?_ ?_
   | refine LeO.bind ?_ (fun _ => ?_)
set_option maxHeartbeats 8000000 in
set_option maxRecDepth 100000 in
theorem drayagelaw01_prints.calls (k : Nat) (a0 : Int) (a1 : Bool) (a2 : ByteArray) (r : Bool) (w : World) (h : drayagelaw01_prints.f k a0 a1 a2 = some r) (hT0 : Tb w) :
  Calls Tryd.prog 49 #[.int .i64 a0, .bool a1, .string a2] w fun e w' => e = .returned (.bool r) ∧ Below w.heap.size w w' := by
 have hT_ := Aside0.mk hT0
 clear hT0
 have HB := Aside0.mk (Below.refl w.heap.size w)
 have H : ((quant_Print.f k a0 a1).bind fun bt171 => (if bt171.1.toList = a2.toList then (some (bt171.2 == 0)) else (some false))) = some r := h
 clear h
 replace H := Option.bind_eq_some_iff.mp H
 obtain ⟨⟨t171, t172⟩, A40, H⟩ := H
 try dsimp only at H
 have A4 := Aside0.mk A40
 clear A40
 by_cases c5 : t171.toList = a2.toList
 ·rw [if_pos c5] at H
  have c5b0 : (t171.toList == a2.toList) = true := beq_iff_eq.mpr c5
  have c5b1 : (t171.toList != a2.toList) = false := bne_eq_false_iff_eq.mpr c5
  clear c5
  obtain rfl := Option.some.inj H
  go_enter Tryd.func49, Tryd.ntmps49
  go_wp2_with (first | ((with_reducible refine gate_callee (f := 16) rfl ?_); refine goesL_ (some 12) rfl rfl Tryd.func16 (by kernel_rfl) rfl #[.int .i64 a0, .bool a1] rfl ca_ ?_; (with_reducible refine (quant_Print.calls k a0 a1 t171 t172 _ A4.out ?sideT_).mono ?_); (case sideT_ => first | exact hT_.out | exact hT_.out.up bw_); rintro e w6 ⟨rfl, hb⟩; refine ⟨_, rfl, ?_⟩; replace HB := Aside0.mk (below_step bw_ hb); (try clear hb); (try clear hb2); (try clear hk); (try clear hi)))
  go_ret
  exact ⟨fi_, bw_⟩
 ·rw [if_neg c5] at H
  have c5b0 : (t171.toList == a2.toList) = false := beq_eq_false_iff_ne.mpr c5
  have c5b1 : (t171.toList != a2.toList) = true := bne_iff_ne.mpr c5
  obtain rfl := Option.some.inj H
  go_enter Tryd.func49, Tryd.ntmps49
  go_wp2_with (first | ((with_reducible refine gate_callee (f := 16) rfl ?_); refine goesL_ (some 12) rfl rfl Tryd.func16 (by kernel_rfl) rfl #[.int .i64 a0, .bool a1] rfl ca_ ?_; (with_reducible refine (quant_Print.calls k a0 a1 t171 t172 _ A4.out ?sideT_).mono ?_); (case sideT_ => first | exact hT_.out | exact hT_.out.up bw_); rintro e w7 ⟨rfl, hb⟩; refine ⟨_, rfl, ?_⟩; replace HB := Aside0.mk (below_step bw_ hb); (try clear hb); (try clear hb2); (try clear hk); (try clear hi)))
  go_ret
  exact ⟨fi_, bw_⟩

end Go.Proofs.YtkpoipjgbdcdjaaDoor.P
