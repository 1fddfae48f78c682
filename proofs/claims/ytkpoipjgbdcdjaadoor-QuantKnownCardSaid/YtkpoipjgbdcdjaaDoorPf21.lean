import Derived.Test.YtkpoipjgbdcdjaaDoorP0
import Derived.Test.YtkpoipjgbdcdjaaDoorHparse
namespace Go.Proofs.YtkpoipjgbdcdjaaDoor.P
open Go.RowKit Go.Proofs.YtkpoipjgbdcdjaaDoorW.PrintWords Go.Proofs.YtkpoipjgbdcdjaaDoorW.PrintLast Go.Proofs.YtkpoipjgbdcdjaaDoorW.PrintMore
attribute [local go_sem] max2_int min2_int max_two min_two max_three min_three max_four min_four   -- for this text's walks alone
set_option linter.unusedVariables false
set_option linter.unusedSimpArgs false

def drayagelaw01_says.f (a0 : ByteArray) (a1 : Bool) (a2 : Int) : Option (Bool) := (quant_Parse.f a0 a1).bind fun bt145 => (if bt145.1 = a2 then (if bt145.2.1 = 0 then (some (bt145.2.2 == 0)) else (some false)) else (some false))
set_option maxHeartbeats 8000000 in
set_option maxRecDepth 100000 in
theorem drayagelaw01_says.calls (a0 : ByteArray) (a1 : Bool) (a2 : Int) (r : Bool) (w : World) (h : drayagelaw01_says.f a0 a1 a2 = some r) :
  Calls Tryd.prog 21 #[.string a0, .bool a1, .int .i64 a2] w fun e w' => e = .returned (.bool r) ∧ Below w.heap.size w w' := by
 have HB := Aside0.mk (Below.refl w.heap.size w)
 have H : ((quant_Parse.f a0 a1).bind fun bt145 => (if bt145.1 = a2 then (if bt145.2.1 = 0 then (some (bt145.2.2 == 0)) else (some false)) else (some false))) = some r := h
 clear h
 replace H := Option.bind_eq_some_iff.mp H
 obtain ⟨⟨t145, t146, t147⟩, A40, H⟩ := H
 try dsimp only at H
 have A4 := Aside0.mk A40
 clear A40
 by_cases c5 : t145 = a2
 ·rw [if_pos c5] at H
  have c5b0 : (t145 == a2) = true := beq_iff_eq.mpr c5
  have c5b1 : (t145 != a2) = false := bne_eq_false_iff_eq.mpr c5
  clear c5
  by_cases c6 : t146 = 0
  ·rw [if_pos c6] at H
   have c6b0 : (t146 == 0) = true := beq_iff_eq.mpr c6
   have c6b1 : (t146 != 0) = false := bne_eq_false_iff_eq.mpr c6
   clear c6
   obtain rfl := Option.some.inj H
   go_enter Tryd.func21, Tryd.ntmps21
   go_wp2_with (first | ((with_reducible refine gate_callee (f := 11) rfl ?_); refine goesL_ (some 13) rfl rfl Tryd.func11 (by kernel_rfl) rfl #[.string a0, .bool a1] rfl ca_ ?_; (with_reducible refine (quant_Parse.calls a0 a1 t145 t146 t147 _ A4.out).mono ?_); rintro e w7 ⟨rfl, hb⟩; refine ⟨_, rfl, ?_⟩; replace HB := Aside0.mk (below_step bw_ hb); (try clear hb); (try clear hb2); (try clear hk); (try clear hi)))
   go_ret
   exact ⟨fi_, bw_⟩
  ·rw [if_neg c6] at H
   have c6b0 : (t146 == 0) = false := beq_eq_false_iff_ne.mpr c6
   have c6b1 : (t146 != 0) = true := bne_iff_ne.mpr c6
   obtain rfl := Option.some.inj H
   go_enter Tryd.func21, Tryd.ntmps21
   go_wp2_with (first | ((with_reducible refine gate_callee (f := 11) rfl ?_); refine goesL_ (some 13) rfl rfl Tryd.func11 (by kernel_rfl) rfl #[.string a0, .bool a1] rfl ca_ ?_; (with_reducible refine (quant_Parse.calls a0 a1 t145 t146 t147 _ A4.out).mono ?_); rintro e w8 ⟨rfl, hb⟩; refine ⟨_, rfl, ?_⟩; replace HB := Aside0.mk (below_step bw_ hb); (try clear hb); (try clear hb2); (try clear hk); (try clear hi)))
   go_ret
   exact ⟨fi_, bw_⟩
 ·rw [if_neg c5] at H
  have c5b0 : (t145 == a2) = false := beq_eq_false_iff_ne.mpr c5
  have c5b1 : (t145 != a2) = true := bne_iff_ne.mpr c5
  obtain rfl := Option.some.inj H
  go_enter Tryd.func21, Tryd.ntmps21
  go_wp2_with (first | ((with_reducible refine gate_callee (f := 11) rfl ?_); refine goesL_ (some 13) rfl rfl Tryd.func11 (by kernel_rfl) rfl #[.string a0, .bool a1] rfl ca_ ?_; (with_reducible refine (quant_Parse.calls a0 a1 t145 t146 t147 _ A4.out).mono ?_); rintro e w9 ⟨rfl, hb⟩; refine ⟨_, rfl, ?_⟩; replace HB := Aside0.mk (below_step bw_ hb); (try clear hb); (try clear hb2); (try clear hk); (try clear hi)))
  go_ret
  exact ⟨fi_, bw_⟩

end Go.Proofs.YtkpoipjgbdcdjaaDoor.P
