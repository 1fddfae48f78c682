import Derived.Test.YtfnfjkddlnnolaaP0
import Derived.Test.YtfnfjkddlnnolaaHread
namespace Go.Proofs.Ytfnfjkddlnnolaa.P
open Go.RowKit Go.Proofs.YtfnfjkddlnnolaaW.PrintWords Go.Proofs.YtfnfjkddlnnolaaW.PrintLast Go.Proofs.YtfnfjkddlnnolaaW.PrintMore
attribute [local go_sem] max2_int min2_int max_two min_two max_three min_three max_four min_four   -- for this text's walks alone
set_option linter.unusedVariables false
set_option linter.unusedSimpArgs false

def drayagelaw03_wrong.f (a0 : ByteArray) (a1 : Int) (a2 : Int) : Option (Bool) := (label_Labels.f a0).bind fun bt189 => (if (bt189.1.length : Int) = 0 then (if bt189.2.1 = a1 then (some (bt189.2.2 == a2)) else (some false)) else (some false))
set_option maxHeartbeats 8000000 in
set_option maxRecDepth 100000 in
theorem drayagelaw03_wrong.calls (a0 : ByteArray) (a1 : Int) (a2 : Int) (r : Bool) (w : World) (h : drayagelaw03_wrong.f a0 a1 a2 = some r) :
  Calls Try.prog 42 #[.string a0, .int .i64 a1, .int .i64 a2] w fun e w' => e = .returned (.bool r) ∧ Below w.heap.size w w' := by
 have HB := Aside0.mk (Below.refl w.heap.size w)
 have H : ((label_Labels.f a0).bind fun bt189 => (if (bt189.1.length : Int) = 0 then (if bt189.2.1 = a1 then (some (bt189.2.2 == a2)) else (some false)) else (some false))) = some r := h
 clear h
 replace H := Option.bind_eq_some_iff.mp H
 obtain ⟨⟨t189, t190, t191⟩, A40, H⟩ := H
 try dsimp only at H
 have A4 := Aside0.mk A40
 clear A40
 by_cases c5 : (t189.length : Int) = 0
 ·rw [if_pos c5] at H
  have c5b0 : ((t189.length : Int) == 0) = true := beq_iff_eq.mpr c5
  have c5b1 : ((t189.length : Int) != 0) = false := bne_eq_false_iff_eq.mpr c5
  clear c5
  by_cases c6 : t190 = a1
  ·rw [if_pos c6] at H
   have c6b0 : (t190 == a1) = true := beq_iff_eq.mpr c6
   have c6b1 : (t190 != a1) = false := bne_eq_false_iff_eq.mpr c6
   clear c6
   obtain rfl := Option.some.inj H
   go_enter Try.func42, Try.ntmps42
   go_wp2_with (first | ((with_reducible refine gate_callee (f := 8) rfl ?_); refine goesL_ (some 12) rfl rfl Try.func8 (by kernel_rfl) rfl #[.string a0] rfl ca_ ?_; (with_reducible refine (label_Labels.calls a0 t189 t190 t191 _ A4.out).mono ?_); rintro e w7 ⟨v192, rfl, ho0, hb⟩; refine ⟨_, rfl, ?_⟩; have HO193 := Aside0.mk (Kd.R_lower ho0 (below_size bw_)); replace HB := Aside0.mk (below_step bw_ hb); (try clear hb); (try clear hb2); (try clear hk); (try clear hi); (try clear ho0); obtain ⟨Ao8, co8, eo8⟩ := Kd.R_slice HO193.out; subst eo8))
   go_ret
   exact ⟨fi_, bw_⟩
  ·rw [if_neg c6] at H
   have c6b0 : (t190 == a1) = false := beq_eq_false_iff_ne.mpr c6
   have c6b1 : (t190 != a1) = true := bne_iff_ne.mpr c6
   obtain rfl := Option.some.inj H
   go_enter Try.func42, Try.ntmps42
   go_wp2_with (first | ((with_reducible refine gate_callee (f := 8) rfl ?_); refine goesL_ (some 12) rfl rfl Try.func8 (by kernel_rfl) rfl #[.string a0] rfl ca_ ?_; (with_reducible refine (label_Labels.calls a0 t189 t190 t191 _ A4.out).mono ?_); rintro e w9 ⟨v192, rfl, ho0, hb⟩; refine ⟨_, rfl, ?_⟩; have HO193 := Aside0.mk (Kd.R_lower ho0 (below_size bw_)); replace HB := Aside0.mk (below_step bw_ hb); (try clear hb); (try clear hb2); (try clear hk); (try clear hi); (try clear ho0); obtain ⟨Ao10, co10, eo10⟩ := Kd.R_slice HO193.out; subst eo10))
   go_ret
   exact ⟨fi_, bw_⟩
 ·rw [if_neg c5] at H
  have c5b0 : ((t189.length : Int) == 0) = false := beq_eq_false_iff_ne.mpr c5
  have c5b1 : ((t189.length : Int) != 0) = true := bne_iff_ne.mpr c5
  have c5b2 : ¬ (t189 = []) := fun h_ => c5 (by rw [h_]; rfl)
  obtain rfl := Option.some.inj H
  go_enter Try.func42, Try.ntmps42
  go_wp2_with (first | ((with_reducible refine gate_callee (f := 8) rfl ?_); refine goesL_ (some 12) rfl rfl Try.func8 (by kernel_rfl) rfl #[.string a0] rfl ca_ ?_; (with_reducible refine (label_Labels.calls a0 t189 t190 t191 _ A4.out).mono ?_); rintro e w11 ⟨v192, rfl, ho0, hb⟩; refine ⟨_, rfl, ?_⟩; have HO193 := Aside0.mk (Kd.R_lower ho0 (below_size bw_)); replace HB := Aside0.mk (below_step bw_ hb); (try clear hb); (try clear hb2); (try clear hk); (try clear hi); (try clear ho0); obtain ⟨Ao12, co12, eo12⟩ := Kd.R_slice HO193.out; subst eo12))
  go_ret
  exact ⟨fi_, bw_⟩

end Go.Proofs.Ytfnfjkddlnnolaa.P
