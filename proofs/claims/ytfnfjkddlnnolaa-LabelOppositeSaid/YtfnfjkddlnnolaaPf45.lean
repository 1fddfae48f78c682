import Derived.Test.YtfnfjkddlnnolaaP0
import Derived.Test.YtfnfjkddlnnolaaPf44
namespace Go.Proofs.Ytfnfjkddlnnolaa.P
open Go.RowKit Go.Proofs.YtfnfjkddlnnolaaW.PrintWords Go.Proofs.YtfnfjkddlnnolaaW.PrintLast Go.Proofs.YtfnfjkddlnnolaaW.PrintMore
attribute [local go_sem] max2_int min2_int max_two min_two max_three min_three max_four min_four   -- for this text's walks alone
set_option linter.unusedVariables false
set_option linter.unusedSimpArgs false

def drayagelaw03_small.f (a0 : Int) : Option (ByteArray) := (some (([(⟨#[97]⟩ : ByteArray), (⟨#[98]⟩ : ByteArray), (⟨#[99, 57]⟩ : ByteArray), (⟨#[100, 45, 101]⟩ : ByteArray), (⟨#[122, 111, 110, 101]⟩ : ByteArray), (⟨#[97, 98, 99, 100, 101, 102, 103, 104, 105, 106, 107, 108, 109, 110, 111]⟩ : ByteArray), (⟨#[120]⟩ : ByteArray), (⟨#[121, 45]⟩ : ByteArray)] : List ByteArray) : List ByteArray)).bind fun y345 => ((drayageref00_Bring.f a0 (y345.length : Int)).bind fun t348 => (if 0 ≤ t348 then (if t348 < (y345.length : Int) then (some (rdOf ByteArray.empty y345 t348)) else (none)) else (none)))
set_option maxHeartbeats 8000000 in
set_option maxRecDepth 100000 in
theorem drayagelaw03_small.calls (a0 : Int) (r : ByteArray) (w : World) (h : drayagelaw03_small.f a0 = some r) :
  Calls Try.prog 45 #[.int .i64 a0] w fun e w' => e = .returned (.string r) ∧ Below w.heap.size w w' := by
 have HB := Aside0.mk (Below.refl w.heap.size w)
 have H : ((some (([(⟨#[97]⟩ : ByteArray), (⟨#[98]⟩ : ByteArray), (⟨#[99, 57]⟩ : ByteArray), (⟨#[100, 45, 101]⟩ : ByteArray), (⟨#[122, 111, 110, 101]⟩ : ByteArray), (⟨#[97, 98, 99, 100, 101, 102, 103, 104, 105, 106, 107, 108, 109, 110, 111]⟩ : ByteArray), (⟨#[120]⟩ : ByteArray), (⟨#[121, 45]⟩ : ByteArray)] : List ByteArray) : List ByteArray)).bind fun y345 => ((drayageref00_Bring.f a0 (y345.length : Int)).bind fun t348 => (if 0 ≤ t348 then (if t348 < (y345.length : Int) then (some (rdOf ByteArray.empty y345 t348)) else (none)) else (none)))) = some r := h
 clear h
 obtain ⟨y345, hy345⟩ : ∃ y_ : List ByteArray, y_ = (([(⟨#[97]⟩ : ByteArray), (⟨#[98]⟩ : ByteArray), (⟨#[99, 57]⟩ : ByteArray), (⟨#[100, 45, 101]⟩ : ByteArray), (⟨#[122, 111, 110, 101]⟩ : ByteArray), (⟨#[97, 98, 99, 100, 101, 102, 103, 104, 105, 106, 107, 108, 109, 110, 111]⟩ : ByteArray), (⟨#[120]⟩ : ByteArray), (⟨#[121, 45]⟩ : ByteArray)] : List ByteArray)) := ⟨_, rfl⟩
 replace H : ((drayageref00_Bring.f a0 (y345.length : Int)).bind fun t348 => (if 0 ≤ t348 then (if t348 < (y345.length : Int) then (some (rdOf ByteArray.empty y345 t348)) else (none)) else (none))) = some r := by first | (rw [hy345]; with_reducible exact H) | (have H2_ := (Option.bind_some _ _).symm.trans H; rw [hy345]; with_reducible exact H2_) | (have H2_ := (Option.bind_some _ _).symm.trans H; with_reducible exact H2_) | with_reducible exact H | (rw [hy345]; exact H) | exact H
 have Ny345 := Aside0.mk hy345
 clear hy345
 replace H := Option.bind_eq_some_iff.mp H
 obtain ⟨t348, A20, H⟩ := H
 try dsimp only at H
 have A2 := Aside0.mk A20
 clear A20
 by_cases c3 : 0 ≤ t348
 ·rw [if_pos c3] at H
  have c3b0 : decide (0 ≤ t348) = true := decide_eq_true c3
  clear c3
  by_cases c4 : t348 < (y345.length : Int)
  ·rw [if_pos c4] at H
   have c4b0 : decide (t348 < (y345.length : Int)) = true := decide_eq_true c4
   clear c4
   obtain rfl := Option.some.inj H
   go_enter Try.func45, Try.ntmps45
   go_wp2_with (first | ((with_reducible refine gate_dst (N := 4) rfl ?_); refine Kd.R_lit Kd.string _ 9 ?hg (N := 4) ?hd (xs := ([(⟨#[97]⟩ : ByteArray), (⟨#[98]⟩ : ByteArray), (⟨#[99, 57]⟩ : ByteArray), (⟨#[100, 45, 101]⟩ : ByteArray), (⟨#[122, 111, 110, 101]⟩ : ByteArray), (⟨#[97, 98, 99, 100, 101, 102, 103, 104, 105, 106, 107, 108, 109, 110, 111]⟩ : ByteArray), (⟨#[120]⟩ : ByteArray), (⟨#[121, 45]⟩ : ByteArray)] : List ByteArray)) (inner := [.string (⟨#[97]⟩ : ByteArray), .string (⟨#[98]⟩ : ByteArray), .string (⟨#[99, 57]⟩ : ByteArray), .string (⟨#[100, 45, 101]⟩ : ByteArray), .string (⟨#[122, 111, 110, 101]⟩ : ByteArray), .string (⟨#[97, 98, 99, 100, 101, 102, 103, 104, 105, 106, 107, 108, 109, 110, 111]⟩ : ByteArray), .string (⟨#[120]⟩ : ByteArray), .string (⟨#[121, 45]⟩ : ByteArray)]) (ok := fun _ => True) (okp := fun _ => True) ?hr ?hp (fun _ hk => hk) trivial (Below.refl _ _) (Nat.le_refl _) (by simp) ?_; (case hd => rfl); (case hg => rfl); (case hr => first | (go_simp; done) | (go_simp; rfl)); (case hp => exact (Reps.one (show Kd.M Kd.string _ _ _ (⟨#[97]⟩ : ByteArray) [.string (⟨#[97]⟩ : ByteArray)] from rfl) (Reps.one (show Kd.M Kd.string _ _ _ (⟨#[98]⟩ : ByteArray) [.string (⟨#[98]⟩ : ByteArray)] from rfl) (Reps.one (show Kd.M Kd.string _ _ _ (⟨#[99, 57]⟩ : ByteArray) [.string (⟨#[99, 57]⟩ : ByteArray)] from rfl) (Reps.one (show Kd.M Kd.string _ _ _ (⟨#[100, 45, 101]⟩ : ByteArray) [.string (⟨#[100, 45, 101]⟩ : ByteArray)] from rfl) (Reps.one (show Kd.M Kd.string _ _ _ (⟨#[122, 111, 110, 101]⟩ : ByteArray) [.string (⟨#[122, 111, 110, 101]⟩ : ByteArray)] from rfl) (Reps.one (show Kd.M Kd.string _ _ _ (⟨#[97, 98, 99, 100, 101, 102, 103, 104, 105, 106, 107, 108, 109, 110, 111]⟩ : ByteArray) [.string (⟨#[97, 98, 99, 100, 101, 102, 103, 104, 105, 106, 107, 108, 109, 110, 111]⟩ : ByteArray)] from rfl) (Reps.one (show Kd.M Kd.string _ _ _ (⟨#[120]⟩ : ByteArray) [.string (⟨#[120]⟩ : ByteArray)] from rfl) (Reps.one (show Kd.M Kd.string _ _ _ (⟨#[121, 45]⟩ : ByteArray) [.string (⟨#[121, 45]⟩ : ByteArray)] from rfl) (Reps.none _ _)))))))))); intro v346 w5 ho6 hb hg_ hnew_; clear hg_ hnew_; (first | rw [← Ny345.out] at ho6 | (simp only [Int.reduceToNat] at ho6; rw [← Ny345.out] at ho6)); have HO347 := Aside0.mk (Kd.R_lower ho6 (below_size bw_)); replace HB := Aside0.mk (below_step bw_ hb); clear hb ho6; obtain ⟨Ao7, co7, eo7⟩ := Kd.R_slice HO347.out; subst eo7) | ((with_reducible refine gate_callee (f := 44) rfl ?_); refine goesL_ (some 9) rfl rfl Try.func44 (by kernel_rfl) rfl #[.int .i64 a0, .int .i64 (y345.length : Int)] rfl ca_ ?_; (with_reducible refine (drayageref00_Bring.calls a0 (y345.length : Int) t348 _ A2.out).mono ?_); rintro e w' ⟨rfl, ⟨nd, rfl⟩⟩; refine ⟨_, rfl, ?_⟩; have p349 : 0 ≤ (t348 : Int) := of_decide_eq_true (by first | (with_reducible assumption) | assumption); have q349 : t348 < (y345.length : Int) := of_decide_eq_true (by first | (with_reducible assumption) | assumption); obtain ⟨ad349, e349, hx349_0⟩ := Kd.at_string (Kd.R_reads' HO347.out).2.2 t348 p349 q349; cases e349; replace p349 := eq_true p349; replace q349 := eq_true q349))
   go_ret
   exact ⟨fi_, bw_⟩
  ·rw [if_neg c4] at H
   exact absurd H (by simp)
 ·rw [if_neg c3] at H
  exact absurd H (by simp)

end Go.Proofs.Ytfnfjkddlnnolaa.P
