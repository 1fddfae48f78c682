import Derived.Test.YtkpoipjgbdcdjaaDoorP0
import Derived.Test.YtkpoipjgbdcdjaaDoorPf44
import Derived.Test.YtkpoipjgbdcdjaaDoorPf45
namespace Go.Proofs.YtkpoipjgbdcdjaaDoor.P
open Go.RowKit Go.Proofs.YtkpoipjgbdcdjaaDoorW.PrintWords Go.Proofs.YtkpoipjgbdcdjaaDoorW.PrintLast Go.Proofs.YtkpoipjgbdcdjaaDoorW.PrintMore
attribute [local go_sem] max2_int min2_int max_two min_two max_three min_three max_four min_four   -- for this text's walks alone
set_option linter.unusedVariables false
set_option linter.unusedSimpArgs false

def drayageref01_Percent.f (k : Nat) (a0 : ByteArray) : Option (Int × Int × Int) := (drayageref01_whole.f k a0).bind fun bt118 => (if bt118.2.2 = 0 then ((drayageref01_point.f k a0 bt118.2.1 1).bind fun bt121 => (if bt121.2.2 = 0 then (if bt121.2.1 ≥ (a0.size : Int) then (some (0, bt121.2.1, 3)) else (if 0 ≤ bt121.2.1 then (if bt121.2.1 < (a0.size : Int) then (if (bt a0 bt121.2.1) = 37 then (if (wrap64 (bt121.2.1 + 1)) < (a0.size : Int) then (some (0, wrap64 (bt121.2.1 + 1), 4)) else (if (wrap64 ((wrap64 (10 * bt118.1)) + bt121.1)) > 1000 then (some (0, 0, 10)) else (some (wrap64 ((wrap64 (10 * bt118.1)) + bt121.1), 0, 0)))) else (some (0, bt121.2.1, 4))) else (none)) else (none))) else (some (0, bt121.2.1, bt121.2.2)))) else (some (0, bt118.2.1, bt118.2.2)))
theorem drayageref01_Percent.mono : ∀ a0 k, LeO (drayageref01_Percent.f k a0) (drayageref01_Percent.f (k + 1) a0) := by
 intro a0 k
 unfold drayageref01_Percent.f
 repeat' first
   | (with_reducible exact drayageref01_point.mono _ _ _ _)
   | (with_reducible exact drayageref01_whole.mono _ _)
   | (with_reducible exact LeO.refl _)
   | (with_reducible exact LeO.none _)
   | (with_reducible refine LeO.ite ?_ ?_)
   | (with_reducible refine LeO.bind ?_ (fun _ => ?_))
   | exact drayageref01_point.mono _ _ _ _
   | exact drayageref01_whole.mono _ _
   | exact LeO.none _
   | refine LeO.ite ?_ ?_
   | refine LeO.bind ?_ (fun _ => ?_)
set_option maxHeartbeats 8000000 in
set_option maxRecDepth 100000 in
theorem drayageref01_Percent.calls (k : Nat) (a0 : ByteArray) (r1 : Int) (r2 : Int) (r3 : Int) (w : World) (h : drayageref01_Percent.f k a0 = some (r1, r2, r3)) :
  Calls Tryd.prog 14 #[.string a0] w fun e w' => e = .returned (.tuple #[.int .i64 r1, .int .i64 r2, .int .i64 r3]) ∧ Below w.heap.size w w' := by
 have HB := Aside0.mk (Below.refl w.heap.size w)
 have H : ((drayageref01_whole.f k a0).bind fun bt118 => (if bt118.2.2 = 0 then ((drayageref01_point.f k a0 bt118.2.1 1).bind fun bt121 => (if bt121.2.2 = 0 then (if bt121.2.1 ≥ (a0.size : Int) then (some (0, bt121.2.1, 3)) else (if 0 ≤ bt121.2.1 then (if bt121.2.1 < (a0.size : Int) then (if (bt a0 bt121.2.1) = 37 then (if (wrap64 (bt121.2.1 + 1)) < (a0.size : Int) then (some (0, wrap64 (bt121.2.1 + 1), 4)) else (if (wrap64 ((wrap64 (10 * bt118.1)) + bt121.1)) > 1000 then (some (0, 0, 10)) else (some (wrap64 ((wrap64 (10 * bt118.1)) + bt121.1), 0, 0)))) else (some (0, bt121.2.1, 4))) else (none)) else (none))) else (some (0, bt121.2.1, bt121.2.2)))) else (some (0, bt118.2.1, bt118.2.2)))) = some (r1, r2, r3) := h
 clear h
 replace H := Option.bind_eq_some_iff.mp H
 obtain ⟨⟨t118, t119, t120⟩, A20, H⟩ := H
 try dsimp only at H
 have A2 := Aside0.mk A20
 clear A20
 by_cases c3 : t120 = 0
 ·rw [if_pos c3] at H
  have c3b0 : (t120 == 0) = true := beq_iff_eq.mpr c3
  have c3b1 : (t120 != 0) = false := bne_eq_false_iff_eq.mpr c3
  clear c3
  replace H := Option.bind_eq_some_iff.mp H
  obtain ⟨⟨t121, t122, t123⟩, A40, H⟩ := H
  try dsimp only at H
  have A4 := Aside0.mk A40
  clear A40
  by_cases c5 : t123 = 0
  ·rw [if_pos c5] at H
   have c5b0 : (t123 == 0) = true := beq_iff_eq.mpr c5
   have c5b1 : (t123 != 0) = false := bne_eq_false_iff_eq.mpr c5
   clear c5
   by_cases c6 : t122 ≥ (a0.size : Int)
   ·rw [if_pos c6] at H
    have c6b0 : decide ((a0.size : Int) ≤ t122) = true := decide_eq_true c6
    clear c6
    simp only [Option.some.injEq, Prod.mk.injEq] at H
    obtain ⟨rfl, rfl, rfl⟩ := H
    go_enter Tryd.func14, Tryd.ntmps14
    go_wp2_with (first | ((with_reducible refine gate_callee (f := 44) rfl ?_); refine goesL_ (some 11) rfl rfl Tryd.func44 (by kernel_rfl) rfl #[.string a0] rfl ca_ ?_; (with_reducible refine (drayageref01_whole.calls k a0 t118 t119 t120 _ A2.out).mono ?_); rintro e w7 ⟨rfl, hb⟩; refine ⟨_, rfl, ?_⟩; replace HB := Aside0.mk (below_step bw_ hb); (try clear hb); (try clear hb2); (try clear hk); (try clear hi)) | ((with_reducible refine gate_callee (f := 45) rfl ?_); refine goesL_ (some 22) rfl rfl Tryd.func45 (by kernel_rfl) rfl #[.string a0, .int .i64 t119, .int .i64 1] rfl ca_ ?_; (with_reducible refine (drayageref01_point.calls k a0 t119 1 t121 t122 t123 _ A4.out).mono ?_); rintro e w' ⟨rfl, ⟨nd, rfl⟩⟩; refine ⟨_, rfl, ?_⟩))
    go_ret3
    exact ⟨fi_, bw_⟩
   ·rw [if_neg c6] at H
    have c6b0 : decide ((a0.size : Int) ≤ t122) = false := decide_eq_false c6
    clear c6
    by_cases c8 : 0 ≤ t122
    ·rw [if_pos c8] at H
     have c8b0 : decide (0 ≤ t122) = true := decide_eq_true c8
     clear c8
     by_cases c9 : t122 < (a0.size : Int)
     ·rw [if_pos c9] at H
      have c9b0 : decide (t122 < (a0.size : Int)) = true := decide_eq_true c9
      clear c9
      by_cases c11 : (bt a0 t122) = 37
      ·rw [if_pos c11] at H
       have c11b0 : ((bt a0 t122) == 37) = true := beq_iff_eq.mpr c11
       have c11b1 : ((bt a0 t122) != 37) = false := bne_eq_false_iff_eq.mpr c11
       clear c11
       by_cases c12 : (wrap64 (t122 + 1)) < (a0.size : Int)
       ·rw [if_pos c12] at H
        have c12b0 : decide ((wrap64 (t122 + 1)) < (a0.size : Int)) = true := decide_eq_true c12
        clear c12
        simp only [Option.some.injEq, Prod.mk.injEq] at H
        obtain ⟨rfl, rfl, rfl⟩ := H
        go_enter Tryd.func14, Tryd.ntmps14
        go_wp2_with (first | ((with_reducible refine gate_callee (f := 44) rfl ?_); refine goesL_ (some 11) rfl rfl Tryd.func44 (by kernel_rfl) rfl #[.string a0] rfl ca_ ?_; (with_reducible refine (drayageref01_whole.calls k a0 t118 t119 t120 _ A2.out).mono ?_); rintro e w13 ⟨rfl, hb⟩; refine ⟨_, rfl, ?_⟩; replace HB := Aside0.mk (below_step bw_ hb); (try clear hb); (try clear hb2); (try clear hk); (try clear hi)) | ((with_reducible refine gate_callee (f := 45) rfl ?_); refine goesL_ (some 22) rfl rfl Tryd.func45 (by kernel_rfl) rfl #[.string a0, .int .i64 t119, .int .i64 1] rfl ca_ ?_; (with_reducible refine (drayageref01_point.calls k a0 t119 1 t121 t122 t123 _ A4.out).mono ?_); rintro e w' ⟨rfl, ⟨nd, rfl⟩⟩; refine ⟨_, rfl, ?_⟩; have p10 : 0 ≤ (t122 : Int) := of_decide_eq_true (by first | (with_reducible assumption) | assumption); have q10 : t122 < (a0.size : Int) := of_decide_eq_true (by first | (with_reducible assumption) | assumption); have hx10 := bt_at a0 t122; replace p10 := eq_true p10; replace q10 := eq_true q10))
        go_ret3
        exact ⟨fi_, bw_⟩
       ·rw [if_neg c12] at H
        have c12b0 : decide ((wrap64 (t122 + 1)) < (a0.size : Int)) = false := decide_eq_false c12
        clear c12
        by_cases c14 : (wrap64 ((wrap64 (10 * t118)) + t121)) > 1000
        ·rw [if_pos c14] at H
         have c14b0 : decide (1000 < (wrap64 ((wrap64 (10 * t118)) + t121))) = true := decide_eq_true c14
         clear c14
         simp only [Option.some.injEq, Prod.mk.injEq] at H
         obtain ⟨rfl, rfl, rfl⟩ := H
         go_enter Tryd.func14, Tryd.ntmps14
         go_wp2_with (first | ((with_reducible refine gate_callee (f := 44) rfl ?_); refine goesL_ (some 11) rfl rfl Tryd.func44 (by kernel_rfl) rfl #[.string a0] rfl ca_ ?_; (with_reducible refine (drayageref01_whole.calls k a0 t118 t119 t120 _ A2.out).mono ?_); rintro e w15 ⟨rfl, hb⟩; refine ⟨_, rfl, ?_⟩; replace HB := Aside0.mk (below_step bw_ hb); (try clear hb); (try clear hb2); (try clear hk); (try clear hi)) | ((with_reducible refine gate_callee (f := 45) rfl ?_); refine goesL_ (some 22) rfl rfl Tryd.func45 (by kernel_rfl) rfl #[.string a0, .int .i64 t119, .int .i64 1] rfl ca_ ?_; (with_reducible refine (drayageref01_point.calls k a0 t119 1 t121 t122 t123 _ A4.out).mono ?_); rintro e w' ⟨rfl, ⟨nd, rfl⟩⟩; refine ⟨_, rfl, ?_⟩; have p10 : 0 ≤ (t122 : Int) := of_decide_eq_true (by first | (with_reducible assumption) | assumption); have q10 : t122 < (a0.size : Int) := of_decide_eq_true (by first | (with_reducible assumption) | assumption); have hx10 := bt_at a0 t122; replace p10 := eq_true p10; replace q10 := eq_true q10))
         go_ret3
         exact ⟨fi_, bw_⟩
        ·rw [if_neg c14] at H
         have c14b0 : decide (1000 < (wrap64 ((wrap64 (10 * t118)) + t121))) = false := decide_eq_false c14
         clear c14
         simp only [Option.some.injEq, Prod.mk.injEq] at H
         obtain ⟨rfl, rfl, rfl⟩ := H
         go_enter Tryd.func14, Tryd.ntmps14
         go_wp2_with (first | ((with_reducible refine gate_callee (f := 44) rfl ?_); refine goesL_ (some 11) rfl rfl Tryd.func44 (by kernel_rfl) rfl #[.string a0] rfl ca_ ?_; (with_reducible refine (drayageref01_whole.calls k a0 t118 t119 t120 _ A2.out).mono ?_); rintro e w16 ⟨rfl, hb⟩; refine ⟨_, rfl, ?_⟩; replace HB := Aside0.mk (below_step bw_ hb); (try clear hb); (try clear hb2); (try clear hk); (try clear hi)) | ((with_reducible refine gate_callee (f := 45) rfl ?_); refine goesL_ (some 22) rfl rfl Tryd.func45 (by kernel_rfl) rfl #[.string a0, .int .i64 t119, .int .i64 1] rfl ca_ ?_; (with_reducible refine (drayageref01_point.calls k a0 t119 1 t121 t122 t123 _ A4.out).mono ?_); rintro e w' ⟨rfl, ⟨nd, rfl⟩⟩; refine ⟨_, rfl, ?_⟩; have p10 : 0 ≤ (t122 : Int) := of_decide_eq_true (by first | (with_reducible assumption) | assumption); have q10 : t122 < (a0.size : Int) := of_decide_eq_true (by first | (with_reducible assumption) | assumption); have hx10 := bt_at a0 t122; replace p10 := eq_true p10; replace q10 := eq_true q10))
         go_ret3
         exact ⟨fi_, bw_⟩
      ·rw [if_neg c11] at H
       have c11b0 : ((bt a0 t122) == 37) = false := beq_eq_false_iff_ne.mpr c11
       have c11b1 : ((bt a0 t122) != 37) = true := bne_iff_ne.mpr c11
       simp only [Option.some.injEq, Prod.mk.injEq] at H
       obtain ⟨rfl, rfl, rfl⟩ := H
       go_enter Tryd.func14, Tryd.ntmps14
       go_wp2_with (first | ((with_reducible refine gate_callee (f := 44) rfl ?_); refine goesL_ (some 11) rfl rfl Tryd.func44 (by kernel_rfl) rfl #[.string a0] rfl ca_ ?_; (with_reducible refine (drayageref01_whole.calls k a0 t118 t119 t120 _ A2.out).mono ?_); rintro e w17 ⟨rfl, hb⟩; refine ⟨_, rfl, ?_⟩; replace HB := Aside0.mk (below_step bw_ hb); (try clear hb); (try clear hb2); (try clear hk); (try clear hi)) | ((with_reducible refine gate_callee (f := 45) rfl ?_); refine goesL_ (some 22) rfl rfl Tryd.func45 (by kernel_rfl) rfl #[.string a0, .int .i64 t119, .int .i64 1] rfl ca_ ?_; (with_reducible refine (drayageref01_point.calls k a0 t119 1 t121 t122 t123 _ A4.out).mono ?_); rintro e w' ⟨rfl, ⟨nd, rfl⟩⟩; refine ⟨_, rfl, ?_⟩; have p10 : 0 ≤ (t122 : Int) := of_decide_eq_true (by first | (with_reducible assumption) | assumption); have q10 : t122 < (a0.size : Int) := of_decide_eq_true (by first | (with_reducible assumption) | assumption); have hx10 := bt_at a0 t122; replace p10 := eq_true p10; replace q10 := eq_true q10))
       go_ret3
       exact ⟨fi_, bw_⟩
     ·rw [if_neg c9] at H
      exact absurd H (by simp)
    ·rw [if_neg c8] at H
     exact absurd H (by simp)
  ·rw [if_neg c5] at H
   have c5b0 : (t123 == 0) = false := beq_eq_false_iff_ne.mpr c5
   have c5b1 : (t123 != 0) = true := bne_iff_ne.mpr c5
   simp only [Option.some.injEq, Prod.mk.injEq] at H
   obtain ⟨rfl, rfl, rfl⟩ := H
   go_enter Tryd.func14, Tryd.ntmps14
   go_wp2_with (first | ((with_reducible refine gate_callee (f := 44) rfl ?_); refine goesL_ (some 11) rfl rfl Tryd.func44 (by kernel_rfl) rfl #[.string a0] rfl ca_ ?_; (with_reducible refine (drayageref01_whole.calls k a0 t118 t119 t120 _ A2.out).mono ?_); rintro e w18 ⟨rfl, hb⟩; refine ⟨_, rfl, ?_⟩; replace HB := Aside0.mk (below_step bw_ hb); (try clear hb); (try clear hb2); (try clear hk); (try clear hi)) | ((with_reducible refine gate_callee (f := 45) rfl ?_); refine goesL_ (some 22) rfl rfl Tryd.func45 (by kernel_rfl) rfl #[.string a0, .int .i64 t119, .int .i64 1] rfl ca_ ?_; (with_reducible refine (drayageref01_point.calls k a0 t119 1 t121 t122 t123 _ A4.out).mono ?_); rintro e w' ⟨rfl, ⟨nd, rfl⟩⟩; refine ⟨_, rfl, ?_⟩))
   go_ret3
   exact ⟨fi_, bw_⟩
 ·rw [if_neg c3] at H
  have c3b0 : (t120 == 0) = false := beq_eq_false_iff_ne.mpr c3
  have c3b1 : (t120 != 0) = true := bne_iff_ne.mpr c3
  simp only [Option.some.injEq, Prod.mk.injEq] at H
  obtain ⟨rfl, rfl, rfl⟩ := H
  go_enter Tryd.func14, Tryd.ntmps14
  go_wp2_with (first | ((with_reducible refine gate_callee (f := 44) rfl ?_); refine goesL_ (some 11) rfl rfl Tryd.func44 (by kernel_rfl) rfl #[.string a0] rfl ca_ ?_; (with_reducible refine (drayageref01_whole.calls k a0 t118 t119 t120 _ A2.out).mono ?_); rintro e w19 ⟨rfl, hb⟩; refine ⟨_, rfl, ?_⟩; replace HB := Aside0.mk (below_step bw_ hb); (try clear hb); (try clear hb2); (try clear hk); (try clear hi)))
  go_ret3
  exact ⟨fi_, bw_⟩

end Go.Proofs.YtkpoipjgbdcdjaaDoor.P
