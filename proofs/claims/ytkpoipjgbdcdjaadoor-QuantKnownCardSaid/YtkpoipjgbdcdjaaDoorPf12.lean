import Derived.Test.YtkpoipjgbdcdjaaDoorP0
import Derived.Test.YtkpoipjgbdcdjaaDoorHdiv
import Derived.Test.YtkpoipjgbdcdjaaDoorHlib
import Derived.Test.YtkpoipjgbdcdjaaDoorPf44
import Derived.Test.YtkpoipjgbdcdjaaDoorPf45
import Derived.Test.YtkpoipjgbdcdjaaDoorPf46
namespace Go.Proofs.YtkpoipjgbdcdjaaDoor.P
open Go.RowKit Go.Proofs.YtkpoipjgbdcdjaaDoorW.PrintWords Go.Proofs.YtkpoipjgbdcdjaaDoorW.PrintLast Go.Proofs.YtkpoipjgbdcdjaaDoorW.PrintMore
attribute [local go_sem] max2_int min2_int max_two min_two max_three min_three max_four min_four   -- for this text's walks alone
set_option linter.unusedVariables false
set_option linter.unusedSimpArgs false

mutual
def drayageref01_Parse.j0 : Nat → Int → Int → Int → Int → Option (Int × Int × Int)
 | 0, _, _, _, _ => none
 | k + 1, x7, x10, x11, x12 => (bits_Mul64.f (IntKind.u64.wrap (wrap64 ((wrap64 (1000 * x7)) + x10))) (IntKind.u64.wrap (x11))).bind fun bt114 => (if bt114.1 ≥ x12 then (some (0, 0, 10)) else ((bits_Div64.f bt114.1 bt114.2 x12).bind fun bt116 => (if bt116.1 > 1099511627776 then (drayageref01_Parse.j1 k bt116.1 bt116.2 true) else (if bt116.1 = 1099511627776 then (drayageref01_Parse.j1 k bt116.1 bt116.2 (decide (bt116.2 > 0))) else (drayageref01_Parse.j1 k bt116.1 bt116.2 false)))))
def drayageref01_Parse.j1 : Nat → Int → Int → Bool → Option (Int × Int × Int)
 | 0, _, _, _ => none
 | k + 1, x15, x16, x80 => if x80 = true then (some (0, 0, 10)) else (if x16 > 0 then (some (0, 0, 4)) else (some (wrap64 (x15), 0, 0)))
end
def drayageref01_Parse.f (k : Nat) (a0 : ByteArray) (a1 : Bool) : Option (Int × Int × Int) := (drayageref01_whole.f k a0).bind fun bt105 => (if bt105.2.2 = 0 then ((drayageref01_point.f k a0 bt105.2.1 3).bind fun bt108 => (if bt108.2.2 = 0 then ((drayageref01_suffix.f k a0 bt108.2.1).bind fun bt111 => (if bt111.2.2 = 0 then (if a1 = true then (drayageref01_Parse.j0 k bt105.1 bt108.1 bt111.1 1000) else (drayageref01_Parse.j0 k bt105.1 bt108.1 bt111.1 1000000)) else (some (0, bt111.2.1, bt111.2.2)))) else (some (0, bt108.2.1, bt108.2.2)))) else (some (0, bt105.2.1, bt105.2.2)))
theorem drayageref01_Parse.mono_l : ∀ k, (∀ y0 y1 y2 y3, LeO (drayageref01_Parse.j0 k y0 y1 y2 y3) (drayageref01_Parse.j0 (k + 1) y0 y1 y2 y3)) ∧ (∀ y0 y1 y2, LeO (drayageref01_Parse.j1 k y0 y1 y2) (drayageref01_Parse.j1 (k + 1) y0 y1 y2))
 | 0 => ⟨fun _ _ _ _ r h => by simp [drayageref01_Parse.j0] at h, fun _ _ _ r h => by simp [drayageref01_Parse.j1] at h⟩
 | k + 1 => by
  obtain ⟨ih0, ih1⟩ := drayageref01_Parse.mono_l k
  refine ⟨?_, ?_⟩
  ·intro y0 y1 y2 y3
   unfold drayageref01_Parse.j0
   repeat' first
   | (with_reducible exact ih0 _ _ _ _)
   | (with_reducible exact ih1 _ _ _)
   | (with_reducible exact drayageref01_point.mono _ _ _ _)
   | (with_reducible exact drayageref01_suffix.mono _ _ _)
   | (with_reducible exact drayageref01_whole.mono _ _)
   | (with_reducible exact LeO.refl _)
   | (with_reducible exact LeO.none _)
   | (with_reducible refine LeO.ite ?_ ?_)
   | (with_reducible refine LeO.bind ?_ (fun _ => ?_))
   | exact ih0 _ _ _ _
   | exact ih1 _ _ _
   | exact drayageref01_point.mono _ _ _ _
   | exact drayageref01_suffix.mono _ _ _
   | exact drayageref01_whole.mono _ _
   | exact LeO.none _
   | refine LeO.ite ?_ ?_
   | refine LeO.bind ?_ (fun _ => ?_)
  ·intro y0 y1 y2
   unfold drayageref01_Parse.j1
   repeat' first
   | (with_reducible exact ih0 _ _ _ _)
   | (with_reducible exact ih1 _ _ _)
   | (with_reducible exact drayageref01_point.mono _ _ _ _)
   | (with_reducible exact drayageref01_suffix.mono _ _ _)
   | (with_reducible exact drayageref01_whole.mono _ _)
   | (with_reducible exact LeO.refl _)
   | (with_reducible exact LeO.none _)
   | (with_reducible refine LeO.ite ?_ ?_)
   | (with_reducible refine LeO.bind ?_ (fun _ => ?_))
   | exact ih0 _ _ _ _
   | exact ih1 _ _ _
   | exact drayageref01_point.mono _ _ _ _
   | exact drayageref01_suffix.mono _ _ _
   | exact drayageref01_whole.mono _ _
   | exact LeO.none _
   | refine LeO.ite ?_ ?_
   | refine LeO.bind ?_ (fun _ => ?_)
theorem drayageref01_Parse.mono : ∀ a0 a1 k, LeO (drayageref01_Parse.f k a0 a1) (drayageref01_Parse.f (k + 1) a0 a1) := by
 intro a0 a1 k
 obtain ⟨ih0, ih1⟩ := drayageref01_Parse.mono_l k
 unfold drayageref01_Parse.f
 repeat' first
   | (with_reducible exact ih0 _ _ _ _)
   | (with_reducible exact ih1 _ _ _)
   | (with_reducible exact drayageref01_point.mono _ _ _ _)
   | (with_reducible exact drayageref01_suffix.mono _ _ _)
   | (with_reducible exact drayageref01_whole.mono _ _)
   | (with_reducible exact LeO.refl _)
   | (with_reducible exact LeO.none _)
   | (with_reducible refine LeO.ite ?_ ?_)
   | (with_reducible refine LeO.bind ?_ (fun _ => ?_))
   | exact ih0 _ _ _ _
   | exact ih1 _ _ _
   | exact drayageref01_point.mono _ _ _ _
   | exact drayageref01_suffix.mono _ _ _
   | exact drayageref01_whole.mono _ _
   | exact LeO.none _
   | refine LeO.ite ?_ ?_
   | refine LeO.bind ?_ (fun _ => ?_)
set_option maxHeartbeats 8000000 in
set_option maxRecDepth 100000 in
theorem drayageref01_Parse.calls (k : Nat) (a0 : ByteArray) (a1 : Bool) (r1 : Int) (r2 : Int) (r3 : Int) (w : World) (h : drayageref01_Parse.f k a0 a1 = some (r1, r2, r3)) :
  Calls Tryd.prog 12 #[.string a0, .bool a1] w fun e w' => e = .returned (.tuple #[.int .i64 r1, .int .i64 r2, .int .i64 r3]) ∧ Below w.heap.size w w' := by
 have HB := Aside0.mk (Below.refl w.heap.size w)
 have H : ((drayageref01_whole.f k a0).bind fun bt105 => (if bt105.2.2 = 0 then ((drayageref01_point.f k a0 bt105.2.1 3).bind fun bt108 => (if bt108.2.2 = 0 then ((drayageref01_suffix.f k a0 bt108.2.1).bind fun bt111 => (if bt111.2.2 = 0 then (if a1 = true then (drayageref01_Parse.j0 k bt105.1 bt108.1 bt111.1 1000) else (drayageref01_Parse.j0 k bt105.1 bt108.1 bt111.1 1000000)) else (some (0, bt111.2.1, bt111.2.2)))) else (some (0, bt108.2.1, bt108.2.2)))) else (some (0, bt105.2.1, bt105.2.2)))) = some (r1, r2, r3) := h
 clear h
 replace H := Option.bind_eq_some_iff.mp H
 obtain ⟨⟨t105, t106, t107⟩, A30, H⟩ := H
 try dsimp only at H
 have A3 := Aside0.mk A30
 clear A30
 by_cases c4 : t107 = 0
 ·rw [if_pos c4] at H
  have c4b0 : (t107 == 0) = true := beq_iff_eq.mpr c4
  have c4b1 : (t107 != 0) = false := bne_eq_false_iff_eq.mpr c4
  clear c4
  replace H := Option.bind_eq_some_iff.mp H
  obtain ⟨⟨t108, t109, t110⟩, A50, H⟩ := H
  try dsimp only at H
  have A5 := Aside0.mk A50
  clear A50
  by_cases c6 : t110 = 0
  ·rw [if_pos c6] at H
   have c6b0 : (t110 == 0) = true := beq_iff_eq.mpr c6
   have c6b1 : (t110 != 0) = false := bne_eq_false_iff_eq.mpr c6
   clear c6
   replace H := Option.bind_eq_some_iff.mp H
   obtain ⟨⟨t111, t112, t113⟩, A70, H⟩ := H
   try dsimp only at H
   have A7 := Aside0.mk A70
   clear A70
   by_cases c8 : t113 = 0
   ·rw [if_pos c8] at H
    have c8b0 : (t113 == 0) = true := beq_iff_eq.mpr c8
    have c8b1 : (t113 != 0) = false := bne_eq_false_iff_eq.mpr c8
    clear c8
    have HC9 := Aside0.mk H
    clear H
    go_enter Tryd.func12, Tryd.ntmps12
    go_upto_if 49 with (first | ((with_reducible refine gate_callee (f := 44) rfl ?_); refine goesL_ (some 19) rfl rfl Tryd.func44 (by kernel_rfl) rfl #[.string a0] rfl ca_ ?_; (with_reducible refine (drayageref01_whole.calls k a0 t105 t106 t107 _ A3.out).mono ?_); rintro e w10 ⟨rfl, hb⟩; refine ⟨_, rfl, ?_⟩; replace HB := Aside0.mk (below_step bw_ hb); (try clear hb); (try clear hb2); (try clear hk); (try clear hi)) | ((with_reducible refine gate_callee (f := 45) rfl ?_); refine goesL_ (some 30) rfl rfl Tryd.func45 (by kernel_rfl) rfl #[.string a0, .int .i64 t106, .int .i64 3] rfl ca_ ?_; (with_reducible refine (drayageref01_point.calls k a0 t106 3 t108 t109 t110 _ A5.out).mono ?_); rintro e w' ⟨rfl, ⟨nd, rfl⟩⟩; refine ⟨_, rfl, ?_⟩) | ((with_reducible refine gate_callee (f := 46) rfl ?_); refine goesL_ (some 41) rfl rfl Tryd.func46 (by kernel_rfl) rfl #[.string a0, .int .i64 t109] rfl ca_ ?_; (with_reducible refine (drayageref01_suffix.calls k a0 t109 t111 t112 t113 _ A7.out).mono ?_); rintro e w' ⟨rfl, ⟨nd, rfl⟩⟩; refine ⟨_, rfl, ?_⟩))
    (try simp only [Act.put, List.setIfInBounds_toArray, List.set_cons_zero, List.set_cons_succ])
    go_cut [12] (fun v12 wc => ∃ (kq : Nat) (x12_8 : Int), v12 = .int .u64 x12_8 ∧ Aside0 (drayageref01_Parse.j0 kq t105 t108 t111 x12_8 = some (r1, r2, r3)) ∧ Aside0 (kq ≤ k) ∧ Aside0 (Below w.heap.size w wc))
    case first =>
     have H := HC9.out
     clear HC9
     by_cases c11 : a1 = true
     ·subst c11
      rw [if_pos rfl] at H
      have H' := Aside0.mk H
      clear H
      go_wp2
      go_meet
      case rel => exact ⟨_, (1000), fs_, H', ⟨by first | omega | exact Nat.le_refl _⟩, ⟨bw_⟩⟩
     ·replace c11 := Bool.eq_false_iff.mpr c11
      subst c11
      have H1 : (drayageref01_Parse.j0 k t105 t108 t111 1000000) = some (r1, r2, r3) := by rw [if_neg (show ¬ (false = true) by decide)] at H; exact H
      clear H
      have H := H1
      clear H1
      have H' := Aside0.mk H
      clear H
      go_wp2
      go_meet
      case rel => exact ⟨_, (1000000), fs_, H', ⟨by first | omega | exact Nat.le_refl _⟩, ⟨bw_⟩⟩
    case rest =>
     clear HC9
     (try clear c1); (try clear p2); (try clear c4); (try clear c4b0); (try clear c4b1); (try clear c6); (try clear c6b0); (try clear c6b1); (try clear c8); (try clear c8b0); (try clear c8b1); (try clear c11)
     obtain ⟨kq, x12_8, rfl, HA, HJ8, HB⟩ := hcut
     cases kq with
     | zero => exact absurd HA.out (by simp [drayageref01_Parse.j0])
     | succ kj8 =>
      have H := HA.out
      clear HA
      simp only [drayageref01_Parse.j0] at H
      replace H := Option.bind_eq_some_iff.mp H
      obtain ⟨⟨t114, t115⟩, A120, H⟩ := H
      try dsimp only at H
      have A12 := Aside0.mk A120
      clear A120
      by_cases c13 : t114 ≥ x12_8
      ·rw [if_pos c13] at H
       have c13b0 : decide (x12_8 ≤ t114) = true := decide_eq_true c13
       clear c13
       simp only [Option.some.injEq, Prod.mk.injEq] at H
       obtain ⟨rfl, rfl, rfl⟩ := H
       go_wp2_with (first | ((with_reducible refine gate_callee (f := 42) rfl ?_); refine goesL_ (some 58) rfl rfl Tryd.func42 (by kernel_rfl) rfl #[.int .u64 (IntKind.u64.wrap (wrap64 ((wrap64 (1000 * t105)) + t108))), .int .u64 (IntKind.u64.wrap (t111))] rfl ca_ ?_; (with_reducible refine (bits_Mul64.calls (IntKind.u64.wrap (wrap64 ((wrap64 (1000 * t105)) + t108))) (IntKind.u64.wrap (t111)) t114 t115 _ A12.out).mono ?_); rintro e w14 ⟨rfl, hb⟩; refine ⟨_, rfl, ?_⟩; replace HB := Aside0.mk (below_step bw_ hb); (try clear hb); (try clear hb2); (try clear hk); (try clear hi)))
       go_ret3
       exact ⟨fi_, bw_⟩
      ·rw [if_neg c13] at H
       have c13b0 : decide (x12_8 ≤ t114) = false := decide_eq_false c13
       clear c13
       replace H := Option.bind_eq_some_iff.mp H
       obtain ⟨⟨t116, t117⟩, A150, H⟩ := H
       try dsimp only at H
       have A15 := Aside0.mk A150
       clear A150
       have HC16 := Aside0.mk H
       clear H
       go_upto_region 17 with (first | ((with_reducible refine gate_callee (f := 42) rfl ?_); refine goesL_ (some 58) rfl rfl Tryd.func42 (by kernel_rfl) rfl #[.int .u64 (IntKind.u64.wrap (wrap64 ((wrap64 (1000 * t105)) + t108))), .int .u64 (IntKind.u64.wrap (t111))] rfl ca_ ?_; (with_reducible refine (bits_Mul64.calls (IntKind.u64.wrap (wrap64 ((wrap64 (1000 * t105)) + t108))) (IntKind.u64.wrap (t111)) t114 t115 _ A12.out).mono ?_); rintro e w17 ⟨rfl, hb⟩; refine ⟨_, rfl, ?_⟩; replace HB := Aside0.mk (below_step bw_ hb); (try clear hb); (try clear hb2); (try clear hk); (try clear hi)) | ((with_reducible refine gate_callee (f := 43) rfl ?_); refine goesL_ (some 68) rfl rfl Tryd.func43 (by kernel_rfl) rfl #[.int .u64 t114, .int .u64 t115, .int .u64 x12_8] rfl ca_ ?_; (with_reducible refine (bits_Div64.calls t114 t115 x12_8 t116 t117 _ A15.out).mono ?_); rintro e w18 ⟨rfl, hb⟩; refine ⟨_, rfl, ?_⟩; replace HB := Aside0.mk (below_step bw_ hb); (try clear hb); (try clear hb2); (try clear hk); (try clear hi)))
       (try simp only [Act.put, List.setIfInBounds_toArray, List.set_cons_zero, List.set_cons_succ])
       go_cut [80] (fun v80 wc => ∃ (kq : Nat) (x80_15 : Bool), v80 = .bool x80_15 ∧ Aside0 (drayageref01_Parse.j1 kq t116 t117 x80_15 = some (r1, r2, r3)) ∧ Aside0 (kq ≤ kj8) ∧ Aside0 (Below w.heap.size w wc))
       case first =>
        have H := HC16.out
        clear HC16
        by_cases c19 : t116 > 1099511627776
        ·rw [if_pos c19] at H
         have c19b0 : decide (1099511627776 < t116) = true := decide_eq_true c19
         clear c19
         (first | rw [c19b0] | (simp only [i64_w, i32_w]; rw [c19b0]) | skip)
         have H' := Aside0.mk H
         clear H
         go_wp2
         go_meet
         case rel => exact ⟨_, (true), fs_, H', ⟨by have := HJ8.out; first | omega | exact Nat.le_refl _⟩, ⟨bw_⟩⟩
        ·rw [if_neg c19] at H
         have c19b0 : decide (1099511627776 < t116) = false := decide_eq_false c19
         clear c19
         (first | rw [c19b0] | (simp only [i64_w, i32_w]; rw [c19b0]) | skip)
         by_cases c20 : t116 = 1099511627776
         ·rw [if_pos c20] at H
          have c20b0 : (t116 == 1099511627776) = true := beq_iff_eq.mpr c20
          have c20b1 : (t116 != 1099511627776) = false := bne_eq_false_iff_eq.mpr c20
          clear c20
          have H' := Aside0.mk H
          clear H
          go_wp2
          go_meet
          case rel => exact ⟨_, (decide (t117 > 0)), fs_, H', ⟨by have := HJ8.out; first | omega | exact Nat.le_refl _⟩, ⟨bw_⟩⟩
         ·rw [if_neg c20] at H
          have c20b0 : (t116 == 1099511627776) = false := beq_eq_false_iff_ne.mpr c20
          have c20b1 : (t116 != 1099511627776) = true := bne_iff_ne.mpr c20
          have H' := Aside0.mk H
          clear H
          go_wp2
          go_meet
          case rel => exact ⟨_, (false), fs_, H', ⟨by have := HJ8.out; first | omega | exact Nat.le_refl _⟩, ⟨bw_⟩⟩
       case rest =>
        clear HC16
        (try clear c1); (try clear c2); (try clear p2); (try clear c4); (try clear c4b0); (try clear c4b1); (try clear c6); (try clear c6b0); (try clear c6b1); (try clear p6); (try clear c8); (try clear c8b0); (try clear c8b1); (try clear c11); (try clear c12); (try clear c13); (try clear c13b0); (try clear c19); (try clear c19b0); (try clear c20); (try clear c20b0); (try clear c20b1); (try clear p2)
        obtain ⟨kq, x80_15, rfl, HA, HJ15, HB⟩ := hcut
        cases kq with
        | zero => exact absurd HA.out (by simp [drayageref01_Parse.j1])
        | succ kj15 =>
         have H := HA.out
         clear HA
         simp only [drayageref01_Parse.j1] at H
         by_cases c21 : x80_15 = true
         ·subst c21
          rw [if_pos rfl] at H
          simp only [Option.some.injEq, Prod.mk.injEq] at H
          obtain ⟨rfl, rfl, rfl⟩ := H
          go_wp2
          go_ret3
          exact ⟨fi_, bw_⟩
         ·replace c21 := Bool.eq_false_iff.mpr c21
          subst c21
          have H1 : (if t117 > 0 then (some (0, 0, 4)) else (some (wrap64 (t116), 0, 0))) = some (r1, r2, r3) := by rw [if_neg (show ¬ (false = true) by decide)] at H; exact H
          clear H
          have H := H1
          clear H1
          by_cases c22 : t117 > 0
          ·rw [if_pos c22] at H
           have c22b0 : decide (0 < t117) = true := decide_eq_true c22
           clear c22
           simp only [Option.some.injEq, Prod.mk.injEq] at H
           obtain ⟨rfl, rfl, rfl⟩ := H
           go_wp2
           go_ret3
           exact ⟨fi_, bw_⟩
          ·rw [if_neg c22] at H
           have c22b0 : decide (0 < t117) = false := decide_eq_false c22
           clear c22
           simp only [Option.some.injEq, Prod.mk.injEq] at H
           obtain ⟨rfl, rfl, rfl⟩ := H
           go_wp2
           go_ret3
           exact ⟨fi_, bw_⟩
   ·rw [if_neg c8] at H
    have c8b0 : (t113 == 0) = false := beq_eq_false_iff_ne.mpr c8
    have c8b1 : (t113 != 0) = true := bne_iff_ne.mpr c8
    simp only [Option.some.injEq, Prod.mk.injEq] at H
    obtain ⟨rfl, rfl, rfl⟩ := H
    go_enter Tryd.func12, Tryd.ntmps12
    go_wp2_with (first | ((with_reducible refine gate_callee (f := 44) rfl ?_); refine goesL_ (some 19) rfl rfl Tryd.func44 (by kernel_rfl) rfl #[.string a0] rfl ca_ ?_; (with_reducible refine (drayageref01_whole.calls k a0 t105 t106 t107 _ A3.out).mono ?_); rintro e w23 ⟨rfl, hb⟩; refine ⟨_, rfl, ?_⟩; replace HB := Aside0.mk (below_step bw_ hb); (try clear hb); (try clear hb2); (try clear hk); (try clear hi)) | ((with_reducible refine gate_callee (f := 45) rfl ?_); refine goesL_ (some 30) rfl rfl Tryd.func45 (by kernel_rfl) rfl #[.string a0, .int .i64 t106, .int .i64 3] rfl ca_ ?_; (with_reducible refine (drayageref01_point.calls k a0 t106 3 t108 t109 t110 _ A5.out).mono ?_); rintro e w' ⟨rfl, ⟨nd, rfl⟩⟩; refine ⟨_, rfl, ?_⟩) | ((with_reducible refine gate_callee (f := 46) rfl ?_); refine goesL_ (some 41) rfl rfl Tryd.func46 (by kernel_rfl) rfl #[.string a0, .int .i64 t109] rfl ca_ ?_; (with_reducible refine (drayageref01_suffix.calls k a0 t109 t111 t112 t113 _ A7.out).mono ?_); rintro e w' ⟨rfl, ⟨nd, rfl⟩⟩; refine ⟨_, rfl, ?_⟩))
    go_ret3
    exact ⟨fi_, bw_⟩
  ·rw [if_neg c6] at H
   have c6b0 : (t110 == 0) = false := beq_eq_false_iff_ne.mpr c6
   have c6b1 : (t110 != 0) = true := bne_iff_ne.mpr c6
   simp only [Option.some.injEq, Prod.mk.injEq] at H
   obtain ⟨rfl, rfl, rfl⟩ := H
   go_enter Tryd.func12, Tryd.ntmps12
   go_wp2_with (first | ((with_reducible refine gate_callee (f := 44) rfl ?_); refine goesL_ (some 19) rfl rfl Tryd.func44 (by kernel_rfl) rfl #[.string a0] rfl ca_ ?_; (with_reducible refine (drayageref01_whole.calls k a0 t105 t106 t107 _ A3.out).mono ?_); rintro e w24 ⟨rfl, hb⟩; refine ⟨_, rfl, ?_⟩; replace HB := Aside0.mk (below_step bw_ hb); (try clear hb); (try clear hb2); (try clear hk); (try clear hi)) | ((with_reducible refine gate_callee (f := 45) rfl ?_); refine goesL_ (some 30) rfl rfl Tryd.func45 (by kernel_rfl) rfl #[.string a0, .int .i64 t106, .int .i64 3] rfl ca_ ?_; (with_reducible refine (drayageref01_point.calls k a0 t106 3 t108 t109 t110 _ A5.out).mono ?_); rintro e w' ⟨rfl, ⟨nd, rfl⟩⟩; refine ⟨_, rfl, ?_⟩))
   go_ret3
   exact ⟨fi_, bw_⟩
 ·rw [if_neg c4] at H
  have c4b0 : (t107 == 0) = false := beq_eq_false_iff_ne.mpr c4
  have c4b1 : (t107 != 0) = true := bne_iff_ne.mpr c4
  simp only [Option.some.injEq, Prod.mk.injEq] at H
  obtain ⟨rfl, rfl, rfl⟩ := H
  go_enter Tryd.func12, Tryd.ntmps12
  go_wp2_with (first | ((with_reducible refine gate_callee (f := 44) rfl ?_); refine goesL_ (some 19) rfl rfl Tryd.func44 (by kernel_rfl) rfl #[.string a0] rfl ca_ ?_; (with_reducible refine (drayageref01_whole.calls k a0 t105 t106 t107 _ A3.out).mono ?_); rintro e w25 ⟨rfl, hb⟩; refine ⟨_, rfl, ?_⟩; replace HB := Aside0.mk (below_step bw_ hb); (try clear hb); (try clear hb2); (try clear hk); (try clear hi)))
  go_ret3
  exact ⟨fi_, bw_⟩

end Go.Proofs.YtkpoipjgbdcdjaaDoor.P
