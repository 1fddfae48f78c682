import Derived.Test.YtkpoipjgbdcdjaaDoorP0
import Derived.Test.YtkpoipjgbdcdjaaDoorPf15
import Derived.Test.YtkpoipjgbdcdjaaDoorPf23
import Derived.Test.YtkpoipjgbdcdjaaDoorPf24
import Derived.Test.YtkpoipjgbdcdjaaDoorPf25
import Derived.Test.YtkpoipjgbdcdjaaDoorPf26
import Derived.Test.YtkpoipjgbdcdjaaDoorPf27
import Derived.Test.YtkpoipjgbdcdjaaDoorPf28
import Derived.Test.YtkpoipjgbdcdjaaDoorPf29
import Derived.Test.YtkpoipjgbdcdjaaDoorPf30
namespace Go.Proofs.YtkpoipjgbdcdjaaDoor.P
open Go.RowKit Go.Proofs.YtkpoipjgbdcdjaaDoorW.PrintWords Go.Proofs.YtkpoipjgbdcdjaaDoorW.PrintLast Go.Proofs.YtkpoipjgbdcdjaaDoorW.PrintMore
attribute [local go_sem] max2_int min2_int max_two min_two max_three min_three max_four min_four   -- for this text's walks alone
set_option linter.unusedVariables false
set_option linter.unusedSimpArgs false

def drayagelaw01_QuantReckons.j0 : Nat → Int → Int → Bool → Option (Bool)
 | 0, _, _, _ => none
 | k + 1, x1, x2, x41 => if x41 = true then (some false) else ((quant_Sub.f x1 x2).bind fun bt287 => ((drayageref01_Sub.f k x1 x2).bind fun bt289 => ((quant_Mul.f x1 x2).bind fun bt291 => ((drayageref01_Mul.f k x1 x2).bind fun bt293 => ((quant_Share.f k x1 x2).bind fun bt295 => ((drayageref01_Share.f k x1 x2).bind fun bt297 => (if bt287.1 = bt289.1 then (if bt287.2 = bt289.2 then (if bt291.1 = bt293.1 then (if bt291.2 = bt293.2 then (if bt295.1 = bt297.1 then (if bt295.2 = bt297.2 then ((drayagelaw01_works.f k).bind fun t299 => (some t299)) else (some false)) else (some false)) else (some false)) else (some false)) else (some false)) else (some false))))))))
def drayagelaw01_QuantReckons.f (k : Nat) (l0 : List Int) (a1 : Int) (a2 : Int) : Option (Bool) := if 0 ≤ (mn (l0.length : Int) 20) then (if (mn (l0.length : Int) 20) ≤ (l0.length : Int) then ((quant_Add.f k (l0.take ((mn (l0.length : Int) 20) : Int).toNat)).bind fun bt283 => ((drayageref01_Add.f k (l0.take ((mn (l0.length : Int) 20) : Int).toNat)).bind fun bt285 => (if bt283.1 = bt285.1 then (drayagelaw01_QuantReckons.j0 k a1 a2 (bt283.2 != bt285.2)) else (drayagelaw01_QuantReckons.j0 k a1 a2 true)))) else (none)) else (none)
theorem drayagelaw01_QuantReckons.mono_l : ∀ k, (∀ y0 y1 y2, LeO (drayagelaw01_QuantReckons.j0 k y0 y1 y2) (drayagelaw01_QuantReckons.j0 (k + 1) y0 y1 y2))
 | 0 => fun _ _ _ r h => by simp [drayagelaw01_QuantReckons.j0] at h
 | k + 1 => by
  have ih0 := drayagelaw01_QuantReckons.mono_l k
  ·intro y0 y1 y2
   unfold drayagelaw01_QuantReckons.j0
   repeat' first
   | (with_reducible exact ih0 _ _ _)
   | (with_reducible exact drayagelaw01_works.mono _)
   | (with_reducible exact drayageref01_Add.mono _ _)
   | (with_reducible exact drayageref01_Mul.mono _ _ _)
   | (with_reducible exact drayageref01_Share.mono _ _ _)
   | (with_reducible exact drayageref01_Sub.mono _ _ _)
   | (with_reducible exact quant_Add.mono _ _)
   | (with_reducible exact quant_Share.mono _ _ _)
   | (with_reducible exact LeO.refl _)
   | (with_reducible exact LeO.none _)
   | (with_reducible refine LeO.ite ?_ ?_)
   | (with_reducible refine LeO.bind ?_ (fun _ => ?_))
   | exact ih0 _ _ _
   | exact drayagelaw01_works.mono _
   | exact drayageref01_Add.mono _ _
   | exact drayageref01_Mul.mono _ _ _
   | exact drayageref01_Share.mono _ _ _
   | exact drayageref01_Sub.mono _ _ _
   | exact quant_Add.mono _ _
   | exact quant_Share.mono _ _ _
   | exact LeO.none _
   | refine LeO.ite ?_ ?_
   | refine LeO.bind ?_ (fun _ => ?_)
theorem drayagelaw01_QuantReckons.mono : ∀ a0 a1 a2 k, LeO (drayagelaw01_QuantReckons.f k a0 a1 a2) (drayagelaw01_QuantReckons.f (k + 1) a0 a1 a2) := by
 intro a0 a1 a2 k
 have ih0 := drayagelaw01_QuantReckons.mono_l k
 unfold drayagelaw01_QuantReckons.f
 repeat' first
   | (with_reducible exact ih0 _ _ _)
   | (with_reducible exact drayagelaw01_works.mono _)
   | (with_reducible exact drayageref01_Add.mono _ _)
   | (with_reducible exact drayageref01_Mul.mono _ _ _)
   | (with_reducible exact drayageref01_Share.mono _ _ _)
   | (with_reducible exact drayageref01_Sub.mono _ _ _)
   | (with_reducible exact quant_Add.mono _ _)
   | (with_reducible exact quant_Share.mono _ _ _)
   | (with_reducible exact LeO.refl _)
   | (with_reducible exact LeO.none _)
   | (with_reducible refine LeO.ite ?_ ?_)
   | (with_reducible refine LeO.bind ?_ (fun _ => ?_))
   | exact ih0 _ _ _
   | exact drayagelaw01_works.mono _
   | exact drayageref01_Add.mono _ _
   | exact drayageref01_Mul.mono _ _ _
   | exact drayageref01_Share.mono _ _ _
   | exact drayageref01_Sub.mono _ _ _
   | exact quant_Add.mono _ _
   | exact quant_Share.mono _ _ _
   | exact LeO.none _
   | refine LeO.ite ?_ ?_
   | refine LeO.bind ?_ (fun _ => ?_)
set_option maxHeartbeats 8000000 in
set_option maxRecDepth 100000 in
theorem drayagelaw01_QuantReckons.calls (k : Nat) (A0 : Option Addr) (c0 : Nat) (l0 : List Int) (a1 : Int) (a2 : Int) (r : Bool) (w : World) (hr0 : Kd.C (Kd.int .i64) w A0 l0.length l0) (hc0 : l0.length ≤ c0) (h : drayagelaw01_QuantReckons.f k l0 a1 a2 = some r) (hT0 : Tb w) :
  Calls Tryd.prog 7 #[.slice A0 l0.length c0, .int .i64 a1, .int .i64 a2] w fun e w' => e = .returned (.bool r) ∧ Below w.heap.size w w' := by
 have hT_ := Aside0.mk hT0
 clear hT0
 have HR0 := Aside0.mk hr0
 have HC0 := Aside0.mk hc0
 clear hr0 hc0
 have HB := Aside0.mk (Below.refl w.heap.size w)
 have H : (if 0 ≤ (mn (l0.length : Int) 20) then (if (mn (l0.length : Int) 20) ≤ (l0.length : Int) then ((quant_Add.f k (l0.take ((mn (l0.length : Int) 20) : Int).toNat)).bind fun bt283 => ((drayageref01_Add.f k (l0.take ((mn (l0.length : Int) 20) : Int).toNat)).bind fun bt285 => (if bt283.1 = bt285.1 then (drayagelaw01_QuantReckons.j0 k a1 a2 (bt283.2 != bt285.2)) else (drayagelaw01_QuantReckons.j0 k a1 a2 true)))) else (none)) else (none)) = some r := h
 clear h
 obtain ⟨ji4, hji4⟩ : ∃ j_ : Int, (mn (l0.length : Int) 20) = j_ := ⟨_, rfl⟩
 replace H : (if 0 ≤ (ji4) then (if (ji4) ≤ (l0.length : Int) then ((quant_Add.f k (l0.take ((ji4) : Int).toNat)).bind fun bt283 => ((drayageref01_Add.f k (l0.take ((ji4) : Int).toNat)).bind fun bt285 => (if bt283.1 = bt285.1 then (drayagelaw01_QuantReckons.j0 k a1 a2 (bt283.2 != bt285.2)) else (drayagelaw01_QuantReckons.j0 k a1 a2 true)))) else (none)) else (none)) = some r := by first | (rw [hji4] at H; exact H) | (simp only [hji4] at H ⊢; exact H)
 (try (have hji4h : ji4 ≤ 20 := by (rw [← hji4]; unfold mn; (repeat' split) <;> omega)))
 (try (have hji4g : ji4 ≤ 64 := by omega))
 (try (have hji4l : 0 ≤ ji4 := by (rw [← hji4]; unfold mn; (repeat' split) <;> omega)))
 (try (have hji4m : 0 ≤ ji4 := by omega))
 have hji4_ : (if 20 < (l0.length : Int) then 20 else (l0.length : Int)) = ji4 := hji4
 by_cases c5 : 0 ≤ (ji4)
 ·rw [if_pos c5] at H
  have c5b0 := eq_true c5
  have c5b1 : decide (0 ≤ (ji4)) = true := decide_eq_true c5
  clear c5
  by_cases c6 : (ji4) ≤ (l0.length : Int)
  ·rw [if_pos c6] at H
   have c6b0 := eq_true c6
   have c6b1 : decide ((ji4) ≤ (l0.length : Int)) = true := decide_eq_true c6
   clear c6
   replace H := Option.bind_eq_some_iff.mp H
   obtain ⟨⟨t283, t284⟩, A70, H⟩ := H
   try dsimp only at H
   have A7 := Aside0.mk A70
   clear A70
   replace H := Option.bind_eq_some_iff.mp H
   obtain ⟨⟨t285, t286⟩, A80, H⟩ := H
   try dsimp only at H
   have A8 := Aside0.mk A80
   clear A80
   have HC9 := Aside0.mk H
   clear H
   obtain ⟨i010, hi010, _, hsz10, _⟩ := info_parts info3
   obtain ⟨hcut10, hA10, hC10⟩ := print_take_of (P := Tryd.prog) (Value.int .i64) 0 36 3 .i64 Tryd.underlying36 hi010 hsz10 A0 c0 l0 (ji4) (of_decide_eq_true (by first | (with_reducible assumption) | assumption)) (of_decide_eq_true (by first | (with_reducible assumption) | assumption)) HC0.out
   have HR282 := Aside0.mk (Kd.C_of_reads (h1 := fun _ => rfl) (hA10 _ (Kd.reads_of_C HR0.out)))
   have HC282 := Aside0.mk hC10
   clear hA10 hC10 hi010 hsz10
   go_enter Tryd.func7, Tryd.ntmps7
   go_upto_region 4 with (first | ((with_reducible refine gate_callee (f := 23) rfl ?_); refine goesL_ (some 26) rfl rfl Tryd.func23 (by kernel_rfl) rfl #[.slice A0 (l0.take ((ji4) : Int).toNat).length c0] rfl (by (try simp only [List.map_toArray, List.map_cons, List.map_nil]); first | done | (rw [show (l0.take ((ji4) : Int).toNat).length = (ji4).toNat from (by rw [List.length_take]; have h_ : ((ji4) : Int) ≤ (l0.length : Int) := of_decide_eq_true (by first | (with_reducible assumption) | assumption); omega)] <;> rfl) | (simp only [hji4]; rfl) | rfl | (simp only [List.length_drop, List.length_take]; rfl)) ?_; (with_reducible refine (quant_Add.calls k _ _ (l0.take ((ji4) : Int).toNat) t283 t284 _ ?side1 ?side2 A7.out).mono ?_); (case side1 => repeat (first | exact HR282.out | (with_reducible refine Kd.C_alloc ?_ _) | (with_reducible refine Kd.C_drewN ?_ _) | (with_reducible refine Kd.C_drew ?_))); (case side2 => exact HC282.out); rintro e w11 ⟨rfl, hb⟩; refine ⟨_, rfl, ?_⟩; replace HB := Aside0.mk (below_step bw_ hb); (try clear hb); (try clear hb2); (try clear hk); (try clear hi)) | ((with_reducible refine gate_callee (f := 24) rfl ?_); refine goesL_ (some 31) rfl rfl Tryd.func24 (by kernel_rfl) rfl #[.slice A0 (l0.take ((ji4) : Int).toNat).length c0] rfl (by (try simp only [List.map_toArray, List.map_cons, List.map_nil]); first | done | (rw [show (l0.take ((ji4) : Int).toNat).length = (ji4).toNat from (by rw [List.length_take]; have h_ : ((ji4) : Int) ≤ (l0.length : Int) := of_decide_eq_true (by first | (with_reducible assumption) | assumption); omega)] <;> rfl) | (simp only [hji4]; rfl) | rfl | (simp only [List.length_drop, List.length_take]; rfl)) ?_; (with_reducible refine (drayageref01_Add.calls k _ _ (l0.take ((ji4) : Int).toNat) t285 t286 _ ?side1 ?side2 A8.out).mono ?_); (case side1 => repeat (first | exact (Kd.C_below HR282.out HB.out) | (with_reducible refine Kd.C_alloc ?_ _) | (with_reducible refine Kd.C_drewN ?_ _) | (with_reducible refine Kd.C_drew ?_))); (case side2 => exact HC282.out); rintro e w' ⟨rfl, ⟨nd, rfl⟩⟩; refine ⟨_, rfl, ?_⟩))
   (try simp only [Act.put, List.setIfInBounds_toArray, List.set_cons_zero, List.set_cons_succ])
   go_cut [41] (fun v41 wc => ∃ (kq : Nat) (x41_8 : Bool), v41 = .bool x41_8 ∧ Aside0 (drayagelaw01_QuantReckons.j0 kq a1 a2 x41_8 = some r) ∧ Aside0 (kq ≤ k) ∧ Aside0 (Below w.heap.size w wc))
   case first =>
    have H := HC9.out
    clear HC9
    by_cases c12 : t283 = t285
    ·rw [if_pos c12] at H
     have c12b0 : (t283 == t285) = true := beq_iff_eq.mpr c12
     have c12b1 : (t283 != t285) = false := bne_eq_false_iff_eq.mpr c12
     clear c12
     (first | rw [c12b0] | (simp only [i64_w, i32_w]; rw [c12b0]) | skip)
     have H' := Aside0.mk H
     clear H
     go_wp2
     go_meet
     case rel => exact ⟨_, ((t284 != t286)), fs_, H', ⟨by first | omega | exact Nat.le_refl _⟩, ⟨bw_⟩⟩
    ·rw [if_neg c12] at H
     have c12b0 : (t283 == t285) = false := beq_eq_false_iff_ne.mpr c12
     have c12b1 : (t283 != t285) = true := bne_iff_ne.mpr c12
     (first | rw [c12b0] | (simp only [i64_w, i32_w]; rw [c12b0]) | skip)
     have H' := Aside0.mk H
     clear H
     go_wp2
     go_meet
     case rel => exact ⟨_, (true), fs_, H', ⟨by first | omega | exact Nat.le_refl _⟩, ⟨bw_⟩⟩
   case rest =>
    clear HC9
    (try clear c1); (try clear c2); (try clear p2); (try clear c5); (try clear c5b0); (try clear c5b1); (try clear c6); (try clear c6b0); (try clear c6b1); (try clear c7); (try clear c12); (try clear c12b0); (try clear c12b1)
    obtain ⟨kq, x41_8, rfl, HA, HJ8, HB⟩ := hcut
    cases kq with
    | zero => exact absurd HA.out (by simp [drayagelaw01_QuantReckons.j0])
    | succ kj8 =>
     have H := HA.out
     clear HA
     simp only [drayagelaw01_QuantReckons.j0] at H
     by_cases c13 : x41_8 = true
     ·subst c13
      rw [if_pos rfl] at H
      obtain rfl := Option.some.inj H
      go_wp2
      go_ret
      exact ⟨by first | rfl | (simp [errW_none, errW_some] <;> rfl) | (simp only [← hji4]; first | rfl | (simp [errW_none, errW_some] <;> rfl)) | (simp [*, errW_none, errW_some] <;> rfl), bw_⟩
     ·replace c13 := Bool.eq_false_iff.mpr c13
      subst c13
      have H1 : ((quant_Sub.f a1 a2).bind fun bt287 => ((drayageref01_Sub.f kj8 a1 a2).bind fun bt289 => ((quant_Mul.f a1 a2).bind fun bt291 => ((drayageref01_Mul.f kj8 a1 a2).bind fun bt293 => ((quant_Share.f kj8 a1 a2).bind fun bt295 => ((drayageref01_Share.f kj8 a1 a2).bind fun bt297 => (if bt287.1 = bt289.1 then (if bt287.2 = bt289.2 then (if bt291.1 = bt293.1 then (if bt291.2 = bt293.2 then (if bt295.1 = bt297.1 then (if bt295.2 = bt297.2 then ((drayagelaw01_works.f kj8).bind fun t299 => (some t299)) else (some false)) else (some false)) else (some false)) else (some false)) else (some false)) else (some false)))))))) = some r := by rw [if_neg (show ¬ (false = true) by decide)] at H; exact H
      clear H
      have H := H1
      clear H1
      replace H := Option.bind_eq_some_iff.mp H
      obtain ⟨⟨t287, t288⟩, A140, H⟩ := H
      try dsimp only at H
      have A14 := Aside0.mk A140
      clear A140
      replace H := Option.bind_eq_some_iff.mp H
      obtain ⟨⟨t289, t290⟩, A150, H⟩ := H
      try dsimp only at H
      have A15 := Aside0.mk A150
      clear A150
      replace H := Option.bind_eq_some_iff.mp H
      obtain ⟨⟨t291, t292⟩, A160, H⟩ := H
      try dsimp only at H
      have A16 := Aside0.mk A160
      clear A160
      replace H := Option.bind_eq_some_iff.mp H
      obtain ⟨⟨t293, t294⟩, A170, H⟩ := H
      try dsimp only at H
      have A17 := Aside0.mk A170
      clear A170
      replace H := Option.bind_eq_some_iff.mp H
      obtain ⟨⟨t295, t296⟩, A180, H⟩ := H
      try dsimp only at H
      have A18 := Aside0.mk A180
      clear A180
      replace H := Option.bind_eq_some_iff.mp H
      obtain ⟨⟨t297, t298⟩, A190, H⟩ := H
      try dsimp only at H
      have A19 := Aside0.mk A190
      clear A190
      by_cases c20 : t287 = t289
      ·rw [if_pos c20] at H
       have c20b0 : (t287 == t289) = true := beq_iff_eq.mpr c20
       have c20b1 : (t287 != t289) = false := bne_eq_false_iff_eq.mpr c20
       clear c20
       by_cases c21 : t288 = t290
       ·rw [if_pos c21] at H
        have c21b0 : (t288 == t290) = true := beq_iff_eq.mpr c21
        have c21b1 : (t288 != t290) = false := bne_eq_false_iff_eq.mpr c21
        clear c21
        by_cases c22 : t291 = t293
        ·rw [if_pos c22] at H
         have c22b0 : (t291 == t293) = true := beq_iff_eq.mpr c22
         have c22b1 : (t291 != t293) = false := bne_eq_false_iff_eq.mpr c22
         clear c22
         by_cases c23 : t292 = t294
         ·rw [if_pos c23] at H
          have c23b0 : (t292 == t294) = true := beq_iff_eq.mpr c23
          have c23b1 : (t292 != t294) = false := bne_eq_false_iff_eq.mpr c23
          clear c23
          by_cases c24 : t295 = t297
          ·rw [if_pos c24] at H
           have c24b0 : (t295 == t297) = true := beq_iff_eq.mpr c24
           have c24b1 : (t295 != t297) = false := bne_eq_false_iff_eq.mpr c24
           clear c24
           by_cases c25 : t296 = t298
           ·rw [if_pos c25] at H
            have c25b0 : (t296 == t298) = true := beq_iff_eq.mpr c25
            have c25b1 : (t296 != t298) = false := bne_eq_false_iff_eq.mpr c25
            clear c25
            replace H := Option.bind_eq_some_iff.mp H
            obtain ⟨t299, A260, H⟩ := H
            try dsimp only at H
            have A26 := Aside0.mk A260
            clear A260
            obtain rfl := Option.some.inj H
            go_wp2_with (first | ((with_reducible refine gate_callee (f := 25) rfl ?_); refine goesL_ (some 45) rfl rfl Tryd.func25 (by kernel_rfl) rfl #[.int .i64 a1, .int .i64 a2] rfl ca_ ?_; (with_reducible refine (quant_Sub.calls a1 a2 t287 t288 _ A14.out).mono ?_); rintro e w27 ⟨rfl, hb⟩; refine ⟨_, rfl, ?_⟩; replace HB := Aside0.mk (below_step bw_ hb); (try clear hb); (try clear hb2); (try clear hk); (try clear hi)) | ((with_reducible refine gate_callee (f := 26) rfl ?_); refine goesL_ (some 51) rfl rfl Tryd.func26 (by kernel_rfl) rfl #[.int .i64 a1, .int .i64 a2] rfl ca_ ?_; (with_reducible refine (drayageref01_Sub.calls kj8 a1 a2 t289 t290 _ A15.out).mono ?_); rintro e w' ⟨rfl, ⟨nd, rfl⟩⟩; refine ⟨_, rfl, ?_⟩) | ((with_reducible refine gate_callee (f := 27) rfl ?_); refine goesL_ (some 57) rfl rfl Tryd.func27 (by kernel_rfl) rfl #[.int .i64 a1, .int .i64 a2] rfl ca_ ?_; (with_reducible refine (quant_Mul.calls a1 a2 t291 t292 _ A16.out).mono ?_); rintro e w28 ⟨rfl, hb⟩; refine ⟨_, rfl, ?_⟩; replace HB := Aside0.mk (below_step bw_ hb); (try clear hb); (try clear hb2); (try clear hk); (try clear hi)) | ((with_reducible refine gate_callee (f := 28) rfl ?_); refine goesL_ (some 63) rfl rfl Tryd.func28 (by kernel_rfl) rfl #[.int .i64 a1, .int .i64 a2] rfl ca_ ?_; (with_reducible refine (drayageref01_Mul.calls kj8 a1 a2 t293 t294 _ A17.out).mono ?_); rintro e w' ⟨rfl, ⟨nd, rfl⟩⟩; refine ⟨_, rfl, ?_⟩) | ((with_reducible refine gate_callee (f := 29) rfl ?_); refine goesL_ (some 69) rfl rfl Tryd.func29 (by kernel_rfl) rfl #[.int .i64 a1, .int .i64 a2] rfl ca_ ?_; (with_reducible refine (quant_Share.calls kj8 a1 a2 t295 t296 _ A18.out).mono ?_); rintro e w29 ⟨rfl, hb⟩; refine ⟨_, rfl, ?_⟩; replace HB := Aside0.mk (below_step bw_ hb); (try clear hb); (try clear hb2); (try clear hk); (try clear hi)) | ((with_reducible refine gate_callee (f := 30) rfl ?_); refine goesL_ (some 75) rfl rfl Tryd.func30 (by kernel_rfl) rfl #[.int .i64 a1, .int .i64 a2] rfl ca_ ?_; (with_reducible refine (drayageref01_Share.calls kj8 a1 a2 t297 t298 _ A19.out).mono ?_); rintro e w' ⟨rfl, ⟨nd, rfl⟩⟩; refine ⟨_, rfl, ?_⟩) | (go_at_call 15; (with_reducible refine (drayagelaw01_works.calls kj8  t299 _ A26.out ?sideT_).mono ?_); (case sideT_ => first | exact hT_.out | exact hT_.out.up bw_); rintro e w30 ⟨rfl, hb⟩; replace HB := Aside0.mk (below_step bw_ hb); (try clear hb); (try clear hb2); (try clear hk); (try clear hi)))
            go_ret
            exact ⟨by first | rfl | (simp [errW_none, errW_some] <;> rfl) | (simp only [← hji4]; first | rfl | (simp [errW_none, errW_some] <;> rfl)) | (simp [*, errW_none, errW_some] <;> rfl), bw_⟩
           ·rw [if_neg c25] at H
            have c25b0 : (t296 == t298) = false := beq_eq_false_iff_ne.mpr c25
            have c25b1 : (t296 != t298) = true := bne_iff_ne.mpr c25
            obtain rfl := Option.some.inj H
            go_wp2_with (first | ((with_reducible refine gate_callee (f := 25) rfl ?_); refine goesL_ (some 45) rfl rfl Tryd.func25 (by kernel_rfl) rfl #[.int .i64 a1, .int .i64 a2] rfl ca_ ?_; (with_reducible refine (quant_Sub.calls a1 a2 t287 t288 _ A14.out).mono ?_); rintro e w31 ⟨rfl, hb⟩; refine ⟨_, rfl, ?_⟩; replace HB := Aside0.mk (below_step bw_ hb); (try clear hb); (try clear hb2); (try clear hk); (try clear hi)) | ((with_reducible refine gate_callee (f := 26) rfl ?_); refine goesL_ (some 51) rfl rfl Tryd.func26 (by kernel_rfl) rfl #[.int .i64 a1, .int .i64 a2] rfl ca_ ?_; (with_reducible refine (drayageref01_Sub.calls kj8 a1 a2 t289 t290 _ A15.out).mono ?_); rintro e w' ⟨rfl, ⟨nd, rfl⟩⟩; refine ⟨_, rfl, ?_⟩) | ((with_reducible refine gate_callee (f := 27) rfl ?_); refine goesL_ (some 57) rfl rfl Tryd.func27 (by kernel_rfl) rfl #[.int .i64 a1, .int .i64 a2] rfl ca_ ?_; (with_reducible refine (quant_Mul.calls a1 a2 t291 t292 _ A16.out).mono ?_); rintro e w32 ⟨rfl, hb⟩; refine ⟨_, rfl, ?_⟩; replace HB := Aside0.mk (below_step bw_ hb); (try clear hb); (try clear hb2); (try clear hk); (try clear hi)) | ((with_reducible refine gate_callee (f := 28) rfl ?_); refine goesL_ (some 63) rfl rfl Tryd.func28 (by kernel_rfl) rfl #[.int .i64 a1, .int .i64 a2] rfl ca_ ?_; (with_reducible refine (drayageref01_Mul.calls kj8 a1 a2 t293 t294 _ A17.out).mono ?_); rintro e w' ⟨rfl, ⟨nd, rfl⟩⟩; refine ⟨_, rfl, ?_⟩) | ((with_reducible refine gate_callee (f := 29) rfl ?_); refine goesL_ (some 69) rfl rfl Tryd.func29 (by kernel_rfl) rfl #[.int .i64 a1, .int .i64 a2] rfl ca_ ?_; (with_reducible refine (quant_Share.calls kj8 a1 a2 t295 t296 _ A18.out).mono ?_); rintro e w33 ⟨rfl, hb⟩; refine ⟨_, rfl, ?_⟩; replace HB := Aside0.mk (below_step bw_ hb); (try clear hb); (try clear hb2); (try clear hk); (try clear hi)) | ((with_reducible refine gate_callee (f := 30) rfl ?_); refine goesL_ (some 75) rfl rfl Tryd.func30 (by kernel_rfl) rfl #[.int .i64 a1, .int .i64 a2] rfl ca_ ?_; (with_reducible refine (drayageref01_Share.calls kj8 a1 a2 t297 t298 _ A19.out).mono ?_); rintro e w' ⟨rfl, ⟨nd, rfl⟩⟩; refine ⟨_, rfl, ?_⟩))
            go_ret
            exact ⟨by first | rfl | (simp [errW_none, errW_some] <;> rfl) | (simp only [← hji4]; first | rfl | (simp [errW_none, errW_some] <;> rfl)) | (simp [*, errW_none, errW_some] <;> rfl), bw_⟩
          ·rw [if_neg c24] at H
           have c24b0 : (t295 == t297) = false := beq_eq_false_iff_ne.mpr c24
           have c24b1 : (t295 != t297) = true := bne_iff_ne.mpr c24
           obtain rfl := Option.some.inj H
           go_wp2_with (first | ((with_reducible refine gate_callee (f := 25) rfl ?_); refine goesL_ (some 45) rfl rfl Tryd.func25 (by kernel_rfl) rfl #[.int .i64 a1, .int .i64 a2] rfl ca_ ?_; (with_reducible refine (quant_Sub.calls a1 a2 t287 t288 _ A14.out).mono ?_); rintro e w34 ⟨rfl, hb⟩; refine ⟨_, rfl, ?_⟩; replace HB := Aside0.mk (below_step bw_ hb); (try clear hb); (try clear hb2); (try clear hk); (try clear hi)) | ((with_reducible refine gate_callee (f := 26) rfl ?_); refine goesL_ (some 51) rfl rfl Tryd.func26 (by kernel_rfl) rfl #[.int .i64 a1, .int .i64 a2] rfl ca_ ?_; (with_reducible refine (drayageref01_Sub.calls kj8 a1 a2 t289 t290 _ A15.out).mono ?_); rintro e w' ⟨rfl, ⟨nd, rfl⟩⟩; refine ⟨_, rfl, ?_⟩) | ((with_reducible refine gate_callee (f := 27) rfl ?_); refine goesL_ (some 57) rfl rfl Tryd.func27 (by kernel_rfl) rfl #[.int .i64 a1, .int .i64 a2] rfl ca_ ?_; (with_reducible refine (quant_Mul.calls a1 a2 t291 t292 _ A16.out).mono ?_); rintro e w35 ⟨rfl, hb⟩; refine ⟨_, rfl, ?_⟩; replace HB := Aside0.mk (below_step bw_ hb); (try clear hb); (try clear hb2); (try clear hk); (try clear hi)) | ((with_reducible refine gate_callee (f := 28) rfl ?_); refine goesL_ (some 63) rfl rfl Tryd.func28 (by kernel_rfl) rfl #[.int .i64 a1, .int .i64 a2] rfl ca_ ?_; (with_reducible refine (drayageref01_Mul.calls kj8 a1 a2 t293 t294 _ A17.out).mono ?_); rintro e w' ⟨rfl, ⟨nd, rfl⟩⟩; refine ⟨_, rfl, ?_⟩) | ((with_reducible refine gate_callee (f := 29) rfl ?_); refine goesL_ (some 69) rfl rfl Tryd.func29 (by kernel_rfl) rfl #[.int .i64 a1, .int .i64 a2] rfl ca_ ?_; (with_reducible refine (quant_Share.calls kj8 a1 a2 t295 t296 _ A18.out).mono ?_); rintro e w36 ⟨rfl, hb⟩; refine ⟨_, rfl, ?_⟩; replace HB := Aside0.mk (below_step bw_ hb); (try clear hb); (try clear hb2); (try clear hk); (try clear hi)) | ((with_reducible refine gate_callee (f := 30) rfl ?_); refine goesL_ (some 75) rfl rfl Tryd.func30 (by kernel_rfl) rfl #[.int .i64 a1, .int .i64 a2] rfl ca_ ?_; (with_reducible refine (drayageref01_Share.calls kj8 a1 a2 t297 t298 _ A19.out).mono ?_); rintro e w' ⟨rfl, ⟨nd, rfl⟩⟩; refine ⟨_, rfl, ?_⟩))
           go_ret
           exact ⟨by first | rfl | (simp [errW_none, errW_some] <;> rfl) | (simp only [← hji4]; first | rfl | (simp [errW_none, errW_some] <;> rfl)) | (simp [*, errW_none, errW_some] <;> rfl), bw_⟩
         ·rw [if_neg c23] at H
          have c23b0 : (t292 == t294) = false := beq_eq_false_iff_ne.mpr c23
          have c23b1 : (t292 != t294) = true := bne_iff_ne.mpr c23
          obtain rfl := Option.some.inj H
          go_wp2_with (first | ((with_reducible refine gate_callee (f := 25) rfl ?_); refine goesL_ (some 45) rfl rfl Tryd.func25 (by kernel_rfl) rfl #[.int .i64 a1, .int .i64 a2] rfl ca_ ?_; (with_reducible refine (quant_Sub.calls a1 a2 t287 t288 _ A14.out).mono ?_); rintro e w37 ⟨rfl, hb⟩; refine ⟨_, rfl, ?_⟩; replace HB := Aside0.mk (below_step bw_ hb); (try clear hb); (try clear hb2); (try clear hk); (try clear hi)) | ((with_reducible refine gate_callee (f := 26) rfl ?_); refine goesL_ (some 51) rfl rfl Tryd.func26 (by kernel_rfl) rfl #[.int .i64 a1, .int .i64 a2] rfl ca_ ?_; (with_reducible refine (drayageref01_Sub.calls kj8 a1 a2 t289 t290 _ A15.out).mono ?_); rintro e w' ⟨rfl, ⟨nd, rfl⟩⟩; refine ⟨_, rfl, ?_⟩) | ((with_reducible refine gate_callee (f := 27) rfl ?_); refine goesL_ (some 57) rfl rfl Tryd.func27 (by kernel_rfl) rfl #[.int .i64 a1, .int .i64 a2] rfl ca_ ?_; (with_reducible refine (quant_Mul.calls a1 a2 t291 t292 _ A16.out).mono ?_); rintro e w38 ⟨rfl, hb⟩; refine ⟨_, rfl, ?_⟩; replace HB := Aside0.mk (below_step bw_ hb); (try clear hb); (try clear hb2); (try clear hk); (try clear hi)) | ((with_reducible refine gate_callee (f := 28) rfl ?_); refine goesL_ (some 63) rfl rfl Tryd.func28 (by kernel_rfl) rfl #[.int .i64 a1, .int .i64 a2] rfl ca_ ?_; (with_reducible refine (drayageref01_Mul.calls kj8 a1 a2 t293 t294 _ A17.out).mono ?_); rintro e w' ⟨rfl, ⟨nd, rfl⟩⟩; refine ⟨_, rfl, ?_⟩) | ((with_reducible refine gate_callee (f := 29) rfl ?_); refine goesL_ (some 69) rfl rfl Tryd.func29 (by kernel_rfl) rfl #[.int .i64 a1, .int .i64 a2] rfl ca_ ?_; (with_reducible refine (quant_Share.calls kj8 a1 a2 t295 t296 _ A18.out).mono ?_); rintro e w39 ⟨rfl, hb⟩; refine ⟨_, rfl, ?_⟩; replace HB := Aside0.mk (below_step bw_ hb); (try clear hb); (try clear hb2); (try clear hk); (try clear hi)) | ((with_reducible refine gate_callee (f := 30) rfl ?_); refine goesL_ (some 75) rfl rfl Tryd.func30 (by kernel_rfl) rfl #[.int .i64 a1, .int .i64 a2] rfl ca_ ?_; (with_reducible refine (drayageref01_Share.calls kj8 a1 a2 t297 t298 _ A19.out).mono ?_); rintro e w' ⟨rfl, ⟨nd, rfl⟩⟩; refine ⟨_, rfl, ?_⟩))
          go_ret
          exact ⟨by first | rfl | (simp [errW_none, errW_some] <;> rfl) | (simp only [← hji4]; first | rfl | (simp [errW_none, errW_some] <;> rfl)) | (simp [*, errW_none, errW_some] <;> rfl), bw_⟩
        ·rw [if_neg c22] at H
         have c22b0 : (t291 == t293) = false := beq_eq_false_iff_ne.mpr c22
         have c22b1 : (t291 != t293) = true := bne_iff_ne.mpr c22
         obtain rfl := Option.some.inj H
         go_wp2_with (first | ((with_reducible refine gate_callee (f := 25) rfl ?_); refine goesL_ (some 45) rfl rfl Tryd.func25 (by kernel_rfl) rfl #[.int .i64 a1, .int .i64 a2] rfl ca_ ?_; (with_reducible refine (quant_Sub.calls a1 a2 t287 t288 _ A14.out).mono ?_); rintro e w40 ⟨rfl, hb⟩; refine ⟨_, rfl, ?_⟩; replace HB := Aside0.mk (below_step bw_ hb); (try clear hb); (try clear hb2); (try clear hk); (try clear hi)) | ((with_reducible refine gate_callee (f := 26) rfl ?_); refine goesL_ (some 51) rfl rfl Tryd.func26 (by kernel_rfl) rfl #[.int .i64 a1, .int .i64 a2] rfl ca_ ?_; (with_reducible refine (drayageref01_Sub.calls kj8 a1 a2 t289 t290 _ A15.out).mono ?_); rintro e w' ⟨rfl, ⟨nd, rfl⟩⟩; refine ⟨_, rfl, ?_⟩) | ((with_reducible refine gate_callee (f := 27) rfl ?_); refine goesL_ (some 57) rfl rfl Tryd.func27 (by kernel_rfl) rfl #[.int .i64 a1, .int .i64 a2] rfl ca_ ?_; (with_reducible refine (quant_Mul.calls a1 a2 t291 t292 _ A16.out).mono ?_); rintro e w41 ⟨rfl, hb⟩; refine ⟨_, rfl, ?_⟩; replace HB := Aside0.mk (below_step bw_ hb); (try clear hb); (try clear hb2); (try clear hk); (try clear hi)) | ((with_reducible refine gate_callee (f := 28) rfl ?_); refine goesL_ (some 63) rfl rfl Tryd.func28 (by kernel_rfl) rfl #[.int .i64 a1, .int .i64 a2] rfl ca_ ?_; (with_reducible refine (drayageref01_Mul.calls kj8 a1 a2 t293 t294 _ A17.out).mono ?_); rintro e w' ⟨rfl, ⟨nd, rfl⟩⟩; refine ⟨_, rfl, ?_⟩) | ((with_reducible refine gate_callee (f := 29) rfl ?_); refine goesL_ (some 69) rfl rfl Tryd.func29 (by kernel_rfl) rfl #[.int .i64 a1, .int .i64 a2] rfl ca_ ?_; (with_reducible refine (quant_Share.calls kj8 a1 a2 t295 t296 _ A18.out).mono ?_); rintro e w42 ⟨rfl, hb⟩; refine ⟨_, rfl, ?_⟩; replace HB := Aside0.mk (below_step bw_ hb); (try clear hb); (try clear hb2); (try clear hk); (try clear hi)) | ((with_reducible refine gate_callee (f := 30) rfl ?_); refine goesL_ (some 75) rfl rfl Tryd.func30 (by kernel_rfl) rfl #[.int .i64 a1, .int .i64 a2] rfl ca_ ?_; (with_reducible refine (drayageref01_Share.calls kj8 a1 a2 t297 t298 _ A19.out).mono ?_); rintro e w' ⟨rfl, ⟨nd, rfl⟩⟩; refine ⟨_, rfl, ?_⟩))
         go_ret
         exact ⟨by first | rfl | (simp [errW_none, errW_some] <;> rfl) | (simp only [← hji4]; first | rfl | (simp [errW_none, errW_some] <;> rfl)) | (simp [*, errW_none, errW_some] <;> rfl), bw_⟩
       ·rw [if_neg c21] at H
        have c21b0 : (t288 == t290) = false := beq_eq_false_iff_ne.mpr c21
        have c21b1 : (t288 != t290) = true := bne_iff_ne.mpr c21
        obtain rfl := Option.some.inj H
        go_wp2_with (first | ((with_reducible refine gate_callee (f := 25) rfl ?_); refine goesL_ (some 45) rfl rfl Tryd.func25 (by kernel_rfl) rfl #[.int .i64 a1, .int .i64 a2] rfl ca_ ?_; (with_reducible refine (quant_Sub.calls a1 a2 t287 t288 _ A14.out).mono ?_); rintro e w43 ⟨rfl, hb⟩; refine ⟨_, rfl, ?_⟩; replace HB := Aside0.mk (below_step bw_ hb); (try clear hb); (try clear hb2); (try clear hk); (try clear hi)) | ((with_reducible refine gate_callee (f := 26) rfl ?_); refine goesL_ (some 51) rfl rfl Tryd.func26 (by kernel_rfl) rfl #[.int .i64 a1, .int .i64 a2] rfl ca_ ?_; (with_reducible refine (drayageref01_Sub.calls kj8 a1 a2 t289 t290 _ A15.out).mono ?_); rintro e w' ⟨rfl, ⟨nd, rfl⟩⟩; refine ⟨_, rfl, ?_⟩) | ((with_reducible refine gate_callee (f := 27) rfl ?_); refine goesL_ (some 57) rfl rfl Tryd.func27 (by kernel_rfl) rfl #[.int .i64 a1, .int .i64 a2] rfl ca_ ?_; (with_reducible refine (quant_Mul.calls a1 a2 t291 t292 _ A16.out).mono ?_); rintro e w44 ⟨rfl, hb⟩; refine ⟨_, rfl, ?_⟩; replace HB := Aside0.mk (below_step bw_ hb); (try clear hb); (try clear hb2); (try clear hk); (try clear hi)) | ((with_reducible refine gate_callee (f := 28) rfl ?_); refine goesL_ (some 63) rfl rfl Tryd.func28 (by kernel_rfl) rfl #[.int .i64 a1, .int .i64 a2] rfl ca_ ?_; (with_reducible refine (drayageref01_Mul.calls kj8 a1 a2 t293 t294 _ A17.out).mono ?_); rintro e w' ⟨rfl, ⟨nd, rfl⟩⟩; refine ⟨_, rfl, ?_⟩) | ((with_reducible refine gate_callee (f := 29) rfl ?_); refine goesL_ (some 69) rfl rfl Tryd.func29 (by kernel_rfl) rfl #[.int .i64 a1, .int .i64 a2] rfl ca_ ?_; (with_reducible refine (quant_Share.calls kj8 a1 a2 t295 t296 _ A18.out).mono ?_); rintro e w45 ⟨rfl, hb⟩; refine ⟨_, rfl, ?_⟩; replace HB := Aside0.mk (below_step bw_ hb); (try clear hb); (try clear hb2); (try clear hk); (try clear hi)) | ((with_reducible refine gate_callee (f := 30) rfl ?_); refine goesL_ (some 75) rfl rfl Tryd.func30 (by kernel_rfl) rfl #[.int .i64 a1, .int .i64 a2] rfl ca_ ?_; (with_reducible refine (drayageref01_Share.calls kj8 a1 a2 t297 t298 _ A19.out).mono ?_); rintro e w' ⟨rfl, ⟨nd, rfl⟩⟩; refine ⟨_, rfl, ?_⟩))
        go_ret
        exact ⟨by first | rfl | (simp [errW_none, errW_some] <;> rfl) | (simp only [← hji4]; first | rfl | (simp [errW_none, errW_some] <;> rfl)) | (simp [*, errW_none, errW_some] <;> rfl), bw_⟩
      ·rw [if_neg c20] at H
       have c20b0 : (t287 == t289) = false := beq_eq_false_iff_ne.mpr c20
       have c20b1 : (t287 != t289) = true := bne_iff_ne.mpr c20
       obtain rfl := Option.some.inj H
       go_wp2_with (first | ((with_reducible refine gate_callee (f := 25) rfl ?_); refine goesL_ (some 45) rfl rfl Tryd.func25 (by kernel_rfl) rfl #[.int .i64 a1, .int .i64 a2] rfl ca_ ?_; (with_reducible refine (quant_Sub.calls a1 a2 t287 t288 _ A14.out).mono ?_); rintro e w46 ⟨rfl, hb⟩; refine ⟨_, rfl, ?_⟩; replace HB := Aside0.mk (below_step bw_ hb); (try clear hb); (try clear hb2); (try clear hk); (try clear hi)) | ((with_reducible refine gate_callee (f := 26) rfl ?_); refine goesL_ (some 51) rfl rfl Tryd.func26 (by kernel_rfl) rfl #[.int .i64 a1, .int .i64 a2] rfl ca_ ?_; (with_reducible refine (drayageref01_Sub.calls kj8 a1 a2 t289 t290 _ A15.out).mono ?_); rintro e w' ⟨rfl, ⟨nd, rfl⟩⟩; refine ⟨_, rfl, ?_⟩) | ((with_reducible refine gate_callee (f := 27) rfl ?_); refine goesL_ (some 57) rfl rfl Tryd.func27 (by kernel_rfl) rfl #[.int .i64 a1, .int .i64 a2] rfl ca_ ?_; (with_reducible refine (quant_Mul.calls a1 a2 t291 t292 _ A16.out).mono ?_); rintro e w47 ⟨rfl, hb⟩; refine ⟨_, rfl, ?_⟩; replace HB := Aside0.mk (below_step bw_ hb); (try clear hb); (try clear hb2); (try clear hk); (try clear hi)) | ((with_reducible refine gate_callee (f := 28) rfl ?_); refine goesL_ (some 63) rfl rfl Tryd.func28 (by kernel_rfl) rfl #[.int .i64 a1, .int .i64 a2] rfl ca_ ?_; (with_reducible refine (drayageref01_Mul.calls kj8 a1 a2 t293 t294 _ A17.out).mono ?_); rintro e w' ⟨rfl, ⟨nd, rfl⟩⟩; refine ⟨_, rfl, ?_⟩) | ((with_reducible refine gate_callee (f := 29) rfl ?_); refine goesL_ (some 69) rfl rfl Tryd.func29 (by kernel_rfl) rfl #[.int .i64 a1, .int .i64 a2] rfl ca_ ?_; (with_reducible refine (quant_Share.calls kj8 a1 a2 t295 t296 _ A18.out).mono ?_); rintro e w48 ⟨rfl, hb⟩; refine ⟨_, rfl, ?_⟩; replace HB := Aside0.mk (below_step bw_ hb); (try clear hb); (try clear hb2); (try clear hk); (try clear hi)) | ((with_reducible refine gate_callee (f := 30) rfl ?_); refine goesL_ (some 75) rfl rfl Tryd.func30 (by kernel_rfl) rfl #[.int .i64 a1, .int .i64 a2] rfl ca_ ?_; (with_reducible refine (drayageref01_Share.calls kj8 a1 a2 t297 t298 _ A19.out).mono ?_); rintro e w' ⟨rfl, ⟨nd, rfl⟩⟩; refine ⟨_, rfl, ?_⟩))
       go_ret
       exact ⟨by first | rfl | (simp [errW_none, errW_some] <;> rfl) | (simp only [← hji4]; first | rfl | (simp [errW_none, errW_some] <;> rfl)) | (simp [*, errW_none, errW_some] <;> rfl), bw_⟩
  ·rw [if_neg c6] at H
   exact absurd H (by simp)
 ·rw [if_neg c5] at H
  exact absurd H (by simp)

end Go.Proofs.YtkpoipjgbdcdjaaDoor.P
