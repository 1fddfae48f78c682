-- PRINTED by print.py (a twelfth state) out of the translation. Not trusted: Lean checks it.
import Derived.Test.YtkpoipjgbdcdjaaDoorP0
import Derived.Test.YtkpoipjgbdcdjaaDoorHval
import Derived.Test.YtkpoipjgbdcdjaaDoorHparse
import Derived.Test.YtkpoipjgbdcdjaaDoorPf15
namespace Go.Proofs.YtkpoipjgbdcdjaaDoor.P
open Go.RowKit Go.Proofs.YtkpoipjgbdcdjaaDoorW.PrintWords Go.Proofs.YtkpoipjgbdcdjaaDoorW.PrintLast Go.Proofs.YtkpoipjgbdcdjaaDoorW.PrintMore
attribute [local go_sem] max2_int min2_int max_two min_two max_three min_three max_four min_four   -- for this text's walks alone
set_option linter.unusedVariables false
set_option linter.unusedSimpArgs false

/-! ### drayagelaw01_QuantWhere: function 10 -/
mutual
def drayagelaw01_QuantWhere.j0 : Nat → ByteArray → Bool → Int → Int → Bool → Option (Bool)
  | 0, _, _, _, _, _ => none
  | k + 1, x0, x1, x6, x7, x32 => if x32 = true then (if x6 = 0 then ((drayagelaw01_works.f k).bind fun t350 => (some t350)) else (some false)) else (if x6 < 0 then (drayagelaw01_QuantWhere.j1 k x0 x1 x6 true) else (if x6 > (x0.size : Int) then (drayagelaw01_QuantWhere.j1 k x0 x1 x6 true) else (if x7 = 3 then (if x6 = (x0.size : Int) then (if x6 > 0 then (if x6 < (x0.size : Int) then (if 0 ≤ x6 then ((utf8_RuneStart.f (bt x0 x6)).bind fun t351 => (if t351 = true then (drayagelaw01_QuantWhere.j1 k x0 x1 x6 false) else ((utf8_ValidString.f x0).bind fun t352 => (drayagelaw01_QuantWhere.j1 k x0 x1 x6 t352)))) else (none)) else (drayagelaw01_QuantWhere.j1 k x0 x1 x6 false)) else (drayagelaw01_QuantWhere.j1 k x0 x1 x6 false)) else (drayagelaw01_QuantWhere.j1 k x0 x1 x6 true)) else (if x6 > 0 then (if x6 < (x0.size : Int) then (if 0 ≤ x6 then ((utf8_RuneStart.f (bt x0 x6)).bind fun t353 => (if t353 = true then (drayagelaw01_QuantWhere.j1 k x0 x1 x6 false) else ((utf8_ValidString.f x0).bind fun t354 => (drayagelaw01_QuantWhere.j1 k x0 x1 x6 t354)))) else (none)) else (drayagelaw01_QuantWhere.j1 k x0 x1 x6 false)) else (drayagelaw01_QuantWhere.j1 k x0 x1 x6 false)))))
def drayagelaw01_QuantWhere.j1 : Nat → ByteArray → Bool → Int → Bool → Option (Bool)
  | 0, _, _, _, _ => none
  | k + 1, x0, x1, x6, x76 => if x76 = true then (some false) else (if 0 ≤ x6 then (if x6 ≤ (x0.size : Int) then (drayagelaw01_QuantWhere.l0 k x1 (x0.extract 0 (x6 : Int).toNat) ((x0.extract 0 (x6 : Int).toNat).toList == ([] : List UInt8)) (([(⟨#[]⟩ : ByteArray), (⟨#[48]⟩ : ByteArray), (⟨#[105]⟩ : ByteArray), (⟨#[49]⟩ : ByteArray)] : List ByteArray)) 0) else (none)) else (none))
def drayagelaw01_QuantWhere.l0 : Nat → Bool → ByteArray → Bool → List ByteArray → Int → Option (Bool)
  | 0, _, _, _, _, _ => none
  | k + 1, x1, x8, x9, x10, x11 => if x11 < (x10.length : Int) then (if 0 ≤ x11 then (if x8.size + (rdOf ByteArray.empty x10 x11).size ≤ 9223372036854775807 then ((quant_Parse.f (x8 ++ (rdOf ByteArray.empty x10 x11)) x1).bind fun bt359 => (if x9 = true then (drayagelaw01_QuantWhere.l0 k x1 x8 true x10 (wrap64 (x11 + 1))) else (if bt359.2.2 = 0 then (drayagelaw01_QuantWhere.l0 k x1 x8 true x10 (wrap64 (x11 + 1))) else (if bt359.2.2 = 10 then (drayagelaw01_QuantWhere.l0 k x1 x8 true x10 (wrap64 (x11 + 1))) else (if bt359.2.2 = 4 then (drayagelaw01_QuantWhere.l0 k x1 x8 (bt359.2.1 == 0) x10 (wrap64 (x11 + 1))) else (drayagelaw01_QuantWhere.l0 k x1 x8 false x10 (wrap64 (x11 + 1)))))))) else (none)) else (none)) else (if x9 = true then ((drayagelaw01_works.f k).bind fun t362 => (some t362)) else (some false))
end
def drayagelaw01_QuantWhere.f (k : Nat) (a0 : ByteArray) (a1 : Bool) : Option (Bool) := if 0 ≤ (mn (a0.size : Int) 100) then (if (mn (a0.size : Int) 100) ≤ (a0.size : Int) then ((quant_Parse.f (a0.extract 0 ((mn (a0.size : Int) 100) : Int).toNat) a1).bind fun bt347 => (if bt347.2.2 = 0 then (drayagelaw01_QuantWhere.j0 k (a0.extract 0 ((mn (a0.size : Int) 100) : Int).toNat) a1 bt347.2.1 bt347.2.2 true) else (drayagelaw01_QuantWhere.j0 k (a0.extract 0 ((mn (a0.size : Int) 100) : Int).toNat) a1 bt347.2.1 bt347.2.2 (bt347.2.2 == 10)))) else (none)) else (none)
theorem drayagelaw01_QuantWhere.mono_l : ∀ k, (∀ y0 y1 y2 y3 y4, LeO (drayagelaw01_QuantWhere.j0 k y0 y1 y2 y3 y4) (drayagelaw01_QuantWhere.j0 (k + 1) y0 y1 y2 y3 y4)) ∧ (∀ y0 y1 y2 y3, LeO (drayagelaw01_QuantWhere.j1 k y0 y1 y2 y3) (drayagelaw01_QuantWhere.j1 (k + 1) y0 y1 y2 y3)) ∧ (∀ y0 y1 y2 y3 y4, LeO (drayagelaw01_QuantWhere.l0 k y0 y1 y2 y3 y4) (drayagelaw01_QuantWhere.l0 (k + 1) y0 y1 y2 y3 y4))
  | 0 => ⟨fun _ _ _ _ _ r h => by simp [drayagelaw01_QuantWhere.j0] at h, fun _ _ _ _ r h => by simp [drayagelaw01_QuantWhere.j1] at h, fun _ _ _ _ _ r h => by simp [drayagelaw01_QuantWhere.l0] at h⟩
  | k + 1 => by
    obtain ⟨ih0, ih1, ih2⟩ := drayagelaw01_QuantWhere.mono_l k
    refine ⟨?_, ?_, ?_⟩
    · intro y0 y1 y2 y3 y4
      unfold drayagelaw01_QuantWhere.j0
      repeat' first
      | (with_reducible exact ih0 _ _ _ _ _)
      | (with_reducible exact ih1 _ _ _ _)
      | (with_reducible exact ih2 _ _ _ _ _)
      | (with_reducible exact drayagelaw01_works.mono _)
      | (with_reducible exact LeO.refl _)
      | (with_reducible exact LeO.none _)
      | (with_reducible refine LeO.ite ?_ ?_)
      | (with_reducible refine LeO.bind ?_ (fun _ => ?_))
      | exact ih0 _ _ _ _ _
      | exact ih1 _ _ _ _
      | exact ih2 _ _ _ _ _
      | exact drayagelaw01_works.mono _
      | exact LeO.none _
      | refine LeO.ite ?_ ?_
      | refine LeO.bind ?_ (fun _ => ?_)
    · intro y0 y1 y2 y3
      unfold drayagelaw01_QuantWhere.j1
      repeat' first
      | (with_reducible exact ih0 _ _ _ _ _)
      | (with_reducible exact ih1 _ _ _ _)
      | (with_reducible exact ih2 _ _ _ _ _)
      | (with_reducible exact drayagelaw01_works.mono _)
      | (with_reducible exact LeO.refl _)
      | (with_reducible exact LeO.none _)
      | (with_reducible refine LeO.ite ?_ ?_)
      | (with_reducible refine LeO.bind ?_ (fun _ => ?_))
      | exact ih0 _ _ _ _ _
      | exact ih1 _ _ _ _
      | exact ih2 _ _ _ _ _
      | exact drayagelaw01_works.mono _
      | exact LeO.none _
      | refine LeO.ite ?_ ?_
      | refine LeO.bind ?_ (fun _ => ?_)
    · intro y0 y1 y2 y3 y4
      unfold drayagelaw01_QuantWhere.l0
      repeat' first
      | (with_reducible exact ih0 _ _ _ _ _)
      | (with_reducible exact ih1 _ _ _ _)
      | (with_reducible exact ih2 _ _ _ _ _)
      | (with_reducible exact drayagelaw01_works.mono _)
      | (with_reducible exact LeO.refl _)
      | (with_reducible exact LeO.none _)
      | (with_reducible refine LeO.ite ?_ ?_)
      | (with_reducible refine LeO.bind ?_ (fun _ => ?_))
      | exact ih0 _ _ _ _ _
      | exact ih1 _ _ _ _
      | exact ih2 _ _ _ _ _
      | exact drayagelaw01_works.mono _
      | exact LeO.none _
      | refine LeO.ite ?_ ?_
      | refine LeO.bind ?_ (fun _ => ?_)
theorem drayagelaw01_QuantWhere.mono : ∀ a0 a1 k, LeO (drayagelaw01_QuantWhere.f k a0 a1) (drayagelaw01_QuantWhere.f (k + 1) a0 a1) := by
  intro a0 a1 k
  obtain ⟨ih0, ih1, ih2⟩ := drayagelaw01_QuantWhere.mono_l k
  unfold drayagelaw01_QuantWhere.f
  repeat' first
      | (with_reducible exact ih0 _ _ _ _ _)
      | (with_reducible exact ih1 _ _ _ _)
      | (with_reducible exact ih2 _ _ _ _ _)
      | (with_reducible exact drayagelaw01_works.mono _)
      | (with_reducible exact LeO.refl _)
      | (with_reducible exact LeO.none _)
      | (with_reducible refine LeO.ite ?_ ?_)
      | (with_reducible refine LeO.bind ?_ (fun _ => ?_))
      | exact ih0 _ _ _ _ _
      | exact ih1 _ _ _ _
      | exact ih2 _ _ _ _ _
      | exact drayagelaw01_works.mono _
      | exact LeO.none _
      | refine LeO.ite ?_ ?_
      | refine LeO.bind ?_ (fun _ => ?_)
set_option maxHeartbeats 8000000 in
set_option maxRecDepth 100000 in
theorem drayagelaw01_QuantWhere.calls (k : Nat) (a0 : ByteArray) (a1 : Bool) (r : Bool) (w : World) (h : drayagelaw01_QuantWhere.f k a0 a1 = some r) (hT0 : Tw w) :
    Calls Tryd.prog 10 #[.string a0, .bool a1] w fun e w' => e = .returned (.bool r) ∧ Below w.heap.size w w' := by
  have hT_ := Aside0.mk hT0
  clear hT0
  have HB := Aside0.mk (Below.refl w.heap.size w)
  have H : (if 0 ≤ (mn (a0.size : Int) 100) then (if (mn (a0.size : Int) 100) ≤ (a0.size : Int) then ((quant_Parse.f (a0.extract 0 ((mn (a0.size : Int) 100) : Int).toNat) a1).bind fun bt347 => (if bt347.2.2 = 0 then (drayagelaw01_QuantWhere.j0 k (a0.extract 0 ((mn (a0.size : Int) 100) : Int).toNat) a1 bt347.2.1 bt347.2.2 true) else (drayagelaw01_QuantWhere.j0 k (a0.extract 0 ((mn (a0.size : Int) 100) : Int).toNat) a1 bt347.2.1 bt347.2.2 (bt347.2.2 == 10)))) else (none)) else (none)) = some r := h
  clear h
  obtain ⟨ji3, hji3⟩ : ∃ j_ : Int, (mn (a0.size : Int) 100) = j_ := ⟨_, rfl⟩
  replace H : (if 0 ≤ (ji3) then (if (ji3) ≤ (a0.size : Int) then ((quant_Parse.f (a0.extract 0 ((ji3) : Int).toNat) a1).bind fun bt347 => (if bt347.2.2 = 0 then (drayagelaw01_QuantWhere.j0 k (a0.extract 0 ((ji3) : Int).toNat) a1 bt347.2.1 bt347.2.2 true) else (drayagelaw01_QuantWhere.j0 k (a0.extract 0 ((ji3) : Int).toNat) a1 bt347.2.1 bt347.2.2 (bt347.2.2 == 10)))) else (none)) else (none)) = some r := by first | (rw [hji3] at H; exact H) | (simp only [hji3] at H ⊢; exact H)
  (try (have hji3h : ji3 ≤ 100 := by (rw [← hji3]; unfold mn; (repeat' split) <;> omega)))
  (try (have hji3g : ji3 ≤ 64 := by omega))
  (try (have hji3l : 0 ≤ ji3 := by (rw [← hji3]; unfold mn; (repeat' split) <;> omega)))
  (try (have hji3m : 0 ≤ ji3 := by omega))
  have hji3_ : (if 100 < (a0.size : Int) then 100 else (a0.size : Int)) = ji3 := hji3
  by_cases c4 : 0 ≤ (ji3)
  · rw [if_pos c4] at H
    have c4b0 := eq_true c4
    have c4b1 : decide (0 ≤ (ji3)) = true := decide_eq_true c4
    clear c4
    by_cases c5 : (ji3) ≤ (a0.size : Int)
    · rw [if_pos c5] at H
      have c5b0 := eq_true c5
      have c5b1 : decide ((ji3) ≤ (a0.size : Int)) = true := decide_eq_true c5
      obtain ⟨xq, hxq⟩ : ∃ x_ : ByteArray, a0.extract 0 ((ji3) : Int).toNat = x_ := ⟨_, rfl⟩
      simp only [hxq] at H
      clear c5
      replace H := Option.bind_eq_some_iff.mp H
      obtain ⟨⟨t347, t348, t349⟩, A60, H⟩ := H
      replace H : (if t349 = 0 then (drayagelaw01_QuantWhere.j0 k xq a1 t348 t349 true) else (drayagelaw01_QuantWhere.j0 k xq a1 t348 t349 (t349 == 10))) = some r := H
      have A6 := Aside0.mk A60
      clear A60
      have HC7 := Aside0.mk H
      clear H
      go_enter Tryd.func10, Tryd.ntmps10
      go_upto_region 3 with (first | ((with_reducible refine gate_callee (f := 11) rfl ?_); refine goesL_ (some 23) rfl rfl Tryd.func11 (by kernel_rfl) rfl #[.string xq, .bool a1] rfl (by (try simp only [List.map_toArray, List.map_cons, List.map_nil]); first | done | (simp only [hji3]; rfl) | rfl | (simp only [List.length_drop, List.length_take]; rfl)) ?_; (with_reducible refine (quant_Parse.calls xq a1 t347 t348 t349 _ A6.out).mono ?_); rintro e w8 ⟨rfl, hb⟩; refine ⟨_, rfl, ?_⟩; have n0_ := Aside0.mk (below_step (by repeat (first | (with_reducible first | exact HB.out | apply below_alloc | apply pw_below_drewN | apply below_drew1) | exact HB.out)) hb); clear HB; have HB := n0_; clear n0_; (try clear hb); (try clear hb2); (try clear hk); (try clear hi)))
      (try simp only [Act.put, List.setIfInBounds_toArray, List.set_cons_zero, List.set_cons_succ])
      go_cut [32] (fun v32 wc => ∃ (kq : Nat) (x32_6 : Bool), v32 = .bool x32_6 ∧ Aside0 (drayagelaw01_QuantWhere.j0 kq xq a1 t348 t349 x32_6 = some r) ∧ Aside0 (kq ≤ k) ∧ Aside0 (Below w.heap.size w wc))
      case first =>
        have H := HC7.out
        clear HC7
        by_cases c9 : t349 = 0
        · rw [if_pos c9] at H
          have c9b0 : (t349 == 0) = true := beq_iff_eq.mpr c9
          have c9b1 : (t349 != 0) = false := bne_eq_false_iff_eq.mpr c9
          clear c9
          (first | rw [c9b0] | (simp only [i64_w, i32_w]; rw [c9b0]) | skip)
          have H' := Aside0.mk H
          clear H
          go_wp2
          go_meet
          case rel => exact ⟨_, (true), (by first | rfl | (simp; done) | (simp [*]; done)), H', ⟨by first | omega | exact Nat.le_refl _⟩, ⟨by repeat (first | (with_reducible first | exact HB.out | apply below_alloc | apply pw_below_drewN | apply below_drew1) | exact HB.out)⟩⟩
        · rw [if_neg c9] at H
          have c9b0 : (t349 == 0) = false := beq_eq_false_iff_ne.mpr c9
          have c9b1 : (t349 != 0) = true := bne_iff_ne.mpr c9
          (first | rw [c9b0] | (simp only [i64_w, i32_w]; rw [c9b0]) | skip)
          have H' := Aside0.mk H
          clear H
          go_wp2
          go_meet
          case rel => exact ⟨_, ((t349 == 10)), (by first | rfl | (simp; done) | (simp [*]; done)), H', ⟨by first | omega | exact Nat.le_refl _⟩, ⟨by repeat (first | (with_reducible first | exact HB.out | apply below_alloc | apply pw_below_drewN | apply below_drew1) | exact HB.out)⟩⟩
      case rest =>
        clear HC7
        try clear c1
        try clear p2
        try clear c4
        try clear c4b0
        try clear c4b1
        try clear c5
        try clear c5b0
        try clear c5b1
        try clear c9
        try clear c9b0
        try clear c9b1
        obtain ⟨kq, x32_6, rfl, HA, HJ6, HB⟩ := hcut
        cases kq with
        | zero => exact absurd HA.out (by simp [drayagelaw01_QuantWhere.j0])
        | succ kj6 =>
          have H := HA.out
          clear HA
          simp only [drayagelaw01_QuantWhere.j0] at H
          by_cases c10 : x32_6 = true
          · subst c10
            have H1 : (if t348 = 0 then ((drayagelaw01_works.f kj6).bind fun t350 => (some t350)) else (some false)) = some r := by rw [if_pos rfl] at H; exact H
            clear H
            have H := H1
            clear H1
            by_cases c11 : t348 = 0
            · rw [if_pos c11] at H
              have c11b0 : (t348 == 0) = true := beq_iff_eq.mpr c11
              have c11b1 : (t348 != 0) = false := bne_eq_false_iff_eq.mpr c11
              clear c11
              replace H := Option.bind_eq_some_iff.mp H
              obtain ⟨t350, A120, H⟩ := H
              replace H : (some t350) = some r := H
              have A12 := Aside0.mk A120
              clear A120
              obtain rfl := Option.some.inj H
              go_wp2_with (first | (go_at_call 15; (with_reducible refine (drayagelaw01_works.calls kj6  t350 _ A12.out ?sideT_).mono ?_); (case sideT_ => first | exact hT_.out | exact hT_.out.1 | exact hT_.out.up (by repeat (first | (with_reducible first | exact HB.out | apply below_alloc | apply pw_below_drewN | apply below_drew1) | exact HB.out)) | exact (hT_.out.up (by repeat (first | (with_reducible first | exact HB.out | apply below_alloc | apply pw_below_drewN | apply below_drew1) | exact HB.out))).1); rintro e w13 ⟨rfl, hb⟩; have n0_ := Aside0.mk (below_step (by repeat (first | (with_reducible first | exact HB.out | apply below_alloc | apply pw_below_drewN | apply below_drew1) | exact HB.out)) hb); clear HB; have HB := n0_; clear n0_; (try clear hb); (try clear hb2); (try clear hk); (try clear hi)))
              go_ret
              exact ⟨by first | rfl | (simp [errW_none, errW_some] <;> rfl) | (simp only [← hji3]; first | rfl | (simp [errW_none, errW_some] <;> rfl)) | (simp [*, errW_none, errW_some] <;> rfl), by repeat (first | (with_reducible first | exact HB.out | apply below_alloc | apply pw_below_drewN | apply below_drew1) | exact HB.out)⟩
            · rw [if_neg c11] at H
              have c11b0 : (t348 == 0) = false := beq_eq_false_iff_ne.mpr c11
              have c11b1 : (t348 != 0) = true := bne_iff_ne.mpr c11
              obtain rfl := Option.some.inj H
              go_wp2
              go_ret
              exact ⟨by first | rfl | (simp [errW_none, errW_some] <;> rfl) | (simp only [← hji3]; first | rfl | (simp [errW_none, errW_some] <;> rfl)) | (simp [*, errW_none, errW_some] <;> rfl), by repeat (first | (with_reducible first | exact HB.out | apply below_alloc | apply pw_below_drewN | apply below_drew1) | exact HB.out)⟩
          · replace c10 := Bool.eq_false_iff.mpr c10
            subst c10
            have H1 : (if t348 < 0 then (drayagelaw01_QuantWhere.j1 kj6 xq a1 t348 true) else (if t348 > (xq.size : Int) then (drayagelaw01_QuantWhere.j1 kj6 xq a1 t348 true) else (if t349 = 3 then (if t348 = (xq.size : Int) then (if t348 > 0 then (if t348 < (xq.size : Int) then (if 0 ≤ t348 then ((utf8_RuneStart.f (bt xq t348)).bind fun t351 => (if t351 = true then (drayagelaw01_QuantWhere.j1 kj6 xq a1 t348 false) else ((utf8_ValidString.f xq).bind fun t352 => (drayagelaw01_QuantWhere.j1 kj6 xq a1 t348 t352)))) else (none)) else (drayagelaw01_QuantWhere.j1 kj6 xq a1 t348 false)) else (drayagelaw01_QuantWhere.j1 kj6 xq a1 t348 false)) else (drayagelaw01_QuantWhere.j1 kj6 xq a1 t348 true)) else (if t348 > 0 then (if t348 < (xq.size : Int) then (if 0 ≤ t348 then ((utf8_RuneStart.f (bt xq t348)).bind fun t353 => (if t353 = true then (drayagelaw01_QuantWhere.j1 kj6 xq a1 t348 false) else ((utf8_ValidString.f xq).bind fun t354 => (drayagelaw01_QuantWhere.j1 kj6 xq a1 t348 t354)))) else (none)) else (drayagelaw01_QuantWhere.j1 kj6 xq a1 t348 false)) else (drayagelaw01_QuantWhere.j1 kj6 xq a1 t348 false))))) = some r := by rw [if_neg (show ¬ (false = true) by decide)] at H; exact H
            clear H
            have H := H1
            clear H1
            have HC14 := Aside0.mk H
            clear H
            go_upto_region 5 with (fail)
            go_cut [76] (fun v76 wc => ∃ (kq : Nat) (x76_13 : Bool), v76 = .bool x76_13 ∧ Aside0 (drayagelaw01_QuantWhere.j1 kq xq a1 t348 x76_13 = some r) ∧ Aside0 (kq ≤ kj6) ∧ Aside0 (Below w.heap.size w wc))
            case first =>
              have H := HC14.out
              clear HC14
              by_cases c15 : t348 < 0
              · rw [if_pos c15] at H
                have c15b0 : decide (t348 < 0) = true := decide_eq_true c15
                clear c15
                (first | rw [c15b0] | (simp only [i64_w, i32_w]; rw [c15b0]) | skip)
                have H' := Aside0.mk H
                clear H
                go_wp2
                go_meet
                case rel => exact ⟨_, (true), (by first | rfl | (simp; done) | (simp [*]; done)), H', ⟨by have := HJ6.out; first | omega | exact Nat.le_refl _⟩, ⟨by repeat (first | (with_reducible first | exact HB.out | apply below_alloc | apply pw_below_drewN | apply below_drew1) | exact HB.out)⟩⟩
              · rw [if_neg c15] at H
                have c15b0 : decide (t348 < 0) = false := decide_eq_false c15
                clear c15
                (first | rw [c15b0] | (simp only [i64_w, i32_w]; rw [c15b0]) | skip)
                by_cases c16 : t348 > (xq.size : Int)
                · rw [if_pos c16] at H
                  have c16b0 : decide ((xq.size : Int) < t348) = true := decide_eq_true c16
                  clear c16
                  have H' := Aside0.mk H
                  clear H
                  go_wp2
                  go_meet
                  case rel => exact ⟨_, (true), (by first | rfl | (simp; done) | (simp [*]; done)), H', ⟨by have := HJ6.out; first | omega | exact Nat.le_refl _⟩, ⟨by repeat (first | (with_reducible first | exact HB.out | apply below_alloc | apply pw_below_drewN | apply below_drew1) | exact HB.out)⟩⟩
                · rw [if_neg c16] at H
                  have c16b0 : decide ((xq.size : Int) < t348) = false := decide_eq_false c16
                  clear c16
                  by_cases c17 : t349 = 3
                  · rw [if_pos c17] at H
                    have c17b0 : (t349 == 3) = true := beq_iff_eq.mpr c17
                    have c17b1 : (t349 != 3) = false := bne_eq_false_iff_eq.mpr c17
                    clear c17
                    by_cases c18 : t348 = (xq.size : Int)
                    · rw [if_pos c18] at H
                      have c18b0 : (t348 == (xq.size : Int)) = true := beq_iff_eq.mpr c18
                      have c18b1 : (t348 != (xq.size : Int)) = false := bne_eq_false_iff_eq.mpr c18
                      clear c18
                      by_cases c19 : t348 > 0
                      · rw [if_pos c19] at H
                        have c19b0 : decide (0 < t348) = true := decide_eq_true c19
                        clear c19
                        by_cases c20 : t348 < (xq.size : Int)
                        · rw [if_pos c20] at H
                          have c20b0 : decide (t348 < (xq.size : Int)) = true := decide_eq_true c20
                          clear c20
                          by_cases c21 : 0 ≤ t348
                          · rw [if_pos c21] at H
                            have c21b0 : decide (0 ≤ t348) = true := decide_eq_true c21
                            clear c21
                            replace H := Option.bind_eq_some_iff.mp H
                            obtain ⟨t351, A230, H⟩ := H
                            replace H : (if t351 = true then (drayagelaw01_QuantWhere.j1 kj6 xq a1 t348 false) else ((utf8_ValidString.f xq).bind fun t352 => (drayagelaw01_QuantWhere.j1 kj6 xq a1 t348 t352))) = some r := H
                            have A23 := Aside0.mk A230
                            clear A230
                            by_cases c24 : t351 = true
                            · subst c24
                              have H1 : (drayagelaw01_QuantWhere.j1 kj6 xq a1 t348 false) = some r := by rw [if_pos rfl] at H; exact H
                              clear H
                              have H := H1
                              clear H1
                              have H' := Aside0.mk H
                              clear H
                              have p22 : 0 ≤ (t348 : Int) := of_decide_eq_true (by first | (with_reducible assumption) | assumption)
                              have q22 : t348 < (xq.size : Int) := of_decide_eq_true (by first | (with_reducible assumption) | assumption)
                              have hx22 := bt_at xq t348
                              replace p22 := eq_true p22
                              replace q22 := eq_true q22
                              go_wp2_with (first | (go_at_call 31; (with_reducible refine (utf8_RuneStart.calls (bt xq t348) true _ A23.out).mono ?_); rintro e w25 ⟨rfl, hb⟩; have n0_ := Aside0.mk (below_step (by repeat (first | (with_reducible first | exact HB.out | apply below_alloc | apply pw_below_drewN | apply below_drew1) | exact HB.out)) hb); clear HB; have HB := n0_; clear n0_; (try clear hb); (try clear hb2); (try clear hk); (try clear hi)))
                              go_meet
                              case rel => exact ⟨_, (false), (by first | rfl | (simp; done) | (simp [*]; done)), H', ⟨by have := HJ6.out; first | omega | exact Nat.le_refl _⟩, ⟨by repeat (first | (with_reducible first | exact HB.out | apply below_alloc | apply pw_below_drewN | apply below_drew1) | exact HB.out)⟩⟩
                            · replace c24 := Bool.eq_false_iff.mpr c24
                              subst c24
                              have H1 : ((utf8_ValidString.f xq).bind fun t352 => (drayagelaw01_QuantWhere.j1 kj6 xq a1 t348 t352)) = some r := by rw [if_neg (show ¬ (false = true) by decide)] at H; exact H
                              clear H
                              have H := H1
                              clear H1
                              replace H := Option.bind_eq_some_iff.mp H
                              obtain ⟨t352, A260, H⟩ := H
                              replace H : (drayagelaw01_QuantWhere.j1 kj6 xq a1 t348 t352) = some r := H
                              have A26 := Aside0.mk A260
                              clear A260
                              have H' := Aside0.mk H
                              clear H
                              have p22 : 0 ≤ (t348 : Int) := of_decide_eq_true (by first | (with_reducible assumption) | assumption)
                              have q22 : t348 < (xq.size : Int) := of_decide_eq_true (by first | (with_reducible assumption) | assumption)
                              have hx22 := bt_at xq t348
                              replace p22 := eq_true p22
                              replace q22 := eq_true q22
                              go_wp2_with (first | (go_at_call 31; (with_reducible refine (utf8_RuneStart.calls (bt xq t348) false _ A23.out).mono ?_); rintro e w27 ⟨rfl, hb⟩; have n0_ := Aside0.mk (below_step (by repeat (first | (with_reducible first | exact HB.out | apply below_alloc | apply pw_below_drewN | apply below_drew1) | exact HB.out)) hb); clear HB; have HB := n0_; clear n0_; (try clear hb); (try clear hb2); (try clear hk); (try clear hi)) | (go_at_call 32; (with_reducible refine (utf8_ValidString.calls xq t352 _ A26.out ?sideT_).mono ?_); (case sideT_ => first | exact hT_.out | exact hT_.out.1 | exact hT_.out.up (by repeat (first | (with_reducible first | exact HB.out | apply below_alloc | apply pw_below_drewN | apply below_drew1) | exact HB.out)) | exact (hT_.out.up (by repeat (first | (with_reducible first | exact HB.out | apply below_alloc | apply pw_below_drewN | apply below_drew1) | exact HB.out))).1); rintro e w28 ⟨rfl, hb⟩; have n0_ := Aside0.mk (below_step (by repeat (first | (with_reducible first | exact HB.out | apply below_alloc | apply pw_below_drewN | apply below_drew1) | exact HB.out)) hb); clear HB; have HB := n0_; clear n0_; (try clear hb); (try clear hb2); (try clear hk); (try clear hi)))
                              go_meet
                              case rel => exact ⟨_, (t352), (by first | rfl | (simp; done) | (simp [*]; done)), H', ⟨by have := HJ6.out; first | omega | exact Nat.le_refl _⟩, ⟨by repeat (first | (with_reducible first | exact HB.out | apply below_alloc | apply pw_below_drewN | apply below_drew1) | exact HB.out)⟩⟩
                          · rw [if_neg c21] at H
                            exact absurd H (by simp)
                        · rw [if_neg c20] at H
                          have c20b0 : decide (t348 < (xq.size : Int)) = false := decide_eq_false c20
                          clear c20
                          have H' := Aside0.mk H
                          clear H
                          go_wp2
                          go_meet
                          case rel => exact ⟨_, (false), (by first | rfl | (simp; done) | (simp [*]; done)), H', ⟨by have := HJ6.out; first | omega | exact Nat.le_refl _⟩, ⟨by repeat (first | (with_reducible first | exact HB.out | apply below_alloc | apply pw_below_drewN | apply below_drew1) | exact HB.out)⟩⟩
                      · rw [if_neg c19] at H
                        have c19b0 : decide (0 < t348) = false := decide_eq_false c19
                        clear c19
                        have H' := Aside0.mk H
                        clear H
                        go_wp2
                        go_meet
                        case rel => exact ⟨_, (false), (by first | rfl | (simp; done) | (simp [*]; done)), H', ⟨by have := HJ6.out; first | omega | exact Nat.le_refl _⟩, ⟨by repeat (first | (with_reducible first | exact HB.out | apply below_alloc | apply pw_below_drewN | apply below_drew1) | exact HB.out)⟩⟩
                    · rw [if_neg c18] at H
                      have c18b0 : (t348 == (xq.size : Int)) = false := beq_eq_false_iff_ne.mpr c18
                      have c18b1 : (t348 != (xq.size : Int)) = true := bne_iff_ne.mpr c18
                      have H' := Aside0.mk H
                      clear H
                      go_wp2
                      go_meet
                      case rel => exact ⟨_, (true), (by first | rfl | (simp; done) | (simp [*]; done)), H', ⟨by have := HJ6.out; first | omega | exact Nat.le_refl _⟩, ⟨by repeat (first | (with_reducible first | exact HB.out | apply below_alloc | apply pw_below_drewN | apply below_drew1) | exact HB.out)⟩⟩
                  · rw [if_neg c17] at H
                    have c17b0 : (t349 == 3) = false := beq_eq_false_iff_ne.mpr c17
                    have c17b1 : (t349 != 3) = true := bne_iff_ne.mpr c17
                    by_cases c29 : t348 > 0
                    · rw [if_pos c29] at H
                      have c29b0 : decide (0 < t348) = true := decide_eq_true c29
                      clear c29
                      by_cases c30 : t348 < (xq.size : Int)
                      · rw [if_pos c30] at H
                        have c30b0 : decide (t348 < (xq.size : Int)) = true := decide_eq_true c30
                        clear c30
                        by_cases c31 : 0 ≤ t348
                        · rw [if_pos c31] at H
                          have c31b0 : decide (0 ≤ t348) = true := decide_eq_true c31
                          clear c31
                          replace H := Option.bind_eq_some_iff.mp H
                          obtain ⟨t353, A330, H⟩ := H
                          replace H : (if t353 = true then (drayagelaw01_QuantWhere.j1 kj6 xq a1 t348 false) else ((utf8_ValidString.f xq).bind fun t354 => (drayagelaw01_QuantWhere.j1 kj6 xq a1 t348 t354))) = some r := H
                          have A33 := Aside0.mk A330
                          clear A330
                          by_cases c34 : t353 = true
                          · subst c34
                            have H1 : (drayagelaw01_QuantWhere.j1 kj6 xq a1 t348 false) = some r := by rw [if_pos rfl] at H; exact H
                            clear H
                            have H := H1
                            clear H1
                            have H' := Aside0.mk H
                            clear H
                            have p32 : 0 ≤ (t348 : Int) := of_decide_eq_true (by first | (with_reducible assumption) | assumption)
                            have q32 : t348 < (xq.size : Int) := of_decide_eq_true (by first | (with_reducible assumption) | assumption)
                            have hx32 := bt_at xq t348
                            replace p32 := eq_true p32
                            replace q32 := eq_true q32
                            go_wp2_with (first | (go_at_call 31; (with_reducible refine (utf8_RuneStart.calls (bt xq t348) true _ A33.out).mono ?_); rintro e w35 ⟨rfl, hb⟩; have n0_ := Aside0.mk (below_step (by repeat (first | (with_reducible first | exact HB.out | apply below_alloc | apply pw_below_drewN | apply below_drew1) | exact HB.out)) hb); clear HB; have HB := n0_; clear n0_; (try clear hb); (try clear hb2); (try clear hk); (try clear hi)))
                            go_meet
                            case rel => exact ⟨_, (false), (by first | rfl | (simp; done) | (simp [*]; done)), H', ⟨by have := HJ6.out; first | omega | exact Nat.le_refl _⟩, ⟨by repeat (first | (with_reducible first | exact HB.out | apply below_alloc | apply pw_below_drewN | apply below_drew1) | exact HB.out)⟩⟩
                          · replace c34 := Bool.eq_false_iff.mpr c34
                            subst c34
                            have H1 : ((utf8_ValidString.f xq).bind fun t354 => (drayagelaw01_QuantWhere.j1 kj6 xq a1 t348 t354)) = some r := by rw [if_neg (show ¬ (false = true) by decide)] at H; exact H
                            clear H
                            have H := H1
                            clear H1
                            replace H := Option.bind_eq_some_iff.mp H
                            obtain ⟨t354, A360, H⟩ := H
                            replace H : (drayagelaw01_QuantWhere.j1 kj6 xq a1 t348 t354) = some r := H
                            have A36 := Aside0.mk A360
                            clear A360
                            have H' := Aside0.mk H
                            clear H
                            have p32 : 0 ≤ (t348 : Int) := of_decide_eq_true (by first | (with_reducible assumption) | assumption)
                            have q32 : t348 < (xq.size : Int) := of_decide_eq_true (by first | (with_reducible assumption) | assumption)
                            have hx32 := bt_at xq t348
                            replace p32 := eq_true p32
                            replace q32 := eq_true q32
                            go_wp2_with (first | (go_at_call 31; (with_reducible refine (utf8_RuneStart.calls (bt xq t348) false _ A33.out).mono ?_); rintro e w37 ⟨rfl, hb⟩; have n0_ := Aside0.mk (below_step (by repeat (first | (with_reducible first | exact HB.out | apply below_alloc | apply pw_below_drewN | apply below_drew1) | exact HB.out)) hb); clear HB; have HB := n0_; clear n0_; (try clear hb); (try clear hb2); (try clear hk); (try clear hi)) | (go_at_call 32; (with_reducible refine (utf8_ValidString.calls xq t354 _ A36.out ?sideT_).mono ?_); (case sideT_ => first | exact hT_.out | exact hT_.out.1 | exact hT_.out.up (by repeat (first | (with_reducible first | exact HB.out | apply below_alloc | apply pw_below_drewN | apply below_drew1) | exact HB.out)) | exact (hT_.out.up (by repeat (first | (with_reducible first | exact HB.out | apply below_alloc | apply pw_below_drewN | apply below_drew1) | exact HB.out))).1); rintro e w38 ⟨rfl, hb⟩; have n0_ := Aside0.mk (below_step (by repeat (first | (with_reducible first | exact HB.out | apply below_alloc | apply pw_below_drewN | apply below_drew1) | exact HB.out)) hb); clear HB; have HB := n0_; clear n0_; (try clear hb); (try clear hb2); (try clear hk); (try clear hi)))
                            go_meet
                            case rel => exact ⟨_, (t354), (by first | rfl | (simp; done) | (simp [*]; done)), H', ⟨by have := HJ6.out; first | omega | exact Nat.le_refl _⟩, ⟨by repeat (first | (with_reducible first | exact HB.out | apply below_alloc | apply pw_below_drewN | apply below_drew1) | exact HB.out)⟩⟩
                        · rw [if_neg c31] at H
                          exact absurd H (by simp)
                      · rw [if_neg c30] at H
                        have c30b0 : decide (t348 < (xq.size : Int)) = false := decide_eq_false c30
                        clear c30
                        have H' := Aside0.mk H
                        clear H
                        go_wp2
                        go_meet
                        case rel => exact ⟨_, (false), (by first | rfl | (simp; done) | (simp [*]; done)), H', ⟨by have := HJ6.out; first | omega | exact Nat.le_refl _⟩, ⟨by repeat (first | (with_reducible first | exact HB.out | apply below_alloc | apply pw_below_drewN | apply below_drew1) | exact HB.out)⟩⟩
                    · rw [if_neg c29] at H
                      have c29b0 : decide (0 < t348) = false := decide_eq_false c29
                      clear c29
                      have H' := Aside0.mk H
                      clear H
                      go_wp2
                      go_meet
                      case rel => exact ⟨_, (false), (by first | rfl | (simp; done) | (simp [*]; done)), H', ⟨by have := HJ6.out; first | omega | exact Nat.le_refl _⟩, ⟨by repeat (first | (with_reducible first | exact HB.out | apply below_alloc | apply pw_below_drewN | apply below_drew1) | exact HB.out)⟩⟩
            case rest =>
              clear HC14
              try clear c1
              try clear c2
              try clear p2
              try clear q2
              try clear hx2
              try clear c3
              try clear p3
              try clear q3
              try clear hx3
              try clear c4
              try clear c4b0
              try clear c4b1
              try clear c5
              try clear c5b0
              try clear c5b1
              try clear c9
              try clear c9b0
              try clear c9b1
              try clear c10
              try clear c11
              try clear c11b0
              try clear c11b1
              try clear c15
              try clear c15b0
              try clear c16
              try clear c16b0
              try clear c17
              try clear c17b0
              try clear c17b1
              try clear c18
              try clear c18b0
              try clear c18b1
              try clear c19
              try clear c19b0
              try clear c20
              try clear c20b0
              try clear c21
              try clear c21b0
              try clear p22
              try clear q22
              try clear hx22
              try clear c24
              try clear c29
              try clear c29b0
              try clear c30
              try clear c30b0
              try clear c31
              try clear c31b0
              try clear p32
              try clear q32
              try clear hx32
              try clear c34
              try clear p2
              try clear p22
              try clear p32
              try clear q22
              try clear q32
              obtain ⟨kq, x76_13, rfl, HA, HJ13, HB⟩ := hcut
              cases kq with
              | zero => exact absurd HA.out (by simp [drayagelaw01_QuantWhere.j1])
              | succ kj13 =>
                have H := HA.out
                clear HA
                simp only [drayagelaw01_QuantWhere.j1] at H
                by_cases c39 : x76_13 = true
                · subst c39
                  have H1 : (some false) = some r := by rw [if_pos rfl] at H; exact H
                  clear H
                  have H := H1
                  clear H1
                  obtain rfl := Option.some.inj H
                  go_wp2
                  go_ret
                  exact ⟨by first | rfl | (simp [errW_none, errW_some] <;> rfl) | (simp only [← hji3]; first | rfl | (simp [errW_none, errW_some] <;> rfl)) | (simp [*, errW_none, errW_some] <;> rfl), by repeat (first | (with_reducible first | exact HB.out | apply below_alloc | apply pw_below_drewN | apply below_drew1) | exact HB.out)⟩
                · replace c39 := Bool.eq_false_iff.mpr c39
                  subst c39
                  have H1 : (if 0 ≤ t348 then (if t348 ≤ (xq.size : Int) then (drayagelaw01_QuantWhere.l0 kj13 a1 (xq.extract 0 (t348 : Int).toNat) ((xq.extract 0 (t348 : Int).toNat).toList == ([] : List UInt8)) (([(⟨#[]⟩ : ByteArray), (⟨#[48]⟩ : ByteArray), (⟨#[105]⟩ : ByteArray), (⟨#[49]⟩ : ByteArray)] : List ByteArray)) 0) else (none)) else (none)) = some r := by rw [if_neg (show ¬ (false = true) by decide)] at H; exact H
                  clear H
                  have H := H1
                  clear H1
                  by_cases c40 : 0 ≤ t348
                  · rw [if_pos c40] at H
                    have c40b0 := eq_true c40
                    have c40b1 : decide (0 ≤ t348) = true := decide_eq_true c40
                    clear c40
                    by_cases c41 : t348 ≤ (xq.size : Int)
                    · rw [if_pos c41] at H
                      have c41b0 := eq_true c41
                      have c41b1 : decide (t348 ≤ (xq.size : Int)) = true := decide_eq_true c41
                      clear c41
                      obtain ⟨y355, hy355⟩ : ∃ y_ : List ByteArray, y_ = (([(⟨#[]⟩ : ByteArray), (⟨#[48]⟩ : ByteArray), (⟨#[105]⟩ : ByteArray), (⟨#[49]⟩ : ByteArray)] : List ByteArray)) := ⟨_, rfl⟩
                      replace H : (drayagelaw01_QuantWhere.l0 kj13 a1 (xq.extract 0 (t348 : Int).toNat) ((xq.extract 0 (t348 : Int).toNat).toList == ([] : List UInt8)) y355 0) = some r := by first | (rw [hy355]; with_reducible exact H) | (have H2_ := (Option.bind_some _ _).symm.trans H; rw [hy355]; with_reducible exact H2_) | (have H2_ := (Option.bind_some _ _).symm.trans H; with_reducible exact H2_) | with_reducible exact H | (rw [hy355]; exact H) | exact H
                      have Ny355 := Aside0.mk hy355
                      clear hy355
                      have H' := Aside0.mk H
                      clear H
                      go_wp2_with (first | ((with_reducible refine gate_dst (N := 82) rfl ?_); (try (refine gate_guard (by rfl) ?_; dsimp only)); refine Kd.R_lit Kd.string _ 9 ?hg (N := 82) ?hd (xs := ([(⟨#[]⟩ : ByteArray), (⟨#[48]⟩ : ByteArray), (⟨#[105]⟩ : ByteArray), (⟨#[49]⟩ : ByteArray)] : List ByteArray)) (inner := [.string (⟨#[]⟩ : ByteArray), .string (⟨#[48]⟩ : ByteArray), .string (⟨#[105]⟩ : ByteArray), .string (⟨#[49]⟩ : ByteArray)]) (ok := fun _ => True) (okp := fun _ => True) ?hr ?hp (fun _ hk => hk) trivial (Below.refl _ _) (Nat.le_refl _) (by simp) ?_; (case hd => rfl); (case hg => rfl); (case hr => first | (go_simp; done) | (go_simp; rfl)); (case hp => exact (Reps.one (show Kd.M Kd.string _ _ _ (⟨#[]⟩ : ByteArray) [.string (⟨#[]⟩ : ByteArray)] from rfl) (Reps.one (show Kd.M Kd.string _ _ _ (⟨#[48]⟩ : ByteArray) [.string (⟨#[48]⟩ : ByteArray)] from rfl) (Reps.one (show Kd.M Kd.string _ _ _ (⟨#[105]⟩ : ByteArray) [.string (⟨#[105]⟩ : ByteArray)] from rfl) (Reps.one (show Kd.M Kd.string _ _ _ (⟨#[49]⟩ : ByteArray) [.string (⟨#[49]⟩ : ByteArray)] from rfl) (Reps.none _ _)))))); intro v356 w42 ho43 hb hg_ hnew_; clear hg_ hnew_; (first | rw [← Ny355.out] at ho43 | (simp only [Int.reduceToNat] at ho43; rw [← Ny355.out] at ho43)); have n0_ := Aside0.mk (Kd.R_lower ho43 (below_size (by repeat (first | (with_reducible first | exact HB.out | apply below_alloc | apply pw_below_drewN | apply below_drew1) | exact HB.out)))); have n1_ := Aside0.mk (below_step (by repeat (first | (with_reducible first | exact HB.out | apply below_alloc | apply pw_below_drewN | apply below_drew1) | exact HB.out)) hb); clear HB; have HO357 := n0_; have HB := n1_; clear n0_ n1_; clear hb ho43))
                      go_loopg [9, 11] kj13 (fun kq v9 v11 w' => ∃ (x9_3 : Bool) (x11_3 : Int), v9 = .bool x9_3 ∧ v11 = .int .i64 x11_3 ∧ Aside0 (drayagelaw01_QuantWhere.l0 kq a1 (xq.extract 0 (t348 : Int).toNat) x9_3 y355 x11_3 = some r) ∧ Aside0 (kq ≤ kj13) ∧ Aside0 (Kd.R Kd.string 9 w' w.heap.size (fun _ => True) v356 y355) ∧ Aside0 (Below w.heap.size w w'))
                      case atStart => exact ⟨(((xq.extract 0 (t348 : Int).toNat).toList == ([] : List UInt8))), (0), (by first | rfl | (simp; done) | (simp only [← hji3] <;> (first | rfl | simp)) | (simp [*]; done)), (by first | rfl | (simp; done) | (simp [*]; done)), H', ⟨Nat.le_refl _⟩, ⟨by (with_reducible repeat (first | apply Kd.R_alloc | apply Kd.R_drewN | apply Kd.R_drew)); exact HO357.out⟩, ⟨by repeat (first | (with_reducible first | exact HB.out | apply below_alloc | apply pw_below_drewN | apply below_drew1) | exact HB.out)⟩⟩
                      case round =>
                        clear H'
                        try clear c1
                        try clear c2
                        try clear p2
                        try clear q2
                        try clear hx2
                        try clear c3
                        try clear p3
                        try clear q3
                        try clear hx3
                        try clear c4
                        try clear c4b0
                        try clear c4b1
                        try clear c5
                        try clear c5b0
                        try clear c5b1
                        try clear c9
                        try clear c9b0
                        try clear c9b1
                        try clear c10
                        try clear c11
                        try clear c11b0
                        try clear c11b1
                        try clear c15
                        try clear c15b0
                        try clear c16
                        try clear c16b0
                        try clear c17
                        try clear c17b0
                        try clear c17b1
                        try clear c18
                        try clear c18b0
                        try clear c18b1
                        try clear c19
                        try clear c19b0
                        try clear c20
                        try clear c20b0
                        try clear c21
                        try clear c21b0
                        try clear p22
                        try clear q22
                        try clear hx22
                        try clear c24
                        try clear c29
                        try clear c29b0
                        try clear c30
                        try clear c30b0
                        try clear c31
                        try clear c31b0
                        try clear p32
                        try clear q32
                        try clear hx32
                        try clear c34
                        try clear c39
                        try clear c40
                        try clear c40b0
                        try clear c40b1
                        try clear c41
                        try clear c41b0
                        try clear c41b1
                        try clear p2
                        try clear p22
                        try clear p3
                        try clear p32
                        try clear q2
                        try clear q22
                        try clear q3
                        try clear q32
                        obtain ⟨x9_3, x11_3, rfl, rfl, HA, HK3, HO_10, HB⟩ := hrel
                        cases gk with
                        | zero => exact absurd HA.out (by simp [drayagelaw01_QuantWhere.l0])
                        | succ k3 =>
                          have H := HA.out
                          clear HA
                          simp only [drayagelaw01_QuantWhere.l0] at H
                          by_cases c44 : x11_3 < (y355.length : Int)
                          · rw [if_pos c44] at H
                            have c44b0 : decide (x11_3 < (y355.length : Int)) = true := decide_eq_true c44
                            clear c44
                            by_cases c45 : 0 ≤ x11_3
                            · rw [if_pos c45] at H
                              have c45b0 : decide (0 ≤ x11_3) = true := decide_eq_true c45
                              clear c45
                              by_cases c46 : (xq.extract 0 (t348 : Int).toNat).size + (rdOf ByteArray.empty y355 x11_3).size ≤ 9223372036854775807
                              · rw [if_pos c46] at H
                                have c46b0 := eq_true c46
                                have c46b1 : decide ((xq.extract 0 (t348 : Int).toNat).size + (rdOf ByteArray.empty y355 x11_3).size ≤ 9223372036854775807) = true := decide_eq_true c46
                                try have c46b2 : (9223372036854775807 < (xq.extract 0 (t348 : Int).toNat).size + (rdOf ByteArray.empty y355 x11_3).size) = False := eq_false (Nat.not_lt.2 c46)
                                replace H := Option.bind_eq_some_iff.mp H
                                obtain ⟨⟨t359, t360, t361⟩, A470, H⟩ := H
                                replace H : (if x9_3 = true then (drayagelaw01_QuantWhere.l0 k3 a1 (xq.extract 0 (t348 : Int).toNat) true y355 (wrap64 (x11_3 + 1))) else (if t361 = 0 then (drayagelaw01_QuantWhere.l0 k3 a1 (xq.extract 0 (t348 : Int).toNat) true y355 (wrap64 (x11_3 + 1))) else (if t361 = 10 then (drayagelaw01_QuantWhere.l0 k3 a1 (xq.extract 0 (t348 : Int).toNat) true y355 (wrap64 (x11_3 + 1))) else (if t361 = 4 then (drayagelaw01_QuantWhere.l0 k3 a1 (xq.extract 0 (t348 : Int).toNat) (t360 == 0) y355 (wrap64 (x11_3 + 1))) else (drayagelaw01_QuantWhere.l0 k3 a1 (xq.extract 0 (t348 : Int).toNat) false y355 (wrap64 (x11_3 + 1))))))) = some r := H
                                have A47 := Aside0.mk A470
                                clear A470
                                by_cases c48 : x9_3 = true
                                · subst c48
                                  have H1 : (drayagelaw01_QuantWhere.l0 k3 a1 (xq.extract 0 (t348 : Int).toNat) true y355 (wrap64 (x11_3 + 1))) = some r := by rw [if_pos rfl] at H; exact H
                                  clear H
                                  have H := H1
                                  clear H1
                                  have H' := Aside0.mk H
                                  clear H
                                  obtain ⟨Ao49, co49, eo49⟩ := Kd.R_slice HO_10.out
                                  subst eo49
                                  have p358 : 0 ≤ (x11_3 : Int) := of_decide_eq_true (by first | (with_reducible assumption) | assumption)
                                  have q358 : x11_3 < (y355.length : Int) := of_decide_eq_true (by first | (with_reducible assumption) | assumption)
                                  obtain ⟨ad358, e358, hx358_0⟩ := Kd.at_string (Kd.R_reads' HO_10.out).2.2 x11_3 p358 q358
                                  cases e358
                                  replace p358 := eq_true p358
                                  replace q358 := eq_true q358
                                  go_wp2_with (first | ((with_reducible refine gate_callee (f := 11) rfl ?_); refine goesL_ (some 97) rfl rfl Tryd.func11 (by kernel_rfl) rfl #[.string ((xq.extract 0 (t348 : Int).toNat) ++ (rdOf ByteArray.empty y355 x11_3)), .bool a1] rfl (by (try simp only [List.map_toArray, List.map_cons, List.map_nil]); first | done | (simp only [hji3]; rfl) | rfl | (simp only [List.length_drop, List.length_take]; rfl)) ?_; (with_reducible refine (quant_Parse.calls ((xq.extract 0 (t348 : Int).toNat) ++ (rdOf ByteArray.empty y355 x11_3)) a1 t359 t360 t361 _ A47.out).mono ?_); rintro e w50 ⟨rfl, hb⟩; refine ⟨_, rfl, ?_⟩; have n0_ := Aside0.mk (Kd.R_below (by (with_reducible repeat (first | apply Kd.R_alloc | apply Kd.R_drewN | apply Kd.R_drew)); exact HO_10.out) hb); have n1_ := Aside0.mk (below_step (by repeat (first | (with_reducible first | exact HB.out | apply below_alloc | apply pw_below_drewN | apply below_drew1) | exact HB.out)) hb); clear HO_10; clear HB; have HO_10 := n0_; have HB := n1_; clear n0_ n1_; (try clear hb); (try clear hb2); (try clear hk); (try clear hi)))
                                  go_roundg k3
                                  case measure => have := HJ6.out; have := HJ13.out; have := HK3.out; omega
                                  case rel => exact ⟨(true), (wrap64 (x11_3 + 1)), (by first | rfl | (simp; done) | (simp [*]; done)), (by first | rfl | (simp; done) | (simp [*]; done)), H', ⟨by have := HJ6.out; have := HJ13.out; have := HK3.out; omega⟩, ⟨by (with_reducible repeat (first | apply Kd.R_alloc | apply Kd.R_drewN | apply Kd.R_drew)); exact HO_10.out⟩, ⟨by repeat (first | (with_reducible first | exact HB.out | apply below_alloc | apply pw_below_drewN | apply below_drew1) | exact HB.out)⟩⟩
                                · replace c48 := Bool.eq_false_iff.mpr c48
                                  subst c48
                                  have H1 : (if t361 = 0 then (drayagelaw01_QuantWhere.l0 k3 a1 (xq.extract 0 (t348 : Int).toNat) true y355 (wrap64 (x11_3 + 1))) else (if t361 = 10 then (drayagelaw01_QuantWhere.l0 k3 a1 (xq.extract 0 (t348 : Int).toNat) true y355 (wrap64 (x11_3 + 1))) else (if t361 = 4 then (drayagelaw01_QuantWhere.l0 k3 a1 (xq.extract 0 (t348 : Int).toNat) (t360 == 0) y355 (wrap64 (x11_3 + 1))) else (drayagelaw01_QuantWhere.l0 k3 a1 (xq.extract 0 (t348 : Int).toNat) false y355 (wrap64 (x11_3 + 1)))))) = some r := by rw [if_neg (show ¬ (false = true) by decide)] at H; exact H
                                  clear H
                                  have H := H1
                                  clear H1
                                  by_cases c51 : t361 = 0
                                  · rw [if_pos c51] at H
                                    have c51b0 : (t361 == 0) = true := beq_iff_eq.mpr c51
                                    have c51b1 : (t361 != 0) = false := bne_eq_false_iff_eq.mpr c51
                                    clear c51
                                    have H' := Aside0.mk H
                                    clear H
                                    obtain ⟨Ao52, co52, eo52⟩ := Kd.R_slice HO_10.out
                                    subst eo52
                                    have p358 : 0 ≤ (x11_3 : Int) := of_decide_eq_true (by first | (with_reducible assumption) | assumption)
                                    have q358 : x11_3 < (y355.length : Int) := of_decide_eq_true (by first | (with_reducible assumption) | assumption)
                                    obtain ⟨ad358, e358, hx358_0⟩ := Kd.at_string (Kd.R_reads' HO_10.out).2.2 x11_3 p358 q358
                                    cases e358
                                    replace p358 := eq_true p358
                                    replace q358 := eq_true q358
                                    go_wp2_with (first | ((with_reducible refine gate_callee (f := 11) rfl ?_); refine goesL_ (some 97) rfl rfl Tryd.func11 (by kernel_rfl) rfl #[.string ((xq.extract 0 (t348 : Int).toNat) ++ (rdOf ByteArray.empty y355 x11_3)), .bool a1] rfl (by (try simp only [List.map_toArray, List.map_cons, List.map_nil]); first | done | (simp only [hji3]; rfl) | rfl | (simp only [List.length_drop, List.length_take]; rfl)) ?_; (with_reducible refine (quant_Parse.calls ((xq.extract 0 (t348 : Int).toNat) ++ (rdOf ByteArray.empty y355 x11_3)) a1 t359 t360 t361 _ A47.out).mono ?_); rintro e w53 ⟨rfl, hb⟩; refine ⟨_, rfl, ?_⟩; have n0_ := Aside0.mk (Kd.R_below (by (with_reducible repeat (first | apply Kd.R_alloc | apply Kd.R_drewN | apply Kd.R_drew)); exact HO_10.out) hb); have n1_ := Aside0.mk (below_step (by repeat (first | (with_reducible first | exact HB.out | apply below_alloc | apply pw_below_drewN | apply below_drew1) | exact HB.out)) hb); clear HO_10; clear HB; have HO_10 := n0_; have HB := n1_; clear n0_ n1_; (try clear hb); (try clear hb2); (try clear hk); (try clear hi)))
                                    go_roundg k3
                                    case measure => have := HJ6.out; have := HJ13.out; have := HK3.out; omega
                                    case rel => exact ⟨(true), (wrap64 (x11_3 + 1)), (by first | rfl | (simp; done) | (simp [*]; done)), (by first | rfl | (simp; done) | (simp [*]; done)), H', ⟨by have := HJ6.out; have := HJ13.out; have := HK3.out; omega⟩, ⟨by (with_reducible repeat (first | apply Kd.R_alloc | apply Kd.R_drewN | apply Kd.R_drew)); exact HO_10.out⟩, ⟨by repeat (first | (with_reducible first | exact HB.out | apply below_alloc | apply pw_below_drewN | apply below_drew1) | exact HB.out)⟩⟩
                                  · rw [if_neg c51] at H
                                    have c51b0 : (t361 == 0) = false := beq_eq_false_iff_ne.mpr c51
                                    have c51b1 : (t361 != 0) = true := bne_iff_ne.mpr c51
                                    by_cases c54 : t361 = 10
                                    · rw [if_pos c54] at H
                                      have c54b0 : (t361 == 10) = true := beq_iff_eq.mpr c54
                                      have c54b1 : (t361 != 10) = false := bne_eq_false_iff_eq.mpr c54
                                      clear c54
                                      have H' := Aside0.mk H
                                      clear H
                                      obtain ⟨Ao55, co55, eo55⟩ := Kd.R_slice HO_10.out
                                      subst eo55
                                      have p358 : 0 ≤ (x11_3 : Int) := of_decide_eq_true (by first | (with_reducible assumption) | assumption)
                                      have q358 : x11_3 < (y355.length : Int) := of_decide_eq_true (by first | (with_reducible assumption) | assumption)
                                      obtain ⟨ad358, e358, hx358_0⟩ := Kd.at_string (Kd.R_reads' HO_10.out).2.2 x11_3 p358 q358
                                      cases e358
                                      replace p358 := eq_true p358
                                      replace q358 := eq_true q358
                                      go_wp2_with (first | ((with_reducible refine gate_callee (f := 11) rfl ?_); refine goesL_ (some 97) rfl rfl Tryd.func11 (by kernel_rfl) rfl #[.string ((xq.extract 0 (t348 : Int).toNat) ++ (rdOf ByteArray.empty y355 x11_3)), .bool a1] rfl (by (try simp only [List.map_toArray, List.map_cons, List.map_nil]); first | done | (simp only [hji3]; rfl) | rfl | (simp only [List.length_drop, List.length_take]; rfl)) ?_; (with_reducible refine (quant_Parse.calls ((xq.extract 0 (t348 : Int).toNat) ++ (rdOf ByteArray.empty y355 x11_3)) a1 t359 t360 t361 _ A47.out).mono ?_); rintro e w56 ⟨rfl, hb⟩; refine ⟨_, rfl, ?_⟩; have n0_ := Aside0.mk (Kd.R_below (by (with_reducible repeat (first | apply Kd.R_alloc | apply Kd.R_drewN | apply Kd.R_drew)); exact HO_10.out) hb); have n1_ := Aside0.mk (below_step (by repeat (first | (with_reducible first | exact HB.out | apply below_alloc | apply pw_below_drewN | apply below_drew1) | exact HB.out)) hb); clear HO_10; clear HB; have HO_10 := n0_; have HB := n1_; clear n0_ n1_; (try clear hb); (try clear hb2); (try clear hk); (try clear hi)))
                                      go_roundg k3
                                      case measure => have := HJ6.out; have := HJ13.out; have := HK3.out; omega
                                      case rel => exact ⟨(true), (wrap64 (x11_3 + 1)), (by first | rfl | (simp; done) | (simp [*]; done)), (by first | rfl | (simp; done) | (simp [*]; done)), H', ⟨by have := HJ6.out; have := HJ13.out; have := HK3.out; omega⟩, ⟨by (with_reducible repeat (first | apply Kd.R_alloc | apply Kd.R_drewN | apply Kd.R_drew)); exact HO_10.out⟩, ⟨by repeat (first | (with_reducible first | exact HB.out | apply below_alloc | apply pw_below_drewN | apply below_drew1) | exact HB.out)⟩⟩
                                    · rw [if_neg c54] at H
                                      have c54b0 : (t361 == 10) = false := beq_eq_false_iff_ne.mpr c54
                                      have c54b1 : (t361 != 10) = true := bne_iff_ne.mpr c54
                                      by_cases c57 : t361 = 4
                                      · rw [if_pos c57] at H
                                        have c57b0 : (t361 == 4) = true := beq_iff_eq.mpr c57
                                        have c57b1 : (t361 != 4) = false := bne_eq_false_iff_eq.mpr c57
                                        clear c57
                                        have H' := Aside0.mk H
                                        clear H
                                        obtain ⟨Ao58, co58, eo58⟩ := Kd.R_slice HO_10.out
                                        subst eo58
                                        have p358 : 0 ≤ (x11_3 : Int) := of_decide_eq_true (by first | (with_reducible assumption) | assumption)
                                        have q358 : x11_3 < (y355.length : Int) := of_decide_eq_true (by first | (with_reducible assumption) | assumption)
                                        obtain ⟨ad358, e358, hx358_0⟩ := Kd.at_string (Kd.R_reads' HO_10.out).2.2 x11_3 p358 q358
                                        cases e358
                                        replace p358 := eq_true p358
                                        replace q358 := eq_true q358
                                        go_wp2_with (first | ((with_reducible refine gate_callee (f := 11) rfl ?_); refine goesL_ (some 97) rfl rfl Tryd.func11 (by kernel_rfl) rfl #[.string ((xq.extract 0 (t348 : Int).toNat) ++ (rdOf ByteArray.empty y355 x11_3)), .bool a1] rfl (by (try simp only [List.map_toArray, List.map_cons, List.map_nil]); first | done | (simp only [hji3]; rfl) | rfl | (simp only [List.length_drop, List.length_take]; rfl)) ?_; (with_reducible refine (quant_Parse.calls ((xq.extract 0 (t348 : Int).toNat) ++ (rdOf ByteArray.empty y355 x11_3)) a1 t359 t360 t361 _ A47.out).mono ?_); rintro e w59 ⟨rfl, hb⟩; refine ⟨_, rfl, ?_⟩; have n0_ := Aside0.mk (Kd.R_below (by (with_reducible repeat (first | apply Kd.R_alloc | apply Kd.R_drewN | apply Kd.R_drew)); exact HO_10.out) hb); have n1_ := Aside0.mk (below_step (by repeat (first | (with_reducible first | exact HB.out | apply below_alloc | apply pw_below_drewN | apply below_drew1) | exact HB.out)) hb); clear HO_10; clear HB; have HO_10 := n0_; have HB := n1_; clear n0_ n1_; (try clear hb); (try clear hb2); (try clear hk); (try clear hi)))
                                        go_roundg k3
                                        case measure => have := HJ6.out; have := HJ13.out; have := HK3.out; omega
                                        case rel => exact ⟨((t360 == 0)), (wrap64 (x11_3 + 1)), (by first | rfl | (simp; done) | (simp [*]; done)), (by first | rfl | (simp; done) | (simp [*]; done)), H', ⟨by have := HJ6.out; have := HJ13.out; have := HK3.out; omega⟩, ⟨by (with_reducible repeat (first | apply Kd.R_alloc | apply Kd.R_drewN | apply Kd.R_drew)); exact HO_10.out⟩, ⟨by repeat (first | (with_reducible first | exact HB.out | apply below_alloc | apply pw_below_drewN | apply below_drew1) | exact HB.out)⟩⟩
                                      · rw [if_neg c57] at H
                                        have c57b0 : (t361 == 4) = false := beq_eq_false_iff_ne.mpr c57
                                        have c57b1 : (t361 != 4) = true := bne_iff_ne.mpr c57
                                        have H' := Aside0.mk H
                                        clear H
                                        obtain ⟨Ao60, co60, eo60⟩ := Kd.R_slice HO_10.out
                                        subst eo60
                                        have p358 : 0 ≤ (x11_3 : Int) := of_decide_eq_true (by first | (with_reducible assumption) | assumption)
                                        have q358 : x11_3 < (y355.length : Int) := of_decide_eq_true (by first | (with_reducible assumption) | assumption)
                                        obtain ⟨ad358, e358, hx358_0⟩ := Kd.at_string (Kd.R_reads' HO_10.out).2.2 x11_3 p358 q358
                                        cases e358
                                        replace p358 := eq_true p358
                                        replace q358 := eq_true q358
                                        go_wp2_with (first | ((with_reducible refine gate_callee (f := 11) rfl ?_); refine goesL_ (some 97) rfl rfl Tryd.func11 (by kernel_rfl) rfl #[.string ((xq.extract 0 (t348 : Int).toNat) ++ (rdOf ByteArray.empty y355 x11_3)), .bool a1] rfl (by (try simp only [List.map_toArray, List.map_cons, List.map_nil]); first | done | (simp only [hji3]; rfl) | rfl | (simp only [List.length_drop, List.length_take]; rfl)) ?_; (with_reducible refine (quant_Parse.calls ((xq.extract 0 (t348 : Int).toNat) ++ (rdOf ByteArray.empty y355 x11_3)) a1 t359 t360 t361 _ A47.out).mono ?_); rintro e w61 ⟨rfl, hb⟩; refine ⟨_, rfl, ?_⟩; have n0_ := Aside0.mk (Kd.R_below (by (with_reducible repeat (first | apply Kd.R_alloc | apply Kd.R_drewN | apply Kd.R_drew)); exact HO_10.out) hb); have n1_ := Aside0.mk (below_step (by repeat (first | (with_reducible first | exact HB.out | apply below_alloc | apply pw_below_drewN | apply below_drew1) | exact HB.out)) hb); clear HO_10; clear HB; have HO_10 := n0_; have HB := n1_; clear n0_ n1_; (try clear hb); (try clear hb2); (try clear hk); (try clear hi)))
                                        go_roundg k3
                                        case measure => have := HJ6.out; have := HJ13.out; have := HK3.out; omega
                                        case rel => exact ⟨(false), (wrap64 (x11_3 + 1)), (by first | rfl | (simp; done) | (simp [*]; done)), (by first | rfl | (simp; done) | (simp [*]; done)), H', ⟨by have := HJ6.out; have := HJ13.out; have := HK3.out; omega⟩, ⟨by (with_reducible repeat (first | apply Kd.R_alloc | apply Kd.R_drewN | apply Kd.R_drew)); exact HO_10.out⟩, ⟨by repeat (first | (with_reducible first | exact HB.out | apply below_alloc | apply pw_below_drewN | apply below_drew1) | exact HB.out)⟩⟩
                              · rw [if_neg c46] at H
                                exact absurd H (by simp)
                            · rw [if_neg c45] at H
                              exact absurd H (by simp)
                          · rw [if_neg c44] at H
                            have c44b0 : decide (x11_3 < (y355.length : Int)) = false := decide_eq_false c44
                            clear c44
                            by_cases c62 : x9_3 = true
                            · subst c62
                              have H1 : ((drayagelaw01_works.f k3).bind fun t362 => (some t362)) = some r := by rw [if_pos rfl] at H; exact H
                              clear H
                              have H := H1
                              clear H1
                              replace H := Option.bind_eq_some_iff.mp H
                              obtain ⟨t362, A630, H⟩ := H
                              replace H : (some t362) = some r := H
                              have A63 := Aside0.mk A630
                              clear A630
                              obtain rfl := Option.some.inj H
                              obtain ⟨Ao64, co64, eo64⟩ := Kd.R_slice HO_10.out
                              subst eo64
                              go_wp2_with (first | (go_at_call 15; (with_reducible refine (drayagelaw01_works.calls k3  t362 _ A63.out ?sideT_).mono ?_); (case sideT_ => first | exact hT_.out | exact hT_.out.1 | exact hT_.out.up (by repeat (first | (with_reducible first | exact HB.out | apply below_alloc | apply pw_below_drewN | apply below_drew1) | exact HB.out)) | exact (hT_.out.up (by repeat (first | (with_reducible first | exact HB.out | apply below_alloc | apply pw_below_drewN | apply below_drew1) | exact HB.out))).1); rintro e w65 ⟨rfl, hb⟩; have n0_ := Aside0.mk (Kd.R_below (by (with_reducible repeat (first | apply Kd.R_alloc | apply Kd.R_drewN | apply Kd.R_drew)); exact HO_10.out) hb); have n1_ := Aside0.mk (below_step (by repeat (first | (with_reducible first | exact HB.out | apply below_alloc | apply pw_below_drewN | apply below_drew1) | exact HB.out)) hb); clear HO_10; clear HB; have HO_10 := n0_; have HB := n1_; clear n0_ n1_; (try clear hb); (try clear hb2); (try clear hk); (try clear hi)))
                              go_ret
                              exact ⟨by first | rfl | (simp [errW_none, errW_some] <;> rfl) | (simp only [← hji3]; first | rfl | (simp [errW_none, errW_some] <;> rfl)) | (simp [*, errW_none, errW_some] <;> rfl), by repeat (first | (with_reducible first | exact HB.out | apply below_alloc | apply pw_below_drewN | apply below_drew1) | exact HB.out)⟩
                            · replace c62 := Bool.eq_false_iff.mpr c62
                              subst c62
                              have H1 : (some false) = some r := by rw [if_neg (show ¬ (false = true) by decide)] at H; exact H
                              clear H
                              have H := H1
                              clear H1
                              obtain rfl := Option.some.inj H
                              obtain ⟨Ao66, co66, eo66⟩ := Kd.R_slice HO_10.out
                              subst eo66
                              go_wp2
                              go_ret
                              exact ⟨by first | rfl | (simp [errW_none, errW_some] <;> rfl) | (simp only [← hji3]; first | rfl | (simp [errW_none, errW_some] <;> rfl)) | (simp [*, errW_none, errW_some] <;> rfl), by repeat (first | (with_reducible first | exact HB.out | apply below_alloc | apply pw_below_drewN | apply below_drew1) | exact HB.out)⟩
                    · rw [if_neg c41] at H
                      exact absurd H (by simp)
                  · rw [if_neg c40] at H
                    exact absurd H (by simp)
    · rw [if_neg c5] at H
      exact absurd H (by simp)
  · rw [if_neg c4] at H
    exact absurd H (by simp)

/-- THE ONE PURE STATEMENT of drayagelaw01_QuantWhere: yours. -/
def drayagelaw01_QuantWhere.Pure : Prop := ∀ (a0 : ByteArray) (a1 : Bool), a0.size ≤ 140737488351232 → ∃ k, drayagelaw01_QuantWhere.f k a0 a1 = some true
theorem drayagelaw01_QuantWhere.walk (P : drayagelaw01_QuantWhere.Pure) (a0 : ByteArray) (a1 : Bool) (w : World) (w0 : a0.size ≤ 140737488351232) (hT0 : Tw w) :
    Calls Tryd.prog 10 #[.string a0, .bool a1] w fun e w' => e = .returned (.bool true) ∧ Below w.heap.size w w' := by
  obtain ⟨k, h⟩ := P a0 a1 w0
  refine (drayagelaw01_QuantWhere.calls k a0 a1 true w h hT0).mono ?_
  rintro e w' ⟨rfl, hd⟩
  exact ⟨rfl, hd⟩

end Go.Proofs.YtkpoipjgbdcdjaaDoor.P
