-- PRINTED by print.py (a twelfth state) out of the translation. Not trusted: Lean checks it.
import Derived.Test.YtcpalnmodbbklaaDoorP0
import Derived.Test.YtcpalnmodbbklaaDoorHdec
import Derived.Test.YtcpalnmodbbklaaDoorHquote
import Derived.Test.YtcpalnmodbbklaaDoorHwords
import Derived.Test.YtcpalnmodbbklaaDoorPf10
import Derived.Test.YtcpalnmodbbklaaDoorPq36
namespace Go.Proofs.YtcpalnmodbbklaaDoor.P
open Go.RowKit Go.Proofs.YtcpalnmodbbklaaDoorW.PrintWords Go.Proofs.YtcpalnmodbbklaaDoorW.PrintLast Go.Proofs.YtcpalnmodbbklaaDoorW.PrintMore
attribute [local go_sem] max2_int min2_int max_two min_two max_three min_three max_four min_four   -- for this text's walks alone
set_option linter.unusedVariables false
set_option linter.unusedSimpArgs false

attribute [local go_sem high] eqA36
/-! ### drayagelaw04_ScanBack: function 6 -/
def drayagelaw04_ScanBack.l0 : Nat → ByteArray → ByteArray → Int → Bool → Int → Option (Bool)
  | 0, _, _, _, _, _ => none
  | k + 1, x0, x3, x4, x5, x6 => if x6 < (x0.size : Int) then (if x5 = true then (drayagelaw04_ScanBack.l0 k x0 x3 x4 true (wrap64 (x6 + 1))) else (if 0 ≤ x6 then (if (bt x0 x6) < 32 then (drayagelaw04_ScanBack.l0 k x0 x3 x4 ((bt x0 x6) != 10) (wrap64 (x6 + 1))) else (drayagelaw04_ScanBack.l0 k x0 x3 x4 false (wrap64 (x6 + 1)))) else (none))) else (if x5 = true then (if x3.toList = ([] : List UInt8) then (if x4 = 4 then ((drayagelaw04_works.f k).bind fun t243 => (some t243)) else (some false)) else (some false)) else (if 1 + x3.size ≤ 9223372036854775807 then (if ((⟨#[32]⟩ : ByteArray) ++ x3).size + 1 ≤ 9223372036854775807 then ((scan_Words.f (((⟨#[32]⟩ : ByteArray) ++ x3) ++ (⟨#[59]⟩ : ByteArray))).bind fun bt244 => (if x4 = 0 then (if bt244.2.2.2 = 0 then (if (bt244.1.length : Int) = 2 then (if 0 < (bt244.1.length : Int) then (if (((rd_T36 bt244.1 0).f0) == 3 && ((((rd_T36 bt244.1 0).f1).toList) == x0.toList && (((rd_T36 bt244.1 0).f2) == 1 && (((rd_T36 bt244.1 0).f3) == 2)))) = true then (if 1 < (bt244.1.length : Int) then (if ((rd_T36 bt244.1 1).f0) = 4 then ((drayagelaw04_works.f k).bind fun t252 => (some t252)) else (some false)) else (none)) else (some false)) else (none)) else (some false)) else (some false)) else (some false))) else (none)) else (none)))
def drayagelaw04_ScanBack.f (k : Nat) (a0 : ByteArray) : Option (Bool) := if 0 ≤ (mn (a0.size : Int) 400) then (if (mn (a0.size : Int) 400) ≤ (a0.size : Int) then ((scan_Quote.f (a0.extract 0 ((mn (a0.size : Int) 400) : Int).toNat)).bind fun bt240 => ((utf8_ValidString.f (a0.extract 0 ((mn (a0.size : Int) 400) : Int).toNat)).bind fun t242 => (drayagelaw04_ScanBack.l0 k (a0.extract 0 ((mn (a0.size : Int) 400) : Int).toNat) bt240.1 bt240.2 (!t242) 0))) else (none)) else (none)
theorem drayagelaw04_ScanBack.mono_l : ∀ k, (∀ y0 y1 y2 y3 y4, LeO (drayagelaw04_ScanBack.l0 k y0 y1 y2 y3 y4) (drayagelaw04_ScanBack.l0 (k + 1) y0 y1 y2 y3 y4))
  | 0 => fun _ _ _ _ _ r h => by simp [drayagelaw04_ScanBack.l0] at h
  | k + 1 => by
    have ih0 := drayagelaw04_ScanBack.mono_l k
    · intro y0 y1 y2 y3 y4
      unfold drayagelaw04_ScanBack.l0
      repeat' first
      | (with_reducible exact ih0 _ _ _ _ _)
      | (with_reducible exact drayagelaw04_works.mono _)
      | (with_reducible exact LeO.refl _)
      | (with_reducible exact LeO.none _)
      | (with_reducible refine LeO.ite ?_ ?_)
      | (with_reducible refine LeO.bind ?_ (fun _ => ?_))
      | exact ih0 _ _ _ _ _
      | exact drayagelaw04_works.mono _
      | exact LeO.none _
      | refine LeO.ite ?_ ?_
      | refine LeO.bind ?_ (fun _ => ?_)
theorem drayagelaw04_ScanBack.mono : ∀ a0 k, LeO (drayagelaw04_ScanBack.f k a0) (drayagelaw04_ScanBack.f (k + 1) a0) := by
  intro a0 k
  have ih0 := drayagelaw04_ScanBack.mono_l k
  unfold drayagelaw04_ScanBack.f
  repeat' first
      | (with_reducible exact ih0 _ _ _ _ _)
      | (with_reducible exact drayagelaw04_works.mono _)
      | (with_reducible exact LeO.refl _)
      | (with_reducible exact LeO.none _)
      | (with_reducible refine LeO.ite ?_ ?_)
      | (with_reducible refine LeO.bind ?_ (fun _ => ?_))
      | exact ih0 _ _ _ _ _
      | exact drayagelaw04_works.mono _
      | exact LeO.none _
      | refine LeO.ite ?_ ?_
      | refine LeO.bind ?_ (fun _ => ?_)
set_option maxHeartbeats 8000000 in
set_option maxRecDepth 100000 in
theorem drayagelaw04_ScanBack.calls (k : Nat) (a0 : ByteArray) (r : Bool) (w : World) (h : drayagelaw04_ScanBack.f k a0 = some r) (hT0 : Tb w) :
    Calls Tryd.prog 6 #[.string a0] w fun e w' => e = .returned (.bool r) ∧ Below w.heap.size w w' := by
  have hT_ := Aside0.mk hT0
  clear hT0
  have hu36 := Tryd.underlying36
  have HB := Aside0.mk (Below.refl w.heap.size w)
  have H : (if 0 ≤ (mn (a0.size : Int) 400) then (if (mn (a0.size : Int) 400) ≤ (a0.size : Int) then ((scan_Quote.f (a0.extract 0 ((mn (a0.size : Int) 400) : Int).toNat)).bind fun bt240 => ((utf8_ValidString.f (a0.extract 0 ((mn (a0.size : Int) 400) : Int).toNat)).bind fun t242 => (drayagelaw04_ScanBack.l0 k (a0.extract 0 ((mn (a0.size : Int) 400) : Int).toNat) bt240.1 bt240.2 (!t242) 0))) else (none)) else (none)) = some r := h
  clear h
  obtain ⟨ji2, hji2⟩ : ∃ j_ : Int, (mn (a0.size : Int) 400) = j_ := ⟨_, rfl⟩
  replace H : (if 0 ≤ (ji2) then (if (ji2) ≤ (a0.size : Int) then ((scan_Quote.f (a0.extract 0 ((ji2) : Int).toNat)).bind fun bt240 => ((utf8_ValidString.f (a0.extract 0 ((ji2) : Int).toNat)).bind fun t242 => (drayagelaw04_ScanBack.l0 k (a0.extract 0 ((ji2) : Int).toNat) bt240.1 bt240.2 (!t242) 0))) else (none)) else (none)) = some r := by first | (rw [hji2] at H; exact H) | (simp only [hji2] at H ⊢; exact H)
  (try (have hji2h : ji2 ≤ 400 := by (rw [← hji2]; unfold mn; (repeat' split) <;> omega)))
  (try (have hji2g : ji2 ≤ 64 := by omega))
  (try (have hji2l : 0 ≤ ji2 := by (rw [← hji2]; unfold mn; (repeat' split) <;> omega)))
  (try (have hji2m : 0 ≤ ji2 := by omega))
  have hji2_ : (if 400 < (a0.size : Int) then 400 else (a0.size : Int)) = ji2 := hji2
  by_cases c3 : 0 ≤ (ji2)
  · rw [if_pos c3] at H
    have c3b0 := eq_true c3
    have c3b1 : decide (0 ≤ (ji2)) = true := decide_eq_true c3
    clear c3
    by_cases c4 : (ji2) ≤ (a0.size : Int)
    · rw [if_pos c4] at H
      have c4b0 := eq_true c4
      have c4b1 : decide ((ji2) ≤ (a0.size : Int)) = true := decide_eq_true c4
      obtain ⟨xq, hxq⟩ : ∃ x_ : ByteArray, a0.extract 0 ((ji2) : Int).toNat = x_ := ⟨_, rfl⟩
      simp only [hxq] at H
      clear c4
      replace H := Option.bind_eq_some_iff.mp H
      obtain ⟨⟨t240, t241⟩, A50, H⟩ := H
      replace H : ((utf8_ValidString.f xq).bind fun t242 => (drayagelaw04_ScanBack.l0 k xq t240 t241 (!t242) 0)) = some r := H
      have A5 := Aside0.mk A50
      clear A50
      replace H := Option.bind_eq_some_iff.mp H
      obtain ⟨t242, A60, H⟩ := H
      replace H : (drayagelaw04_ScanBack.l0 k xq t240 t241 (!t242) 0) = some r := H
      have A6 := Aside0.mk A60
      clear A60
      have H' := Aside0.mk H
      clear H
      go_enter Tryd.func6, Tryd.ntmps6
      go_wp2_with (first | ((with_reducible refine gate_callee (f := 17) rfl ?_); refine goesL_ (some 18) rfl rfl Tryd.func17 (by kernel_rfl) rfl #[.string xq] rfl (by (try simp only [List.map_toArray, List.map_cons, List.map_nil]); first | done | (simp only [hji2]; rfl) | rfl | (simp only [List.length_drop, List.length_take]; rfl)) ?_; (with_reducible refine (scan_Quote.calls xq t240 t241 _ A5.out).mono ?_); rintro e w7 ⟨rfl, hb⟩; refine ⟨_, rfl, ?_⟩; have n0_ := Aside0.mk (below_step (by repeat (first | (with_reducible first | exact HB.out | apply below_alloc | apply pw_below_drewN | apply below_drew1) | exact HB.out)) hb); clear HB; have HB := n0_; clear n0_; (try clear hb); (try clear hb2); (try clear hk); (try clear hi)) | ((with_reducible refine gate_callee (f := 9) rfl ?_); refine goesL_ (some 22) rfl rfl Tryd.func9 (by kernel_rfl) rfl #[.string xq] rfl (by (try simp only [List.map_toArray, List.map_cons, List.map_nil]); first | done | (simp only [hji2]; rfl) | rfl | (simp only [List.length_drop, List.length_take]; rfl)) ?_; (with_reducible refine (utf8_ValidString.calls xq t242 _ A6.out ?sideT_).mono ?_); (case sideT_ => first | exact hT_.out | exact hT_.out.up (by repeat (first | (with_reducible first | exact HB.out | apply below_alloc | apply pw_below_drewN | apply below_drew1) | exact HB.out))); rintro e w8 ⟨rfl, hb⟩; refine ⟨_, rfl, ?_⟩; have n0_ := Aside0.mk (below_step (by repeat (first | (with_reducible first | exact HB.out | apply below_alloc | apply pw_below_drewN | apply below_drew1) | exact HB.out)) hb); clear HB; have HB := n0_; clear n0_; (try clear hb); (try clear hb2); (try clear hk); (try clear hi)))
      go_loopg [5, 6] k (fun kq v5 v6 w' => ∃ (x5_1 : Bool) (x6_1 : Int), v5 = .bool x5_1 ∧ v6 = .int .i64 x6_1 ∧ Aside0 (drayagelaw04_ScanBack.l0 kq xq t240 t241 x5_1 x6_1 = some r) ∧ Aside0 (kq ≤ k) ∧ Aside0 (Below w.heap.size w w'))
      case atStart => exact ⟨(!t242), (0), (by first | rfl | (simp; done) | (simp [*]; done)), (by first | rfl | (simp; done) | (simp [*]; done)), H', ⟨Nat.le_refl _⟩, ⟨by repeat (first | (with_reducible first | exact HB.out | apply below_alloc | apply pw_below_drewN | apply below_drew1) | exact HB.out)⟩⟩
      case round =>
        clear H'
        try clear c1
        try clear p2
        try clear c3
        try clear c3b0
        try clear c3b1
        try clear c4
        try clear c4b0
        try clear c4b1
        try clear c6
        obtain ⟨x5_1, x6_1, rfl, rfl, HA, HK1, HB⟩ := hrel
        cases gk with
        | zero => exact absurd HA.out (by simp [drayagelaw04_ScanBack.l0])
        | succ k1 =>
          have H := HA.out
          clear HA
          simp only [drayagelaw04_ScanBack.l0] at H
          by_cases c9 : x6_1 < (xq.size : Int)
          · rw [if_pos c9] at H
            have c9b0 : decide (x6_1 < (xq.size : Int)) = true := decide_eq_true c9
            clear c9
            by_cases c10 : x5_1 = true
            · subst c10
              have H1 : (drayagelaw04_ScanBack.l0 k1 xq t240 t241 true (wrap64 (x6_1 + 1))) = some r := by rw [if_pos rfl] at H; exact H
              clear H
              have H := H1
              clear H1
              have H' := Aside0.mk H
              clear H
              go_wp2
              go_roundg k1
              case measure => have := HK1.out; omega
              case rel => exact ⟨(true), (wrap64 (x6_1 + 1)), (by first | rfl | (simp; done) | (simp [*]; done)), (by first | rfl | (simp; done) | (simp [*]; done)), H', ⟨by have := HK1.out; omega⟩, ⟨by repeat (first | (with_reducible first | exact HB.out | apply below_alloc | apply pw_below_drewN | apply below_drew1) | exact HB.out)⟩⟩
            · replace c10 := Bool.eq_false_iff.mpr c10
              subst c10
              have H1 : (if 0 ≤ x6_1 then (if (bt xq x6_1) < 32 then (drayagelaw04_ScanBack.l0 k1 xq t240 t241 ((bt xq x6_1) != 10) (wrap64 (x6_1 + 1))) else (drayagelaw04_ScanBack.l0 k1 xq t240 t241 false (wrap64 (x6_1 + 1)))) else (none)) = some r := by rw [if_neg (show ¬ (false = true) by decide)] at H; exact H
              clear H
              have H := H1
              clear H1
              by_cases c11 : 0 ≤ x6_1
              · rw [if_pos c11] at H
                have c11b0 : decide (0 ≤ x6_1) = true := decide_eq_true c11
                clear c11
                by_cases c13 : (bt xq x6_1) < 32
                · rw [if_pos c13] at H
                  have c13b0 : decide ((bt xq x6_1) < 32) = true := decide_eq_true c13
                  clear c13
                  have H' := Aside0.mk H
                  clear H
                  have p12 : 0 ≤ (x6_1 : Int) := of_decide_eq_true (by first | (with_reducible assumption) | assumption)
                  have q12 : x6_1 < (xq.size : Int) := of_decide_eq_true (by first | (with_reducible assumption) | assumption)
                  have hx12 := bt_at xq x6_1
                  replace p12 := eq_true p12
                  replace q12 := eq_true q12
                  have p14 : 0 ≤ (x6_1 : Int) := of_decide_eq_true (by first | (with_reducible assumption) | assumption)
                  have q14 : x6_1 < (xq.size : Int) := of_decide_eq_true (by first | (with_reducible assumption) | assumption)
                  have hx14 := bt_at xq x6_1
                  replace p14 := eq_true p14
                  replace q14 := eq_true q14
                  go_wp2
                  go_roundg k1
                  case measure => have := HK1.out; omega
                  case rel => exact ⟨(((bt xq x6_1) != 10)), (wrap64 (x6_1 + 1)), (by first | rfl | (simp; done) | (simp only [← hji2] <;> (first | rfl | simp)) | (simp [*]; done)), (by first | rfl | (simp; done) | (simp [*]; done)), H', ⟨by have := HK1.out; omega⟩, ⟨by repeat (first | (with_reducible first | exact HB.out | apply below_alloc | apply pw_below_drewN | apply below_drew1) | exact HB.out)⟩⟩
                · rw [if_neg c13] at H
                  have c13b0 : decide ((bt xq x6_1) < 32) = false := decide_eq_false c13
                  clear c13
                  have H' := Aside0.mk H
                  clear H
                  have p12 : 0 ≤ (x6_1 : Int) := of_decide_eq_true (by first | (with_reducible assumption) | assumption)
                  have q12 : x6_1 < (xq.size : Int) := of_decide_eq_true (by first | (with_reducible assumption) | assumption)
                  have hx12 := bt_at xq x6_1
                  replace p12 := eq_true p12
                  replace q12 := eq_true q12
                  go_wp2
                  go_roundg k1
                  case measure => have := HK1.out; omega
                  case rel => exact ⟨(false), (wrap64 (x6_1 + 1)), (by first | rfl | (simp; done) | (simp [*]; done)), (by first | rfl | (simp; done) | (simp [*]; done)), H', ⟨by have := HK1.out; omega⟩, ⟨by repeat (first | (with_reducible first | exact HB.out | apply below_alloc | apply pw_below_drewN | apply below_drew1) | exact HB.out)⟩⟩
              · rw [if_neg c11] at H
                exact absurd H (by simp)
          · rw [if_neg c9] at H
            have c9b0 : decide (x6_1 < (xq.size : Int)) = false := decide_eq_false c9
            clear c9
            by_cases c15 : x5_1 = true
            · subst c15
              have H1 : (if t240.toList = ([] : List UInt8) then (if t241 = 4 then ((drayagelaw04_works.f k1).bind fun t243 => (some t243)) else (some false)) else (some false)) = some r := by rw [if_pos rfl] at H; exact H
              clear H
              have H := H1
              clear H1
              by_cases c16 : t240.toList = ([] : List UInt8)
              · rw [if_pos c16] at H
                have c16b0 : (t240.toList == ([] : List UInt8)) = true := beq_iff_eq.mpr c16
                have c16b1 : (t240.toList != ([] : List UInt8)) = false := bne_eq_false_iff_eq.mpr c16
                clear c16
                by_cases c17 : t241 = 4
                · rw [if_pos c17] at H
                  have c17b0 : (t241 == 4) = true := beq_iff_eq.mpr c17
                  have c17b1 : (t241 != 4) = false := bne_eq_false_iff_eq.mpr c17
                  clear c17
                  replace H := Option.bind_eq_some_iff.mp H
                  obtain ⟨t243, A180, H⟩ := H
                  replace H : (some t243) = some r := H
                  have A18 := Aside0.mk A180
                  clear A180
                  obtain rfl := Option.some.inj H
                  go_wp2_with (first | (go_at_call 10; (with_reducible refine (drayagelaw04_works.calls k1  t243 _ A18.out).mono ?_); rintro e w19 ⟨rfl, hb⟩; have n0_ := Aside0.mk (below_step (by repeat (first | (with_reducible first | exact HB.out | apply below_alloc | apply pw_below_drewN | apply below_drew1) | exact HB.out)) hb); clear HB; have HB := n0_; clear n0_; (try clear hb); (try clear hb2); (try clear hk); (try clear hi)))
                  go_ret
                  exact ⟨by first | rfl | (simp [errW_none, errW_some] <;> rfl) | (simp only [← hji2]; first | rfl | (simp [errW_none, errW_some] <;> rfl)) | (simp [*, errW_none, errW_some] <;> rfl), by repeat (first | (with_reducible first | exact HB.out | apply below_alloc | apply pw_below_drewN | apply below_drew1) | exact HB.out)⟩
                · rw [if_neg c17] at H
                  have c17b0 : (t241 == 4) = false := beq_eq_false_iff_ne.mpr c17
                  have c17b1 : (t241 != 4) = true := bne_iff_ne.mpr c17
                  obtain rfl := Option.some.inj H
                  go_wp2
                  go_ret
                  exact ⟨by first | rfl | (simp [errW_none, errW_some] <;> rfl) | (simp only [← hji2]; first | rfl | (simp [errW_none, errW_some] <;> rfl)) | (simp [*, errW_none, errW_some] <;> rfl), by repeat (first | (with_reducible first | exact HB.out | apply below_alloc | apply pw_below_drewN | apply below_drew1) | exact HB.out)⟩
              · rw [if_neg c16] at H
                have c16b0 : (t240.toList == ([] : List UInt8)) = false := beq_eq_false_iff_ne.mpr c16
                have c16b1 : (t240.toList != ([] : List UInt8)) = true := bne_iff_ne.mpr c16
                obtain rfl := Option.some.inj H
                go_wp2
                go_ret
                exact ⟨by first | rfl | (simp [errW_none, errW_some] <;> rfl) | (simp only [← hji2]; first | rfl | (simp [errW_none, errW_some] <;> rfl)) | (simp [*, errW_none, errW_some] <;> rfl), by repeat (first | (with_reducible first | exact HB.out | apply below_alloc | apply pw_below_drewN | apply below_drew1) | exact HB.out)⟩
            · replace c15 := Bool.eq_false_iff.mpr c15
              subst c15
              have H1 : (if 1 + t240.size ≤ 9223372036854775807 then (if ((⟨#[32]⟩ : ByteArray) ++ t240).size + 1 ≤ 9223372036854775807 then ((scan_Words.f (((⟨#[32]⟩ : ByteArray) ++ t240) ++ (⟨#[59]⟩ : ByteArray))).bind fun bt244 => (if t241 = 0 then (if bt244.2.2.2 = 0 then (if (bt244.1.length : Int) = 2 then (if 0 < (bt244.1.length : Int) then (if (((rd_T36 bt244.1 0).f0) == 3 && ((((rd_T36 bt244.1 0).f1).toList) == xq.toList && (((rd_T36 bt244.1 0).f2) == 1 && (((rd_T36 bt244.1 0).f3) == 2)))) = true then (if 1 < (bt244.1.length : Int) then (if ((rd_T36 bt244.1 1).f0) = 4 then ((drayagelaw04_works.f k1).bind fun t252 => (some t252)) else (some false)) else (none)) else (some false)) else (none)) else (some false)) else (some false)) else (some false))) else (none)) else (none)) = some r := by rw [if_neg (show ¬ (false = true) by decide)] at H; exact H
              clear H
              have H := H1
              clear H1
              by_cases c20 : 1 + t240.size ≤ 9223372036854775807
              · rw [if_pos c20] at H
                have c20b0 := eq_true c20
                have c20b1 : decide (1 + t240.size ≤ 9223372036854775807) = true := decide_eq_true c20
                try have c20b2 : (9223372036854775807 < 1 + t240.size) = False := eq_false (Nat.not_lt.2 c20)
                by_cases c21 : ((⟨#[32]⟩ : ByteArray) ++ t240).size + 1 ≤ 9223372036854775807
                · rw [if_pos c21] at H
                  have c21b0 := eq_true c21
                  have c21b1 : decide (((⟨#[32]⟩ : ByteArray) ++ t240).size + 1 ≤ 9223372036854775807) = true := decide_eq_true c21
                  try have c21b2 : (9223372036854775807 < ((⟨#[32]⟩ : ByteArray) ++ t240).size + 1) = False := eq_false (Nat.not_lt.2 c21)
                  have c21b3 := c21b2
                  rw [ByteArray.size_append] at c21b3
                  have c21b4 := c21b0
                  rw [ByteArray.size_append] at c21b4
                  have c21b5 := c21b1
                  simp only [ByteArray.size_append] at c21b5
                  have c21b6 : (9223372036854775807 < 1 + t240.size + 1) = False := c21b3
                  replace H := Option.bind_eq_some_iff.mp H
                  obtain ⟨⟨t244, t245, t246, t247⟩, A220, H⟩ := H
                  replace H : (if t241 = 0 then (if t247 = 0 then (if (t244.length : Int) = 2 then (if 0 < (t244.length : Int) then (if (((rd_T36 t244 0).f0) == 3 && ((((rd_T36 t244 0).f1).toList) == xq.toList && (((rd_T36 t244 0).f2) == 1 && (((rd_T36 t244 0).f3) == 2)))) = true then (if 1 < (t244.length : Int) then (if ((rd_T36 t244 1).f0) = 4 then ((drayagelaw04_works.f k1).bind fun t252 => (some t252)) else (some false)) else (none)) else (some false)) else (none)) else (some false)) else (some false)) else (some false)) = some r := H
                  have A22 := Aside0.mk A220
                  clear A220
                  by_cases c23 : t241 = 0
                  · rw [if_pos c23] at H
                    have c23b0 : (t241 == 0) = true := beq_iff_eq.mpr c23
                    have c23b1 : (t241 != 0) = false := bne_eq_false_iff_eq.mpr c23
                    clear c23
                    by_cases c24 : t247 = 0
                    · rw [if_pos c24] at H
                      have c24b0 : (t247 == 0) = true := beq_iff_eq.mpr c24
                      have c24b1 : (t247 != 0) = false := bne_eq_false_iff_eq.mpr c24
                      clear c24
                      by_cases c25 : (t244.length : Int) = 2
                      · rw [if_pos c25] at H
                        have c25b0 : ((t244.length : Int) == 2) = true := beq_iff_eq.mpr c25
                        have c25b1 : ((t244.length : Int) != 2) = false := bne_eq_false_iff_eq.mpr c25
                        clear c25
                        by_cases c26 : 0 < (t244.length : Int)
                        · rw [if_pos c26] at H
                          have c26b0 : decide (0 < (t244.length : Int)) = true := decide_eq_true c26
                          have c26b1 : decide (0 < t244.length) = true := decide_eq_true (by omega)
                          clear c26
                          by_cases c27 : (((rd_T36 t244 0).f0) == 3 && ((((rd_T36 t244 0).f1).toList) == xq.toList && (((rd_T36 t244 0).f2) == 1 && (((rd_T36 t244 0).f3) == 2)))) = true
                          · rw [if_pos c27] at H
                            have c27b0 : (((rd_T36 t244 0).f0) == 3 && ((((rd_T36 t244 0).f1).toList) == xq.toList && (((rd_T36 t244 0).f2) == 1 && (((rd_T36 t244 0).f3) == 2)))) = true := c27
                            (try (have c27b1 : decide (((rd_T36 t244 0).f0) = 3 && ((((rd_T36 t244 0).f1).toList) == xq.toList && (((rd_T36 t244 0).f2) == 1 && (((rd_T36 t244 0).f3) == 2)))) = true := by simpa using c27))
                            (try (have c27b2 : (((rd_T36 t244 0).f0) == 3 && ((((rd_T36 t244 0).f1).toList) == xq.toList && (((rd_T36 t244 0).f2) == 1 && (((rd_T36 t244 0).f3) == 2)))) = true := by simpa using c27))
                            clear c27
                            by_cases c28 : 1 < (t244.length : Int)
                            · rw [if_pos c28] at H
                              have c28b0 : decide (1 < (t244.length : Int)) = true := decide_eq_true c28
                              have c28b1 : decide (1 < t244.length) = true := decide_eq_true (by omega)
                              clear c28
                              by_cases c29 : ((rd_T36 t244 1).f0) = 4
                              · rw [if_pos c29] at H
                                have c29b0 : (((rd_T36 t244 1).f0) == 4) = true := beq_iff_eq.mpr c29
                                have c29b1 : (((rd_T36 t244 1).f0) != 4) = false := bne_eq_false_iff_eq.mpr c29
                                clear c29
                                replace H := Option.bind_eq_some_iff.mp H
                                obtain ⟨t252, A300, H⟩ := H
                                replace H : (some t252) = some r := H
                                have A30 := Aside0.mk A300
                                clear A300
                                obtain rfl := Option.some.inj H
                                go_wp2_with (first | ((with_reducible refine gate_callee (f := 8) rfl ?_); refine goesL_ (some 57) rfl rfl Tryd.func8 (by kernel_rfl) rfl #[.string (((⟨#[32]⟩ : ByteArray) ++ t240) ++ (⟨#[59]⟩ : ByteArray))] rfl (by (try simp only [List.map_toArray, List.map_cons, List.map_nil]); first | done | rfl | (simp only [List.length_drop, List.length_take]; rfl)) ?_; (with_reducible refine (scan_Words.calls (((⟨#[32]⟩ : ByteArray) ++ t240) ++ (⟨#[59]⟩ : ByteArray)) t244 t245 t246 t247 _ A22.out).mono ?_); rintro e w31 ⟨v248, rfl, ho0, hb⟩; refine ⟨_, rfl, ?_⟩; have n0_ := Aside0.mk (Kd.R_lower ho0 (below_size (by repeat (first | (with_reducible first | exact HB.out | apply below_alloc | apply pw_below_drewN | apply below_drew1) | exact HB.out)))); have n1_ := Aside0.mk (below_step (by repeat (first | (with_reducible first | exact HB.out | apply below_alloc | apply pw_below_drewN | apply below_drew1) | exact HB.out)) hb); clear HB; have HO249 := n0_; have HB := n1_; clear n0_ n1_; (try clear hb); (try clear hb2); (try clear hk); (try clear hi); (try clear ho0); obtain ⟨Ao32, co32, eo32⟩ := Kd.R_slice HO249.out; subst eo32; have p250 : 0 ≤ (0 : Int) := (by omega); have q250 : 0 < (t244.length : Int) := of_decide_eq_true (by first | (with_reducible assumption) | assumption); obtain ⟨ad250, e250, hx250_0, hx250_1, hx250_2, hx250_3⟩ := at_T36 (Kd.R_reads' HO249.out).2.2 0 p250 q250; cases e250; have qi250 : (0 < t244.length) = True := eq_true (by omega); (try rw [show ((0 : Int)).toNat = 0 from rfl] at hx250_0); (try rw [show 0 * 4 = 0 from rfl] at hx250_0); (try rw [Addr.add_zero'] at hx250_0); (try rw [show ((0 : Int)).toNat = 0 from rfl] at hx250_1); (try rw [show 0 * 4 = 0 from rfl] at hx250_1); (try rw [Addr.add_zero'] at hx250_1); (try rw [show ((0 : Int)).toNat = 0 from rfl] at hx250_2); (try rw [show 0 * 4 = 0 from rfl] at hx250_2); (try rw [Addr.add_zero'] at hx250_2); (try rw [show ((0 : Int)).toNat = 0 from rfl] at hx250_3); (try rw [show 0 * 4 = 0 from rfl] at hx250_3); (try rw [Addr.add_zero'] at hx250_3); replace p250 := eq_true p250; replace q250 := eq_true q250; have p251 : 0 ≤ (1 : Int) := (by omega); have q251 : 1 < (t244.length : Int) := of_decide_eq_true (by first | (with_reducible assumption) | assumption); obtain ⟨ad251, e251, hx251_0, hx251_1, hx251_2, hx251_3⟩ := at_T36 (Kd.R_reads' HO249.out).2.2 1 p251 q251; obtain rfl : ad250 = ad251 := (by injection e251); (try simp only [show (1 : Int).toNat = 1 from rfl, Nat.reduceMul, Nat.reduceEqDiff, Go.Addr.add, ↓reduceIte] at hx251_0); (try simp only [show (1 : Int).toNat = 1 from rfl, Nat.reduceMul, Nat.reduceEqDiff, Go.Addr.add, ↓reduceIte] at hx251_1); (try simp only [show (1 : Int).toNat = 1 from rfl, Nat.reduceMul, Nat.reduceEqDiff, Go.Addr.add, ↓reduceIte] at hx251_2); (try simp only [show (1 : Int).toNat = 1 from rfl, Nat.reduceMul, Nat.reduceEqDiff, Go.Addr.add, ↓reduceIte] at hx251_3); have qi251 : (1 < t244.length) = True := eq_true (by omega); (try rw [show ((1 : Int)).toNat = 1 from rfl] at hx251_0); (try rw [show 1 * 4 = 4 from rfl] at hx251_0); (try rw [show ((1 : Int)).toNat = 1 from rfl] at hx251_1); (try rw [show 1 * 4 = 4 from rfl] at hx251_1); (try rw [show ((1 : Int)).toNat = 1 from rfl] at hx251_2); (try rw [show 1 * 4 = 4 from rfl] at hx251_2); (try rw [show ((1 : Int)).toNat = 1 from rfl] at hx251_3); (try rw [show 1 * 4 = 4 from rfl] at hx251_3); replace p251 := eq_true p251; replace q251 := eq_true q251) | (go_at_call 10; (with_reducible refine (drayagelaw04_works.calls k1  t252 _ A30.out).mono ?_); rintro e w33 ⟨rfl, hb⟩; have n0_ := Aside0.mk (Kd.R_below (by (with_reducible repeat (first | apply Kd.R_alloc | apply Kd.R_drewN | apply Kd.R_drew)); exact HO249.out) hb); have n1_ := Aside0.mk (below_step (by repeat (first | (with_reducible first | exact HB.out | apply below_alloc | apply pw_below_drewN | apply below_drew1) | exact HB.out)) hb); clear HO249; clear HB; have HO249 := n0_; have HB := n1_; clear n0_ n1_; (try clear hb); (try clear hb2); (try clear hk); (try clear hi)))
                                go_ret
                                exact ⟨by first | rfl | (simp [errW_none, errW_some] <;> rfl) | (simp only [← hji2]; first | rfl | (simp [errW_none, errW_some] <;> rfl)) | (simp [*, errW_none, errW_some] <;> rfl), by repeat (first | (with_reducible first | exact HB.out | apply below_alloc | apply pw_below_drewN | apply below_drew1) | exact HB.out)⟩
                              · rw [if_neg c29] at H
                                have c29b0 : (((rd_T36 t244 1).f0) == 4) = false := beq_eq_false_iff_ne.mpr c29
                                have c29b1 : (((rd_T36 t244 1).f0) != 4) = true := bne_iff_ne.mpr c29
                                obtain rfl := Option.some.inj H
                                go_wp2_with (first | ((with_reducible refine gate_callee (f := 8) rfl ?_); refine goesL_ (some 57) rfl rfl Tryd.func8 (by kernel_rfl) rfl #[.string (((⟨#[32]⟩ : ByteArray) ++ t240) ++ (⟨#[59]⟩ : ByteArray))] rfl (by (try simp only [List.map_toArray, List.map_cons, List.map_nil]); first | done | rfl | (simp only [List.length_drop, List.length_take]; rfl)) ?_; (with_reducible refine (scan_Words.calls (((⟨#[32]⟩ : ByteArray) ++ t240) ++ (⟨#[59]⟩ : ByteArray)) t244 t245 t246 t247 _ A22.out).mono ?_); rintro e w34 ⟨v248, rfl, ho0, hb⟩; refine ⟨_, rfl, ?_⟩; have n0_ := Aside0.mk (Kd.R_lower ho0 (below_size (by repeat (first | (with_reducible first | exact HB.out | apply below_alloc | apply pw_below_drewN | apply below_drew1) | exact HB.out)))); have n1_ := Aside0.mk (below_step (by repeat (first | (with_reducible first | exact HB.out | apply below_alloc | apply pw_below_drewN | apply below_drew1) | exact HB.out)) hb); clear HB; have HO249 := n0_; have HB := n1_; clear n0_ n1_; (try clear hb); (try clear hb2); (try clear hk); (try clear hi); (try clear ho0); obtain ⟨Ao35, co35, eo35⟩ := Kd.R_slice HO249.out; subst eo35; have p250 : 0 ≤ (0 : Int) := (by omega); have q250 : 0 < (t244.length : Int) := of_decide_eq_true (by first | (with_reducible assumption) | assumption); obtain ⟨ad250, e250, hx250_0, hx250_1, hx250_2, hx250_3⟩ := at_T36 (Kd.R_reads' HO249.out).2.2 0 p250 q250; cases e250; have qi250 : (0 < t244.length) = True := eq_true (by omega); (try rw [show ((0 : Int)).toNat = 0 from rfl] at hx250_0); (try rw [show 0 * 4 = 0 from rfl] at hx250_0); (try rw [Addr.add_zero'] at hx250_0); (try rw [show ((0 : Int)).toNat = 0 from rfl] at hx250_1); (try rw [show 0 * 4 = 0 from rfl] at hx250_1); (try rw [Addr.add_zero'] at hx250_1); (try rw [show ((0 : Int)).toNat = 0 from rfl] at hx250_2); (try rw [show 0 * 4 = 0 from rfl] at hx250_2); (try rw [Addr.add_zero'] at hx250_2); (try rw [show ((0 : Int)).toNat = 0 from rfl] at hx250_3); (try rw [show 0 * 4 = 0 from rfl] at hx250_3); (try rw [Addr.add_zero'] at hx250_3); replace p250 := eq_true p250; replace q250 := eq_true q250; have p251 : 0 ≤ (1 : Int) := (by omega); have q251 : 1 < (t244.length : Int) := of_decide_eq_true (by first | (with_reducible assumption) | assumption); obtain ⟨ad251, e251, hx251_0, hx251_1, hx251_2, hx251_3⟩ := at_T36 (Kd.R_reads' HO249.out).2.2 1 p251 q251; obtain rfl : ad250 = ad251 := (by injection e251); (try simp only [show (1 : Int).toNat = 1 from rfl, Nat.reduceMul, Nat.reduceEqDiff, Go.Addr.add, ↓reduceIte] at hx251_0); (try simp only [show (1 : Int).toNat = 1 from rfl, Nat.reduceMul, Nat.reduceEqDiff, Go.Addr.add, ↓reduceIte] at hx251_1); (try simp only [show (1 : Int).toNat = 1 from rfl, Nat.reduceMul, Nat.reduceEqDiff, Go.Addr.add, ↓reduceIte] at hx251_2); (try simp only [show (1 : Int).toNat = 1 from rfl, Nat.reduceMul, Nat.reduceEqDiff, Go.Addr.add, ↓reduceIte] at hx251_3); have qi251 : (1 < t244.length) = True := eq_true (by omega); (try rw [show ((1 : Int)).toNat = 1 from rfl] at hx251_0); (try rw [show 1 * 4 = 4 from rfl] at hx251_0); (try rw [show ((1 : Int)).toNat = 1 from rfl] at hx251_1); (try rw [show 1 * 4 = 4 from rfl] at hx251_1); (try rw [show ((1 : Int)).toNat = 1 from rfl] at hx251_2); (try rw [show 1 * 4 = 4 from rfl] at hx251_2); (try rw [show ((1 : Int)).toNat = 1 from rfl] at hx251_3); (try rw [show 1 * 4 = 4 from rfl] at hx251_3); replace p251 := eq_true p251; replace q251 := eq_true q251))
                                go_ret
                                exact ⟨by first | rfl | (simp [errW_none, errW_some] <;> rfl) | (simp only [← hji2]; first | rfl | (simp [errW_none, errW_some] <;> rfl)) | (simp [*, errW_none, errW_some] <;> rfl), by repeat (first | (with_reducible first | exact HB.out | apply below_alloc | apply pw_below_drewN | apply below_drew1) | exact HB.out)⟩
                            · rw [if_neg c28] at H
                              exact absurd H (by simp)
                          · rw [if_neg c27] at H
                            have c27b0 : (((rd_T36 t244 0).f0) == 3 && ((((rd_T36 t244 0).f1).toList) == xq.toList && (((rd_T36 t244 0).f2) == 1 && (((rd_T36 t244 0).f3) == 2)))) = false := by simpa using c27
                            (try (have c27b1 : decide (((rd_T36 t244 0).f0) = 3 && ((((rd_T36 t244 0).f1).toList) == xq.toList && (((rd_T36 t244 0).f2) == 1 && (((rd_T36 t244 0).f3) == 2)))) = false := by simpa using c27))
                            (try (have c27b2 : (((rd_T36 t244 0).f0) == 3 && ((((rd_T36 t244 0).f1).toList) == xq.toList && (((rd_T36 t244 0).f2) == 1 && (((rd_T36 t244 0).f3) == 2)))) = false := by simpa using c27))
                            (try (have c27b3 : ¬ (((rd_T36 t244 0).f0) = 3 && ((((rd_T36 t244 0).f1).toList) == xq.toList && (((rd_T36 t244 0).f2) == 1 && (((rd_T36 t244 0).f3) == 2)))) := by simpa using c27))
                            clear c27
                            obtain rfl := Option.some.inj H
                            go_wp2_with (first | ((with_reducible refine gate_callee (f := 8) rfl ?_); refine goesL_ (some 57) rfl rfl Tryd.func8 (by kernel_rfl) rfl #[.string (((⟨#[32]⟩ : ByteArray) ++ t240) ++ (⟨#[59]⟩ : ByteArray))] rfl (by (try simp only [List.map_toArray, List.map_cons, List.map_nil]); first | done | rfl | (simp only [List.length_drop, List.length_take]; rfl)) ?_; (with_reducible refine (scan_Words.calls (((⟨#[32]⟩ : ByteArray) ++ t240) ++ (⟨#[59]⟩ : ByteArray)) t244 t245 t246 t247 _ A22.out).mono ?_); rintro e w36 ⟨v248, rfl, ho0, hb⟩; refine ⟨_, rfl, ?_⟩; have n0_ := Aside0.mk (Kd.R_lower ho0 (below_size (by repeat (first | (with_reducible first | exact HB.out | apply below_alloc | apply pw_below_drewN | apply below_drew1) | exact HB.out)))); have n1_ := Aside0.mk (below_step (by repeat (first | (with_reducible first | exact HB.out | apply below_alloc | apply pw_below_drewN | apply below_drew1) | exact HB.out)) hb); clear HB; have HO249 := n0_; have HB := n1_; clear n0_ n1_; (try clear hb); (try clear hb2); (try clear hk); (try clear hi); (try clear ho0); obtain ⟨Ao37, co37, eo37⟩ := Kd.R_slice HO249.out; subst eo37; have p250 : 0 ≤ (0 : Int) := (by omega); have q250 : 0 < (t244.length : Int) := of_decide_eq_true (by first | (with_reducible assumption) | assumption); obtain ⟨ad250, e250, hx250_0, hx250_1, hx250_2, hx250_3⟩ := at_T36 (Kd.R_reads' HO249.out).2.2 0 p250 q250; cases e250; have qi250 : (0 < t244.length) = True := eq_true (by omega); (try rw [show ((0 : Int)).toNat = 0 from rfl] at hx250_0); (try rw [show 0 * 4 = 0 from rfl] at hx250_0); (try rw [Addr.add_zero'] at hx250_0); (try rw [show ((0 : Int)).toNat = 0 from rfl] at hx250_1); (try rw [show 0 * 4 = 0 from rfl] at hx250_1); (try rw [Addr.add_zero'] at hx250_1); (try rw [show ((0 : Int)).toNat = 0 from rfl] at hx250_2); (try rw [show 0 * 4 = 0 from rfl] at hx250_2); (try rw [Addr.add_zero'] at hx250_2); (try rw [show ((0 : Int)).toNat = 0 from rfl] at hx250_3); (try rw [show 0 * 4 = 0 from rfl] at hx250_3); (try rw [Addr.add_zero'] at hx250_3); replace p250 := eq_true p250; replace q250 := eq_true q250))
                            go_ret
                            exact ⟨by first | rfl | (simp [errW_none, errW_some] <;> rfl) | (simp only [← hji2]; first | rfl | (simp [errW_none, errW_some] <;> rfl)) | (simp [*, errW_none, errW_some] <;> rfl), by repeat (first | (with_reducible first | exact HB.out | apply below_alloc | apply pw_below_drewN | apply below_drew1) | exact HB.out)⟩
                        · rw [if_neg c26] at H
                          exact absurd H (by simp)
                      · rw [if_neg c25] at H
                        have c25b0 : ((t244.length : Int) == 2) = false := beq_eq_false_iff_ne.mpr c25
                        have c25b1 : ((t244.length : Int) != 2) = true := bne_iff_ne.mpr c25
                        obtain rfl := Option.some.inj H
                        go_wp2_with (first | ((with_reducible refine gate_callee (f := 8) rfl ?_); refine goesL_ (some 57) rfl rfl Tryd.func8 (by kernel_rfl) rfl #[.string (((⟨#[32]⟩ : ByteArray) ++ t240) ++ (⟨#[59]⟩ : ByteArray))] rfl (by (try simp only [List.map_toArray, List.map_cons, List.map_nil]); first | done | rfl | (simp only [List.length_drop, List.length_take]; rfl)) ?_; (with_reducible refine (scan_Words.calls (((⟨#[32]⟩ : ByteArray) ++ t240) ++ (⟨#[59]⟩ : ByteArray)) t244 t245 t246 t247 _ A22.out).mono ?_); rintro e w38 ⟨v248, rfl, ho0, hb⟩; refine ⟨_, rfl, ?_⟩; have n0_ := Aside0.mk (Kd.R_lower ho0 (below_size (by repeat (first | (with_reducible first | exact HB.out | apply below_alloc | apply pw_below_drewN | apply below_drew1) | exact HB.out)))); have n1_ := Aside0.mk (below_step (by repeat (first | (with_reducible first | exact HB.out | apply below_alloc | apply pw_below_drewN | apply below_drew1) | exact HB.out)) hb); clear HB; have HO249 := n0_; have HB := n1_; clear n0_ n1_; (try clear hb); (try clear hb2); (try clear hk); (try clear hi); (try clear ho0); obtain ⟨Ao39, co39, eo39⟩ := Kd.R_slice HO249.out; subst eo39))
                        go_ret
                        exact ⟨by first | rfl | (simp [errW_none, errW_some] <;> rfl) | (simp only [← hji2]; first | rfl | (simp [errW_none, errW_some] <;> rfl)) | (simp [*, errW_none, errW_some] <;> rfl), by repeat (first | (with_reducible first | exact HB.out | apply below_alloc | apply pw_below_drewN | apply below_drew1) | exact HB.out)⟩
                    · rw [if_neg c24] at H
                      have c24b0 : (t247 == 0) = false := beq_eq_false_iff_ne.mpr c24
                      have c24b1 : (t247 != 0) = true := bne_iff_ne.mpr c24
                      obtain rfl := Option.some.inj H
                      go_wp2_with (first | ((with_reducible refine gate_callee (f := 8) rfl ?_); refine goesL_ (some 57) rfl rfl Tryd.func8 (by kernel_rfl) rfl #[.string (((⟨#[32]⟩ : ByteArray) ++ t240) ++ (⟨#[59]⟩ : ByteArray))] rfl (by (try simp only [List.map_toArray, List.map_cons, List.map_nil]); first | done | rfl | (simp only [List.length_drop, List.length_take]; rfl)) ?_; (with_reducible refine (scan_Words.calls (((⟨#[32]⟩ : ByteArray) ++ t240) ++ (⟨#[59]⟩ : ByteArray)) t244 t245 t246 t247 _ A22.out).mono ?_); rintro e w40 ⟨v248, rfl, ho0, hb⟩; refine ⟨_, rfl, ?_⟩; have n0_ := Aside0.mk (Kd.R_lower ho0 (below_size (by repeat (first | (with_reducible first | exact HB.out | apply below_alloc | apply pw_below_drewN | apply below_drew1) | exact HB.out)))); have n1_ := Aside0.mk (below_step (by repeat (first | (with_reducible first | exact HB.out | apply below_alloc | apply pw_below_drewN | apply below_drew1) | exact HB.out)) hb); clear HB; have HO249 := n0_; have HB := n1_; clear n0_ n1_; (try clear hb); (try clear hb2); (try clear hk); (try clear hi); (try clear ho0)))
                      go_ret
                      exact ⟨by first | rfl | (simp [errW_none, errW_some] <;> rfl) | (simp only [← hji2]; first | rfl | (simp [errW_none, errW_some] <;> rfl)) | (simp [*, errW_none, errW_some] <;> rfl), by repeat (first | (with_reducible first | exact HB.out | apply below_alloc | apply pw_below_drewN | apply below_drew1) | exact HB.out)⟩
                  · rw [if_neg c23] at H
                    have c23b0 : (t241 == 0) = false := beq_eq_false_iff_ne.mpr c23
                    have c23b1 : (t241 != 0) = true := bne_iff_ne.mpr c23
                    obtain rfl := Option.some.inj H
                    go_wp2_with (first | ((with_reducible refine gate_callee (f := 8) rfl ?_); refine goesL_ (some 57) rfl rfl Tryd.func8 (by kernel_rfl) rfl #[.string (((⟨#[32]⟩ : ByteArray) ++ t240) ++ (⟨#[59]⟩ : ByteArray))] rfl (by (try simp only [List.map_toArray, List.map_cons, List.map_nil]); first | done | rfl | (simp only [List.length_drop, List.length_take]; rfl)) ?_; (with_reducible refine (scan_Words.calls (((⟨#[32]⟩ : ByteArray) ++ t240) ++ (⟨#[59]⟩ : ByteArray)) t244 t245 t246 t247 _ A22.out).mono ?_); rintro e w41 ⟨v248, rfl, ho0, hb⟩; refine ⟨_, rfl, ?_⟩; have n0_ := Aside0.mk (Kd.R_lower ho0 (below_size (by repeat (first | (with_reducible first | exact HB.out | apply below_alloc | apply pw_below_drewN | apply below_drew1) | exact HB.out)))); have n1_ := Aside0.mk (below_step (by repeat (first | (with_reducible first | exact HB.out | apply below_alloc | apply pw_below_drewN | apply below_drew1) | exact HB.out)) hb); clear HB; have HO249 := n0_; have HB := n1_; clear n0_ n1_; (try clear hb); (try clear hb2); (try clear hk); (try clear hi); (try clear ho0)))
                    go_ret
                    exact ⟨by first | rfl | (simp [errW_none, errW_some] <;> rfl) | (simp only [← hji2]; first | rfl | (simp [errW_none, errW_some] <;> rfl)) | (simp [*, errW_none, errW_some] <;> rfl), by repeat (first | (with_reducible first | exact HB.out | apply below_alloc | apply pw_below_drewN | apply below_drew1) | exact HB.out)⟩
                · rw [if_neg c21] at H
                  exact absurd H (by simp)
              · rw [if_neg c20] at H
                exact absurd H (by simp)
    · rw [if_neg c4] at H
      exact absurd H (by simp)
  · rw [if_neg c3] at H
    exact absurd H (by simp)

/-- THE ONE PURE STATEMENT of drayagelaw04_ScanBack: yours. -/
def drayagelaw04_ScanBack.Pure : Prop := ∀ (a0 : ByteArray), a0.size ≤ 140737488351232 → ∃ k, drayagelaw04_ScanBack.f k a0 = some true
theorem drayagelaw04_ScanBack.walk (P : drayagelaw04_ScanBack.Pure) (a0 : ByteArray) (w : World) (w0 : a0.size ≤ 140737488351232) (hT0 : Tb w) :
    Calls Tryd.prog 6 #[.string a0] w fun e w' => e = .returned (.bool true) ∧ Below w.heap.size w w' := by
  obtain ⟨k, h⟩ := P a0 w0
  refine (drayagelaw04_ScanBack.calls k a0 true w h hT0).mono ?_
  rintro e w' ⟨rfl, hd⟩
  exact ⟨rfl, hd⟩

end Go.Proofs.YtcpalnmodbbklaaDoor.P
