-- PRINTED by print.py (a twelfth state) out of the translation. Not trusted: Lean checks it.
import Derived.Test.YtkpoipjgbdcdjaaDoorP0
import Derived.Test.YtkpoipjgbdcdjaaDoorPf15
import Derived.Test.YtkpoipjgbdcdjaaDoorPf20
import Derived.Test.YtkpoipjgbdcdjaaDoorPf23
import Derived.Test.YtkpoipjgbdcdjaaDoorPf25
import Derived.Test.YtkpoipjgbdcdjaaDoorPf27
import Derived.Test.YtkpoipjgbdcdjaaDoorPf29
namespace Go.Proofs.YtkpoipjgbdcdjaaDoor.P
open Go.RowKit Go.Proofs.YtkpoipjgbdcdjaaDoorW.PrintWords Go.Proofs.YtkpoipjgbdcdjaaDoorW.PrintLast Go.Proofs.YtkpoipjgbdcdjaaDoorW.PrintMore
attribute [local go_sem] max2_int min2_int max_two min_two max_three min_three max_four min_four   -- for this text's walks alone
set_option linter.unusedVariables false
set_option linter.unusedSimpArgs false

/-! ### drayagelaw01_QuantSums: function 8 -/
mutual
def drayagelaw01_QuantSums.j1 : Nat → Int → Int → Int → Bool → List Int → Option (Bool)
  | 0, _, _, _, _, _ => none
  | k + 1, x1, x2, x7, x8, x9 => (quant_Add.f k x9).bind fun bt307 => (if ((bt307.2 == 0) != x8) = true then (drayagelaw01_QuantSums.j2 k x1 x2 true) else (if x8 = true then (if bt307.1 = x7 then (drayagelaw01_QuantSums.j2 k x1 x2 false) else (drayagelaw01_QuantSums.j2 k x1 x2 true)) else (drayagelaw01_QuantSums.j2 k x1 x2 (bt307.2 != 10))))
def drayagelaw01_QuantSums.j2 : Nat → Int → Int → Bool → Option (Bool)
  | 0, _, _, _ => none
  | k + 1, x1, x2, x78 => if x78 = true then (some false) else ((quant_Sub.f (mx x1 x2) (mn x1 x2)).bind fun bt309 => (if ((bt309.2 == 0) != (decide ((mx x1 x2) ≤ 1099511627776))) = true then (drayagelaw01_QuantSums.j3 k x1 x2 true) else (if bt309.2 = 0 then (drayagelaw01_QuantSums.j3 k x1 x2 ((wrap64 (bt309.1 + (mn x1 x2))) != (mx x1 x2))) else (drayagelaw01_QuantSums.j3 k x1 x2 false))))
def drayagelaw01_QuantSums.j3 : Nat → Int → Int → Bool → Option (Bool)
  | 0, _, _, _ => none
  | k + 1, x1, x2, x110 => if x110 = true then (some false) else ((quant_Mul.f x1 (Int.tmod x2 4096)).bind fun bt311 => (if x1 > 1099511627776 then (drayagelaw01_QuantSums.j4 k x1 x2 bt311.1 bt311.2 true) else (drayagelaw01_QuantSums.j4 k x1 x2 bt311.1 bt311.2 (decide ((wrap64 (x1 * (Int.tmod x2 4096))) > 1099511627776)))))
def drayagelaw01_QuantSums.j4 : Nat → Int → Int → Int → Int → Bool → Option (Bool)
  | 0, _, _, _, _, _ => none
  | k + 1, x1, x2, x16, x17, x18 => if ((x17 == 0) == x18) = true then (drayagelaw01_QuantSums.j5 k x1 x2 true) else (if x17 = 0 then (drayagelaw01_QuantSums.j5 k x1 x2 (x16 != (wrap64 (x1 * (Int.tmod x2 4096))))) else (drayagelaw01_QuantSums.j5 k x1 x2 false))
def drayagelaw01_QuantSums.j5 : Nat → Int → Int → Bool → Option (Bool)
  | 0, _, _, _ => none
  | k + 1, x1, x2, x142 => if x142 = true then (some false) else ((quant_Share.f k (wrap64 (Int.tdiv x1 2)) (wrap64 ((wrap64 (Int.tdiv x2 2)) + 1))).bind fun bt313 => ((quant_Share.f k (wrap64 ((wrap64 (Int.tdiv x1 2)) + 1)) (wrap64 ((wrap64 (Int.tdiv x2 2)) + 1))).bind fun bt315 => (if bt313.2 = 0 then (if bt315.2 = 0 then (if bt313.1 ≤ bt315.1 then ((drayagelaw01_works.f k).bind fun t317 => (some t317)) else (some false)) else (some false)) else (some false))))
def drayagelaw01_QuantSums.l0 : Nat → List Int → Int → Int → Int → Bool → List Int → Int → Option (Bool)
  | 0, _, _, _, _, _, _, _ => none
  | k + 1, x0, x1, x2, x7, x8, x9, x10 => if x10 < (x0.length : Int) then (if x10 < 20 then (if 0 ≤ x10 then ((drayageref00_Bring.f (rd x0 x10) 137438953472).bind fun t303 => (if x9.length < 17592186044416 then ((some (x9 ++ [t303] : List Int)).bind fun y304 => (if x8 = true then (drayagelaw01_QuantSums.l0 k x0 x1 x2 (wrap64 (x7 + t303)) (decide ((wrap64 (x7 + t303)) ≤ 1099511627776)) y304 (wrap64 (x10 + 1))) else (drayagelaw01_QuantSums.l0 k x0 x1 x2 (wrap64 (x7 + t303)) false y304 (wrap64 (x10 + 1))))) else (none))) else (none)) else (drayagelaw01_QuantSums.j1 k x1 x2 x7 x8 x9)) else (drayagelaw01_QuantSums.j1 k x1 x2 x7 x8 x9)
end
def drayagelaw01_QuantSums.f (k : Nat) (l0 : List Int) (a1 : Int) (a2 : Int) : Option (Bool) := (drayageref00_Bring.f a1 1099511627778).bind fun t300 => ((drayageref00_Bring.f a2 1099511627778).bind fun t301 => (drayagelaw01_QuantSums.l0 k l0 t300 t301 0 true ([] : List Int) 0))
theorem drayagelaw01_QuantSums.mono_l : ∀ k, (∀ y0 y1 y2 y3 y4, LeO (drayagelaw01_QuantSums.j1 k y0 y1 y2 y3 y4) (drayagelaw01_QuantSums.j1 (k + 1) y0 y1 y2 y3 y4)) ∧ (∀ y0 y1 y2, LeO (drayagelaw01_QuantSums.j2 k y0 y1 y2) (drayagelaw01_QuantSums.j2 (k + 1) y0 y1 y2)) ∧ (∀ y0 y1 y2, LeO (drayagelaw01_QuantSums.j3 k y0 y1 y2) (drayagelaw01_QuantSums.j3 (k + 1) y0 y1 y2)) ∧ (∀ y0 y1 y2 y3 y4, LeO (drayagelaw01_QuantSums.j4 k y0 y1 y2 y3 y4) (drayagelaw01_QuantSums.j4 (k + 1) y0 y1 y2 y3 y4)) ∧ (∀ y0 y1 y2, LeO (drayagelaw01_QuantSums.j5 k y0 y1 y2) (drayagelaw01_QuantSums.j5 (k + 1) y0 y1 y2)) ∧ (∀ y0 y1 y2 y3 y4 y5 y6, LeO (drayagelaw01_QuantSums.l0 k y0 y1 y2 y3 y4 y5 y6) (drayagelaw01_QuantSums.l0 (k + 1) y0 y1 y2 y3 y4 y5 y6))
  | 0 => ⟨fun _ _ _ _ _ r h => by simp [drayagelaw01_QuantSums.j1] at h, fun _ _ _ r h => by simp [drayagelaw01_QuantSums.j2] at h, fun _ _ _ r h => by simp [drayagelaw01_QuantSums.j3] at h, fun _ _ _ _ _ r h => by simp [drayagelaw01_QuantSums.j4] at h, fun _ _ _ r h => by simp [drayagelaw01_QuantSums.j5] at h, fun _ _ _ _ _ _ _ r h => by simp [drayagelaw01_QuantSums.l0] at h⟩
  | k + 1 => by
    obtain ⟨ih0, ih1, ih2, ih3, ih4, ih5⟩ := drayagelaw01_QuantSums.mono_l k
    refine ⟨?_, ?_, ?_, ?_, ?_, ?_⟩
    · intro y0 y1 y2 y3 y4
      unfold drayagelaw01_QuantSums.j1
      repeat' first
      | (with_reducible exact ih0 _ _ _ _ _)
      | (with_reducible exact ih1 _ _ _)
      | (with_reducible exact ih2 _ _ _)
      | (with_reducible exact ih3 _ _ _ _ _)
      | (with_reducible exact ih4 _ _ _)
      | (with_reducible exact ih5 _ _ _ _ _ _ _)
      | (with_reducible exact drayagelaw01_works.mono _)
      | (with_reducible exact quant_Add.mono _ _)
      | (with_reducible exact quant_Share.mono _ _ _)
      | (with_reducible exact LeO.refl _)
      | (with_reducible exact LeO.none _)
      | (with_reducible refine LeO.ite ?_ ?_)
      | (with_reducible refine LeO.bind ?_ (fun _ => ?_))
      | exact ih0 _ _ _ _ _
      | exact ih1 _ _ _
      | exact ih2 _ _ _
      | exact ih3 _ _ _ _ _
      | exact ih4 _ _ _
      | exact ih5 _ _ _ _ _ _ _
      | exact drayagelaw01_works.mono _
      | exact quant_Add.mono _ _
      | exact quant_Share.mono _ _ _
      | exact LeO.none _
      | refine LeO.ite ?_ ?_
      | refine LeO.bind ?_ (fun _ => ?_)
    · intro y0 y1 y2
      unfold drayagelaw01_QuantSums.j2
      repeat' first
      | (with_reducible exact ih0 _ _ _ _ _)
      | (with_reducible exact ih1 _ _ _)
      | (with_reducible exact ih2 _ _ _)
      | (with_reducible exact ih3 _ _ _ _ _)
      | (with_reducible exact ih4 _ _ _)
      | (with_reducible exact ih5 _ _ _ _ _ _ _)
      | (with_reducible exact drayagelaw01_works.mono _)
      | (with_reducible exact quant_Add.mono _ _)
      | (with_reducible exact quant_Share.mono _ _ _)
      | (with_reducible exact LeO.refl _)
      | (with_reducible exact LeO.none _)
      | (with_reducible refine LeO.ite ?_ ?_)
      | (with_reducible refine LeO.bind ?_ (fun _ => ?_))
      | exact ih0 _ _ _ _ _
      | exact ih1 _ _ _
      | exact ih2 _ _ _
      | exact ih3 _ _ _ _ _
      | exact ih4 _ _ _
      | exact ih5 _ _ _ _ _ _ _
      | exact drayagelaw01_works.mono _
      | exact quant_Add.mono _ _
      | exact quant_Share.mono _ _ _
      | exact LeO.none _
      | refine LeO.ite ?_ ?_
      | refine LeO.bind ?_ (fun _ => ?_)
    · intro y0 y1 y2
      unfold drayagelaw01_QuantSums.j3
      repeat' first
      | (with_reducible exact ih0 _ _ _ _ _)
      | (with_reducible exact ih1 _ _ _)
      | (with_reducible exact ih2 _ _ _)
      | (with_reducible exact ih3 _ _ _ _ _)
      | (with_reducible exact ih4 _ _ _)
      | (with_reducible exact ih5 _ _ _ _ _ _ _)
      | (with_reducible exact drayagelaw01_works.mono _)
      | (with_reducible exact quant_Add.mono _ _)
      | (with_reducible exact quant_Share.mono _ _ _)
      | (with_reducible exact LeO.refl _)
      | (with_reducible exact LeO.none _)
      | (with_reducible refine LeO.ite ?_ ?_)
      | (with_reducible refine LeO.bind ?_ (fun _ => ?_))
      | exact ih0 _ _ _ _ _
      | exact ih1 _ _ _
      | exact ih2 _ _ _
      | exact ih3 _ _ _ _ _
      | exact ih4 _ _ _
      | exact ih5 _ _ _ _ _ _ _
      | exact drayagelaw01_works.mono _
      | exact quant_Add.mono _ _
      | exact quant_Share.mono _ _ _
      | exact LeO.none _
      | refine LeO.ite ?_ ?_
      | refine LeO.bind ?_ (fun _ => ?_)
    · intro y0 y1 y2 y3 y4
      unfold drayagelaw01_QuantSums.j4
      repeat' first
      | (with_reducible exact ih0 _ _ _ _ _)
      | (with_reducible exact ih1 _ _ _)
      | (with_reducible exact ih2 _ _ _)
      | (with_reducible exact ih3 _ _ _ _ _)
      | (with_reducible exact ih4 _ _ _)
      | (with_reducible exact ih5 _ _ _ _ _ _ _)
      | (with_reducible exact drayagelaw01_works.mono _)
      | (with_reducible exact quant_Add.mono _ _)
      | (with_reducible exact quant_Share.mono _ _ _)
      | (with_reducible exact LeO.refl _)
      | (with_reducible exact LeO.none _)
      | (with_reducible refine LeO.ite ?_ ?_)
      | (with_reducible refine LeO.bind ?_ (fun _ => ?_))
      | exact ih0 _ _ _ _ _
      | exact ih1 _ _ _
      | exact ih2 _ _ _
      | exact ih3 _ _ _ _ _
      | exact ih4 _ _ _
      | exact ih5 _ _ _ _ _ _ _
      | exact drayagelaw01_works.mono _
      | exact quant_Add.mono _ _
      | exact quant_Share.mono _ _ _
      | exact LeO.none _
      | refine LeO.ite ?_ ?_
      | refine LeO.bind ?_ (fun _ => ?_)
    · intro y0 y1 y2
      unfold drayagelaw01_QuantSums.j5
      repeat' first
      | (with_reducible exact ih0 _ _ _ _ _)
      | (with_reducible exact ih1 _ _ _)
      | (with_reducible exact ih2 _ _ _)
      | (with_reducible exact ih3 _ _ _ _ _)
      | (with_reducible exact ih4 _ _ _)
      | (with_reducible exact ih5 _ _ _ _ _ _ _)
      | (with_reducible exact drayagelaw01_works.mono _)
      | (with_reducible exact quant_Add.mono _ _)
      | (with_reducible exact quant_Share.mono _ _ _)
      | (with_reducible exact LeO.refl _)
      | (with_reducible exact LeO.none _)
      | (with_reducible refine LeO.ite ?_ ?_)
      | (with_reducible refine LeO.bind ?_ (fun _ => ?_))
      | exact ih0 _ _ _ _ _
      | exact ih1 _ _ _
      | exact ih2 _ _ _
      | exact ih3 _ _ _ _ _
      | exact ih4 _ _ _
      | exact ih5 _ _ _ _ _ _ _
      | exact drayagelaw01_works.mono _
      | exact quant_Add.mono _ _
      | exact quant_Share.mono _ _ _
      | exact LeO.none _
      | refine LeO.ite ?_ ?_
      | refine LeO.bind ?_ (fun _ => ?_)
    · intro y0 y1 y2 y3 y4 y5 y6
      unfold drayagelaw01_QuantSums.l0
      repeat' first
      | (with_reducible exact ih0 _ _ _ _ _)
      | (with_reducible exact ih1 _ _ _)
      | (with_reducible exact ih2 _ _ _)
      | (with_reducible exact ih3 _ _ _ _ _)
      | (with_reducible exact ih4 _ _ _)
      | (with_reducible exact ih5 _ _ _ _ _ _ _)
      | (with_reducible exact drayagelaw01_works.mono _)
      | (with_reducible exact quant_Add.mono _ _)
      | (with_reducible exact quant_Share.mono _ _ _)
      | (with_reducible exact LeO.refl _)
      | (with_reducible exact LeO.none _)
      | (with_reducible refine LeO.ite ?_ ?_)
      | (with_reducible refine LeO.bind ?_ (fun _ => ?_))
      | exact ih0 _ _ _ _ _
      | exact ih1 _ _ _
      | exact ih2 _ _ _
      | exact ih3 _ _ _ _ _
      | exact ih4 _ _ _
      | exact ih5 _ _ _ _ _ _ _
      | exact drayagelaw01_works.mono _
      | exact quant_Add.mono _ _
      | exact quant_Share.mono _ _ _
      | exact LeO.none _
      | refine LeO.ite ?_ ?_
      | refine LeO.bind ?_ (fun _ => ?_)
theorem drayagelaw01_QuantSums.mono : ∀ a0 a1 a2 k, LeO (drayagelaw01_QuantSums.f k a0 a1 a2) (drayagelaw01_QuantSums.f (k + 1) a0 a1 a2) := by
  intro a0 a1 a2 k
  obtain ⟨ih0, ih1, ih2, ih3, ih4, ih5⟩ := drayagelaw01_QuantSums.mono_l k
  unfold drayagelaw01_QuantSums.f
  repeat' first
      | (with_reducible exact ih0 _ _ _ _ _)
      | (with_reducible exact ih1 _ _ _)
      | (with_reducible exact ih2 _ _ _)
      | (with_reducible exact ih3 _ _ _ _ _)
      | (with_reducible exact ih4 _ _ _)
      | (with_reducible exact ih5 _ _ _ _ _ _ _)
      | (with_reducible exact drayagelaw01_works.mono _)
      | (with_reducible exact quant_Add.mono _ _)
      | (with_reducible exact quant_Share.mono _ _ _)
      | (with_reducible exact LeO.refl _)
      | (with_reducible exact LeO.none _)
      | (with_reducible refine LeO.ite ?_ ?_)
      | (with_reducible refine LeO.bind ?_ (fun _ => ?_))
      | exact ih0 _ _ _ _ _
      | exact ih1 _ _ _
      | exact ih2 _ _ _
      | exact ih3 _ _ _ _ _
      | exact ih4 _ _ _
      | exact ih5 _ _ _ _ _ _ _
      | exact drayagelaw01_works.mono _
      | exact quant_Add.mono _ _
      | exact quant_Share.mono _ _ _
      | exact LeO.none _
      | refine LeO.ite ?_ ?_
      | refine LeO.bind ?_ (fun _ => ?_)
set_option maxHeartbeats 8000000 in
set_option maxRecDepth 100000 in
theorem drayagelaw01_QuantSums.calls (k : Nat) (A0 : Option Addr) (c0 : Nat) (l0 : List Int) (a1 : Int) (a2 : Int) (r : Bool) (w : World) (hr0 : Kd.C (Kd.int .i64) w A0 l0.length l0) (hc0 : l0.length ≤ c0) (h : drayagelaw01_QuantSums.f k l0 a1 a2 = some r) (hT0 : Tb w) :
    Calls Tryd.prog 8 #[.slice A0 l0.length c0, .int .i64 a1, .int .i64 a2] w fun e w' => e = .returned (.bool r) ∧ Below w.heap.size w w' := by
  have hT_ := Aside0.mk hT0
  clear hT0
  have HR0 := Aside0.mk hr0
  have HC0 := Aside0.mk hc0
  clear hr0 hc0
  have HB := Aside0.mk (Below.refl w.heap.size w)
  have H : ((drayageref00_Bring.f a1 1099511627778).bind fun t300 => ((drayageref00_Bring.f a2 1099511627778).bind fun t301 => (drayagelaw01_QuantSums.l0 k l0 t300 t301 0 true ([] : List Int) 0))) = some r := h
  clear h
  replace H := Option.bind_eq_some_iff.mp H
  obtain ⟨t300, A40, H⟩ := H
  replace H : ((drayageref00_Bring.f a2 1099511627778).bind fun t301 => (drayagelaw01_QuantSums.l0 k l0 t300 t301 0 true ([] : List Int) 0)) = some r := H
  have A4 := Aside0.mk A40
  clear A40
  replace H := Option.bind_eq_some_iff.mp H
  obtain ⟨t301, A50, H⟩ := H
  replace H : (drayagelaw01_QuantSums.l0 k l0 t300 t301 0 true ([] : List Int) 0) = some r := H
  have A5 := Aside0.mk A50
  clear A50
  have HC6 := Aside0.mk H
  clear H
  go_enter Tryd.func8, Tryd.ntmps8
  go_upto_block 0 with (first | ((with_reducible refine gate_callee (f := 20) rfl ?_); refine goesL_ (some 24) rfl rfl Tryd.func20 (by kernel_rfl) rfl #[.int .i64 a1, .int .i64 1099511627778] rfl (by (try simp only [List.map_toArray, List.map_cons, List.map_nil]); first | done | rfl | (simp only [List.length_drop, List.length_take]; rfl)) ?_; (with_reducible refine (drayageref00_Bring.calls a1 1099511627778 t300 _ A4.out).mono ?_); rintro e w' ⟨rfl, ⟨nd, rfl⟩⟩; refine ⟨_, rfl, ?_⟩) | ((with_reducible refine gate_callee (f := 20) rfl ?_); refine goesL_ (some 26) rfl rfl Tryd.func20 (by kernel_rfl) rfl #[.int .i64 a2, .int .i64 1099511627778] rfl (by (try simp only [List.map_toArray, List.map_cons, List.map_nil]); first | done | rfl | (simp only [List.length_drop, List.length_take]; rfl)) ?_; (with_reducible refine (drayageref00_Bring.calls a2 1099511627778 t301 _ A5.out).mono ?_); rintro e w' ⟨rfl, ⟨nd, rfl⟩⟩; refine ⟨_, rfl, ?_⟩))
  (try simp only [Act.put, List.setIfInBounds_toArray, List.set_cons_zero, List.set_cons_succ])
  go_cut [7, 8, 9] (fun v7 v8 v9 wc => ∃ (kq : Nat) (x7_5 : Int) (x8_5 : Bool) (x9_5 : List Int), v7 = .int .i64 x7_5 ∧ v8 = .bool x8_5 ∧ Aside0 (drayagelaw01_QuantSums.j1 kq t300 t301 x7_5 x8_5 x9_5 = some r) ∧ Aside0 (kq ≤ k) ∧ Aside0 (Kd.R (Kd.int .i64) 3 wc w.heap.size (fun _ => True) v9 x9_5) ∧ Aside0 (Below w.heap.size w wc))
  case first =>
    have H := HC6.out
    clear HC6
    have H' := Aside0.mk H
    clear H
    go_wp2
    go_loopg [7, 8, 9, 10] k (fun kq v7 v8 v9 v10 w' => ∃ (x7_1 : Int) (x8_1 : Bool) (x9_1 : List Int) (x10_1 : Int), v7 = .int .i64 x7_1 ∧ v8 = .bool x8_1 ∧ v10 = .int .i64 x10_1 ∧ Aside0 (drayagelaw01_QuantSums.l0 kq l0 t300 t301 x7_1 x8_1 x9_1 x10_1 = some r) ∧ Aside0 (kq ≤ k) ∧ Aside0 (Kd.R (Kd.int .i64) 3 w' w.heap.size (fun _ => True) v9 x9_1) ∧ Aside0 (Below w.heap.size w w'))
    case atStart => exact ⟨(0), (true), (([] : List Int)), (0), (by first | rfl | (simp; done) | (simp [*]; done)), (by first | rfl | (simp; done) | (simp [*]; done)), (by first | rfl | (simp; done) | (simp [*]; done)), H', ⟨Nat.le_refl _⟩, ⟨by first | exact Kd.R_nil _ _ _ _ _ | exact Kd.N_nil _ _ _ _ _ | exact Kd.V_nil _ _ _ _ _ | exact Kd.Q_nil _ _ _ _ _ | exact Kd.S_nil _ _ _ _ _⟩, ⟨by repeat (first | (with_reducible first | exact HB.out | apply below_alloc | apply pw_below_drewN | apply below_drew1) | exact HB.out)⟩⟩
    case round =>
      clear H'
      try clear c2
      try clear p2
      obtain ⟨x7_1, x8_1, x9_1, x10_1, rfl, rfl, rfl, HA, HK1, HO_9, HB⟩ := hrel
      cases gk with
      | zero => exact absurd HA.out (by simp [drayagelaw01_QuantSums.l0])
      | succ k1 =>
        have H := HA.out
        clear HA
        simp only [drayagelaw01_QuantSums.l0] at H
        by_cases c7 : x10_1 < (l0.length : Int)
        · rw [if_pos c7] at H
          have c7b0 : decide (x10_1 < (l0.length : Int)) = true := decide_eq_true c7
          clear c7
          (first | rw [c7b0] | (simp only [i64_w, i32_w]; rw [c7b0]) | skip)
          by_cases c8 : x10_1 < 20
          · rw [if_pos c8] at H
            have c8b0 : decide (x10_1 < 20) = true := decide_eq_true c8
            clear c8
            by_cases c9 : 0 ≤ x10_1
            · rw [if_pos c9] at H
              have c9b0 : decide (0 ≤ x10_1) = true := decide_eq_true c9
              clear c9
              replace H := Option.bind_eq_some_iff.mp H
              obtain ⟨t303, A100, H⟩ := H
              replace H : (if x9_1.length < 17592186044416 then ((some (x9_1 ++ [t303] : List Int)).bind fun y304 => (if x8_1 = true then (drayagelaw01_QuantSums.l0 k1 l0 t300 t301 (wrap64 (x7_1 + t303)) (decide ((wrap64 (x7_1 + t303)) ≤ 1099511627776)) y304 (wrap64 (x10_1 + 1))) else (drayagelaw01_QuantSums.l0 k1 l0 t300 t301 (wrap64 (x7_1 + t303)) false y304 (wrap64 (x10_1 + 1))))) else (none)) = some r := H
              have A10 := Aside0.mk A100
              clear A100
              by_cases c11 : x9_1.length < 17592186044416
              · rw [if_pos c11] at H
                have LMc11 := Aside0.mk c11
                clear c11
                obtain ⟨y304, hy304⟩ : ∃ y_ : List Int, y_ = (x9_1 ++ [t303]) := ⟨_, rfl⟩
                replace H : (if x8_1 = true then (drayagelaw01_QuantSums.l0 k1 l0 t300 t301 (wrap64 (x7_1 + t303)) (decide ((wrap64 (x7_1 + t303)) ≤ 1099511627776)) y304 (wrap64 (x10_1 + 1))) else (drayagelaw01_QuantSums.l0 k1 l0 t300 t301 (wrap64 (x7_1 + t303)) false y304 (wrap64 (x10_1 + 1)))) = some r := by first | (rw [hy304]; with_reducible exact H) | (have H2_ := (Option.bind_some _ _).symm.trans H; rw [hy304]; with_reducible exact H2_) | (have H2_ := (Option.bind_some _ _).symm.trans H; with_reducible exact H2_) | with_reducible exact H | (rw [hy304]; exact H) | exact H
                have Ny304 := Aside0.mk hy304
                clear hy304
                by_cases c12 : x8_1 = true
                · subst c12
                  have H1 : (drayagelaw01_QuantSums.l0 k1 l0 t300 t301 (wrap64 (x7_1 + t303)) (decide ((wrap64 (x7_1 + t303)) ≤ 1099511627776)) y304 (wrap64 (x10_1 + 1))) = some r := by rw [if_pos rfl] at H; exact H
                  clear H
                  have H := H1
                  clear H1
                  have H' := Aside0.mk H
                  clear H
                  have p302 : 0 ≤ (x10_1 : Int) := of_decide_eq_true (by first | (with_reducible assumption) | assumption)
                  have q302 : x10_1 < (l0.length : Int) := of_decide_eq_true (by first | (with_reducible assumption) | assumption)
                  obtain ⟨ad302, e302, hx302_0⟩ := Kd.at_int HR0.out x10_1 p302 q302
                  cases e302
                  replace hx302_0 := (HB.out.cell (World.block_lt_of_cell? w _ hx302_0)).trans hx302_0
                  replace p302 := eq_true p302
                  replace q302 := eq_true q302
                  go_wp2_with (first | ((with_reducible refine gate_callee (f := 20) rfl ?_); refine goesL_ (some 41) rfl rfl Tryd.func20 (by kernel_rfl) rfl #[.int .i64 (rd l0 x10_1), .int .i64 137438953472] rfl (by (try simp only [List.map_toArray, List.map_cons, List.map_nil]); first | done | rfl | (simp only [List.length_drop, List.length_take]; rfl)) ?_; (with_reducible refine (drayageref00_Bring.calls (rd l0 x10_1) 137438953472 t303 _ A10.out).mono ?_); rintro e w' ⟨rfl, ⟨nd, rfl⟩⟩; refine ⟨_, rfl, ?_⟩) | ((with_reducible refine gate_builtin (b := .append) (xs := #[.tmp 42, .tmp 44]) rfl ?_); (try (refine gate_guard (by rfl) ?_; dsimp only)); at_builtin; refine Kd.R_append (Kd.int .i64) (w0 := w) w.heap.size rfl (.tmp 42) (.tmp 44) 36 3 (.int .i64 0) 8 rfl Tryd.underlying36 info3 rfl (by decide) (by omega) u9 x9_1 t303 [.int .i64 t303] (fun _ => True) (fun _ => False) rfl rfl ?aP (fun _ hk => hk.elim) ?aF ?aO ?aB ?aS ?aL ?_; (case aP => exact rfl); (case aB => exact (by repeat (first | (with_reducible first | exact HB.out | apply below_alloc | apply pw_below_drewN | apply below_drew1) | exact HB.out))); (case aF => exact (fun _ _ => trivial)); (case aO => exact (by (with_reducible repeat (first | apply Kd.R_alloc | apply Kd.R_drewN | apply Kd.R_drew)); exact HO_9.out)); (case aS => exact (below_size (by repeat (first | (with_reducible first | exact HB.out | apply below_alloc | apply pw_below_drewN | apply below_drew1) | exact HB.out)))); (case aL => have := LMc11.out; omega); intro v305 w13 ho hb hg hat; rw [← Ny304.out] at ho; have n0_ := Aside0.mk (hb); have n1_ := Aside0.mk (ho); clear HB; clear HO_9; have HB := n0_; have HO306 := n1_; clear n0_ n1_; clear ho hb hg hat))
                  go_roundg k1
                  case measure => have := HK1.out; omega
                  case rel => exact ⟨(wrap64 (x7_1 + t303)), (decide ((wrap64 (x7_1 + t303)) ≤ 1099511627776)), (y304), (wrap64 (x10_1 + 1)), (by first | rfl | (simp; done) | (simp [*]; done)), (by first | rfl | (simp; done) | (simp [*]; done)), (by first | rfl | (simp; done) | (simp [*]; done)), H', ⟨by have := HK1.out; omega⟩, ⟨by (with_reducible repeat (first | apply Kd.R_alloc | apply Kd.R_drewN | apply Kd.R_drew)); exact HO306.out⟩, ⟨by repeat (first | (with_reducible first | exact HB.out | apply below_alloc | apply pw_below_drewN | apply below_drew1) | exact HB.out)⟩⟩
                · replace c12 := Bool.eq_false_iff.mpr c12
                  subst c12
                  have H1 : (drayagelaw01_QuantSums.l0 k1 l0 t300 t301 (wrap64 (x7_1 + t303)) false y304 (wrap64 (x10_1 + 1))) = some r := by rw [if_neg (show ¬ (false = true) by decide)] at H; exact H
                  clear H
                  have H := H1
                  clear H1
                  have H' := Aside0.mk H
                  clear H
                  have p302 : 0 ≤ (x10_1 : Int) := of_decide_eq_true (by first | (with_reducible assumption) | assumption)
                  have q302 : x10_1 < (l0.length : Int) := of_decide_eq_true (by first | (with_reducible assumption) | assumption)
                  obtain ⟨ad302, e302, hx302_0⟩ := Kd.at_int HR0.out x10_1 p302 q302
                  cases e302
                  replace hx302_0 := (HB.out.cell (World.block_lt_of_cell? w _ hx302_0)).trans hx302_0
                  replace p302 := eq_true p302
                  replace q302 := eq_true q302
                  go_wp2_with (first | ((with_reducible refine gate_callee (f := 20) rfl ?_); refine goesL_ (some 41) rfl rfl Tryd.func20 (by kernel_rfl) rfl #[.int .i64 (rd l0 x10_1), .int .i64 137438953472] rfl (by (try simp only [List.map_toArray, List.map_cons, List.map_nil]); first | done | rfl | (simp only [List.length_drop, List.length_take]; rfl)) ?_; (with_reducible refine (drayageref00_Bring.calls (rd l0 x10_1) 137438953472 t303 _ A10.out).mono ?_); rintro e w' ⟨rfl, ⟨nd, rfl⟩⟩; refine ⟨_, rfl, ?_⟩) | ((with_reducible refine gate_builtin (b := .append) (xs := #[.tmp 42, .tmp 44]) rfl ?_); (try (refine gate_guard (by rfl) ?_; dsimp only)); at_builtin; refine Kd.R_append (Kd.int .i64) (w0 := w) w.heap.size rfl (.tmp 42) (.tmp 44) 36 3 (.int .i64 0) 8 rfl Tryd.underlying36 info3 rfl (by decide) (by omega) u9 x9_1 t303 [.int .i64 t303] (fun _ => True) (fun _ => False) rfl rfl ?aP (fun _ hk => hk.elim) ?aF ?aO ?aB ?aS ?aL ?_; (case aP => exact rfl); (case aB => exact (by repeat (first | (with_reducible first | exact HB.out | apply below_alloc | apply pw_below_drewN | apply below_drew1) | exact HB.out))); (case aF => exact (fun _ _ => trivial)); (case aO => exact (by (with_reducible repeat (first | apply Kd.R_alloc | apply Kd.R_drewN | apply Kd.R_drew)); exact HO_9.out)); (case aS => exact (below_size (by repeat (first | (with_reducible first | exact HB.out | apply below_alloc | apply pw_below_drewN | apply below_drew1) | exact HB.out)))); (case aL => have := LMc11.out; omega); intro v305 w14 ho hb hg hat; rw [← Ny304.out] at ho; have n0_ := Aside0.mk (hb); have n1_ := Aside0.mk (ho); clear HB; clear HO_9; have HB := n0_; have HO306 := n1_; clear n0_ n1_; clear ho hb hg hat))
                  go_roundg k1
                  case measure => have := HK1.out; omega
                  case rel => exact ⟨(wrap64 (x7_1 + t303)), (false), (y304), (wrap64 (x10_1 + 1)), (by first | rfl | (simp; done) | (simp [*]; done)), (by first | rfl | (simp; done) | (simp [*]; done)), (by first | rfl | (simp; done) | (simp [*]; done)), H', ⟨by have := HK1.out; omega⟩, ⟨by (with_reducible repeat (first | apply Kd.R_alloc | apply Kd.R_drewN | apply Kd.R_drew)); exact HO306.out⟩, ⟨by repeat (first | (with_reducible first | exact HB.out | apply below_alloc | apply pw_below_drewN | apply below_drew1) | exact HB.out)⟩⟩
              · rw [if_neg c11] at H
                exact absurd H (by simp)
            · rw [if_neg c9] at H
              exact absurd H (by simp)
          · rw [if_neg c8] at H
            have c8b0 : decide (x10_1 < 20) = false := decide_eq_false c8
            clear c8
            have H' := Aside0.mk H
            clear H
            go_wp2
            go_meet
            case rel => exact ⟨_, (x7_1), (x8_1), (x9_1), (by first | rfl | (simp; done) | (simp [*]; done)), (by first | rfl | (simp; done) | (simp [*]; done)), H', ⟨by have := HK1.out; first | omega | exact Nat.le_refl _⟩, ⟨by (with_reducible repeat (first | apply Kd.R_alloc | apply Kd.R_drewN | apply Kd.R_drew)); exact HO_9.out⟩, ⟨by repeat (first | (with_reducible first | exact HB.out | apply below_alloc | apply pw_below_drewN | apply below_drew1) | exact HB.out)⟩⟩
        · rw [if_neg c7] at H
          have c7b0 : decide (x10_1 < (l0.length : Int)) = false := decide_eq_false c7
          clear c7
          (first | rw [c7b0] | (simp only [i64_w, i32_w]; rw [c7b0]) | skip)
          have H' := Aside0.mk H
          clear H
          go_wp2
          go_meet
          case rel => exact ⟨_, (x7_1), (x8_1), (x9_1), (by first | rfl | (simp; done) | (simp [*]; done)), (by first | rfl | (simp; done) | (simp [*]; done)), H', ⟨by have := HK1.out; first | omega | exact Nat.le_refl _⟩, ⟨by (with_reducible repeat (first | apply Kd.R_alloc | apply Kd.R_drewN | apply Kd.R_drew)); exact HO_9.out⟩, ⟨by repeat (first | (with_reducible first | exact HB.out | apply below_alloc | apply pw_below_drewN | apply below_drew1) | exact HB.out)⟩⟩
  case rest =>
    clear HC6
    try clear c1
    try clear c2
    try clear p2
    try clear p3
    try clear q3
    try clear hx3
    try clear p6
    try clear c7
    try clear c7b0
    try clear c8
    try clear c8b0
    try clear c9
    try clear c9b0
    try clear c11
    try clear c12
    try clear hx302_0
    try clear p2
    try clear p302
    try clear q302
    obtain ⟨kq, x7_5, x8_5, x9_5, rfl, rfl, HA, HJ5, HO_9, HB⟩ := hcut
    cases kq with
    | zero => exact absurd HA.out (by simp [drayagelaw01_QuantSums.j1])
    | succ kj5 =>
      have H := HA.out
      clear HA
      simp only [drayagelaw01_QuantSums.j1] at H
      replace H := Option.bind_eq_some_iff.mp H
      obtain ⟨⟨t307, t308⟩, A150, H⟩ := H
      replace H : (if ((t308 == 0) != x8_5) = true then (drayagelaw01_QuantSums.j2 kj5 t300 t301 true) else (if x8_5 = true then (if t307 = x7_5 then (drayagelaw01_QuantSums.j2 kj5 t300 t301 false) else (drayagelaw01_QuantSums.j2 kj5 t300 t301 true)) else (drayagelaw01_QuantSums.j2 kj5 t300 t301 (t308 != 10)))) = some r := H
      have A15 := Aside0.mk A150
      clear A150
      have HC16 := Aside0.mk H
      clear H
      obtain ⟨Ao17, co17, eo17⟩ := Kd.R_slice HO_9.out
      subst eo17
      go_upto_region 13 with (first | ((with_reducible refine gate_callee (f := 23) rfl ?_); refine goesL_ (some 56) rfl rfl Tryd.func23 (by kernel_rfl) rfl #[.slice Ao17 x9_5.length co17] rfl (by (try simp only [List.map_toArray, List.map_cons, List.map_nil]); first | done | rfl | (simp only [List.length_drop, List.length_take]; rfl)) ?_; (with_reducible refine (quant_Add.calls kj5 _ _ x9_5 t307 t308 _ ?side1 ?side2 A15.out).mono ?_); (case side1 => repeat (first | exact (Kd.R_reads' HO_9.out).2.2 | (with_reducible refine Kd.C_alloc ?_ _) | (with_reducible refine Kd.C_drewN ?_ _) | (with_reducible refine Kd.C_drew ?_))); (case side2 => exact (Kd.R_reads' HO_9.out).2.1); rintro e w18 ⟨rfl, hb⟩; refine ⟨_, rfl, ?_⟩; have n0_ := Aside0.mk (Kd.R_below (by (with_reducible repeat (first | apply Kd.R_alloc | apply Kd.R_drewN | apply Kd.R_drew)); exact HO_9.out) hb); have n1_ := Aside0.mk (below_step (by repeat (first | (with_reducible first | exact HB.out | apply below_alloc | apply pw_below_drewN | apply below_drew1) | exact HB.out)) hb); clear HO_9; clear HB; have HO_9 := n0_; have HB := n1_; clear n0_ n1_; (try clear hb); (try clear hb2); (try clear hk); (try clear hi)))
      (try simp only [Act.put, List.setIfInBounds_toArray, List.set_cons_zero, List.set_cons_succ])
      go_cut [78] (fun v78 wc => ∃ (kq : Nat) (x78_15 : Bool), v78 = .bool x78_15 ∧ Aside0 (drayagelaw01_QuantSums.j2 kq t300 t301 x78_15 = some r) ∧ Aside0 (kq ≤ kj5) ∧ Aside0 (Below w.heap.size w wc))
      case first =>
        have H := HC16.out
        clear HC16
        by_cases c19 : ((t308 == 0) != x8_5) = true
        · rw [if_pos c19] at H
          have c19b0 : ((t308 == 0) != x8_5) = true := c19
          (try (have c19b1 : decide ((t308 == 0) = x8_5) = false := by simpa using c19))
          (try (have c19b2 : ((t308 == 0) == x8_5) = false := by simpa using c19))
          (try (have c19b3 : ¬ ((t308 == 0) = x8_5) := by simpa using c19))
          clear c19
          (first | rw [c19b0] | (simp only [i64_w, i32_w]; rw [c19b0]) | skip)
          have H' := Aside0.mk H
          clear H
          go_wp2
          go_meet
          case rel => exact ⟨_, (true), (by first | rfl | (simp; done) | (simp [*]; done)), H', ⟨by have := HJ5.out; first | omega | exact Nat.le_refl _⟩, ⟨by repeat (first | (with_reducible first | exact HB.out | apply below_alloc | apply pw_below_drewN | apply below_drew1) | exact HB.out)⟩⟩
        · rw [if_neg c19] at H
          have c19b0 : ((t308 == 0) != x8_5) = false := by simpa using c19
          (try (have c19b1 : decide ((t308 == 0) = x8_5) = true := by simpa using c19))
          (try (have c19b2 : ((t308 == 0) == x8_5) = true := by simpa using c19))
          clear c19
          (first | rw [c19b0] | (simp only [i64_w, i32_w]; rw [c19b0]) | skip)
          by_cases c20 : x8_5 = true
          · subst c20
            have H1 : (if t307 = x7_5 then (drayagelaw01_QuantSums.j2 kj5 t300 t301 false) else (drayagelaw01_QuantSums.j2 kj5 t300 t301 true)) = some r := by rw [if_pos rfl] at H; exact H
            clear H
            have H := H1
            clear H1
            by_cases c21 : t307 = x7_5
            · rw [if_pos c21] at H
              have c21b0 : (t307 == x7_5) = true := beq_iff_eq.mpr c21
              have c21b1 : (t307 != x7_5) = false := bne_eq_false_iff_eq.mpr c21
              clear c21
              have H' := Aside0.mk H
              clear H
              go_wp2
              go_meet
              case rel => exact ⟨_, (false), (by first | rfl | (simp; done) | (simp [*]; done)), H', ⟨by have := HJ5.out; first | omega | exact Nat.le_refl _⟩, ⟨by repeat (first | (with_reducible first | exact HB.out | apply below_alloc | apply pw_below_drewN | apply below_drew1) | exact HB.out)⟩⟩
            · rw [if_neg c21] at H
              have c21b0 : (t307 == x7_5) = false := beq_eq_false_iff_ne.mpr c21
              have c21b1 : (t307 != x7_5) = true := bne_iff_ne.mpr c21
              have H' := Aside0.mk H
              clear H
              go_wp2
              go_meet
              case rel => exact ⟨_, (true), (by first | rfl | (simp; done) | (simp [*]; done)), H', ⟨by have := HJ5.out; first | omega | exact Nat.le_refl _⟩, ⟨by repeat (first | (with_reducible first | exact HB.out | apply below_alloc | apply pw_below_drewN | apply below_drew1) | exact HB.out)⟩⟩
          · replace c20 := Bool.eq_false_iff.mpr c20
            subst c20
            have H1 : (drayagelaw01_QuantSums.j2 kj5 t300 t301 (t308 != 10)) = some r := by rw [if_neg (show ¬ (false = true) by decide)] at H; exact H
            clear H
            have H := H1
            clear H1
            have H' := Aside0.mk H
            clear H
            go_wp2
            go_meet
            case rel => exact ⟨_, ((t308 != 10)), (by first | rfl | (simp; done) | (simp [*]; done)), H', ⟨by have := HJ5.out; first | omega | exact Nat.le_refl _⟩, ⟨by repeat (first | (with_reducible first | exact HB.out | apply below_alloc | apply pw_below_drewN | apply below_drew1) | exact HB.out)⟩⟩
      case rest =>
        clear HC16
        try clear c1
        try clear c2
        try clear p2
        try clear p3
        try clear q3
        try clear hx3
        try clear p6
        try clear c7
        try clear c7b0
        try clear c8
        try clear c8b0
        try clear c9
        try clear c9b0
        try clear c11
        try clear c12
        try clear c19
        try clear c19b0
        try clear c19b1
        try clear c19b2
        try clear c20
        try clear c21
        try clear c21b0
        try clear c21b1
        try clear hx302_0
        try clear p2
        try clear p3
        try clear p302
        try clear p6
        try clear q3
        try clear q302
        obtain ⟨kq, x78_15, rfl, HA, HJ15, HB⟩ := hcut
        cases kq with
        | zero => exact absurd HA.out (by simp [drayagelaw01_QuantSums.j2])
        | succ kj15 =>
          have H := HA.out
          clear HA
          simp only [drayagelaw01_QuantSums.j2] at H
          by_cases c22 : x78_15 = true
          · subst c22
            have H1 : (some false) = some r := by rw [if_pos rfl] at H; exact H
            clear H
            have H := H1
            clear H1
            obtain rfl := Option.some.inj H
            go_wp2
            go_ret
            exact ⟨by first | rfl | (simp [errW_none, errW_some] <;> rfl) | (simp [*, errW_none, errW_some] <;> rfl), by repeat (first | (with_reducible first | exact HB.out | apply below_alloc | apply pw_below_drewN | apply below_drew1) | exact HB.out)⟩
          · replace c22 := Bool.eq_false_iff.mpr c22
            subst c22
            have H1 : ((quant_Sub.f (mx t300 t301) (mn t300 t301)).bind fun bt309 => (if ((bt309.2 == 0) != (decide ((mx t300 t301) ≤ 1099511627776))) = true then (drayagelaw01_QuantSums.j3 kj15 t300 t301 true) else (if bt309.2 = 0 then (drayagelaw01_QuantSums.j3 kj15 t300 t301 ((wrap64 (bt309.1 + (mn t300 t301))) != (mx t300 t301))) else (drayagelaw01_QuantSums.j3 kj15 t300 t301 false)))) = some r := by rw [if_neg (show ¬ (false = true) by decide)] at H; exact H
            clear H
            have H := H1
            clear H1
            obtain ⟨ji23, hji23⟩ : ∃ j_ : Int, (mx t300 t301) = j_ := ⟨_, rfl⟩
            replace H : ((quant_Sub.f (ji23) (mn t300 t301)).bind fun bt309 => (if ((bt309.2 == 0) != (decide ((ji23) ≤ 1099511627776))) = true then (drayagelaw01_QuantSums.j3 kj15 t300 t301 true) else (if bt309.2 = 0 then (drayagelaw01_QuantSums.j3 kj15 t300 t301 ((wrap64 (bt309.1 + (mn t300 t301))) != (ji23))) else (drayagelaw01_QuantSums.j3 kj15 t300 t301 false)))) = some r := by first | (rw [hji23] at H; exact H) | (simp only [hji23] at H ⊢; exact H)
            have hji23_ : (if t300 < t301 then t301 else t300) = ji23 := hji23
            obtain ⟨ji24, hji24⟩ : ∃ j_ : Int, (mn t300 t301) = j_ := ⟨_, rfl⟩
            replace H : ((quant_Sub.f (ji23) (ji24)).bind fun bt309 => (if ((bt309.2 == 0) != (decide ((ji23) ≤ 1099511627776))) = true then (drayagelaw01_QuantSums.j3 kj15 t300 t301 true) else (if bt309.2 = 0 then (drayagelaw01_QuantSums.j3 kj15 t300 t301 ((wrap64 (bt309.1 + (ji24))) != (ji23))) else (drayagelaw01_QuantSums.j3 kj15 t300 t301 false)))) = some r := by first | (rw [hji24] at H; exact H) | (simp only [hji24] at H ⊢; exact H)
            have hji24_ : (if t301 < t300 then t301 else t300) = ji24 := hji24
            replace H := Option.bind_eq_some_iff.mp H
            obtain ⟨⟨t309, t310⟩, A250, H⟩ := H
            replace H : (if ((t310 == 0) != (decide ((ji23) ≤ 1099511627776))) = true then (drayagelaw01_QuantSums.j3 kj15 t300 t301 true) else (if t310 = 0 then (drayagelaw01_QuantSums.j3 kj15 t300 t301 ((wrap64 (t309 + (ji24))) != (ji23))) else (drayagelaw01_QuantSums.j3 kj15 t300 t301 false))) = some r := H
            have A25 := Aside0.mk A250
            clear A250
            have HC26 := Aside0.mk H
            clear H
            go_upto_region 16 with (first | ((with_reducible refine gate_callee (f := 25) rfl ?_); refine goesL_ (some 86) rfl rfl Tryd.func25 (by kernel_rfl) rfl #[.int .i64 ji23, .int .i64 ji24] rfl (by (try simp only [List.map_toArray, List.map_cons, List.map_nil]); first | done | (simp only [hji23, hji24]; rfl) | rfl | (simp only [List.length_drop, List.length_take]; rfl)) ?_; (with_reducible refine (quant_Sub.calls ji23 ji24 t309 t310 _ A25.out).mono ?_); rintro e w27 ⟨rfl, hb⟩; refine ⟨_, rfl, ?_⟩; have n0_ := Aside0.mk (below_step (by repeat (first | (with_reducible first | exact HB.out | apply below_alloc | apply pw_below_drewN | apply below_drew1) | exact HB.out)) hb); clear HB; have HB := n0_; clear n0_; (try clear hb); (try clear hb2); (try clear hk); (try clear hi)))
            (try simp only [Act.put, List.setIfInBounds_toArray, List.set_cons_zero, List.set_cons_succ])
            go_cut [110] (fun v110 wc => ∃ (kq : Nat) (x110_25 : Bool), v110 = .bool x110_25 ∧ Aside0 (drayagelaw01_QuantSums.j3 kq t300 t301 x110_25 = some r) ∧ Aside0 (kq ≤ kj15) ∧ Aside0 (Below w.heap.size w wc))
            case first =>
              have H := HC26.out
              clear HC26
              by_cases c29 : ((t310 == 0) != (decide ((ji23) ≤ 1099511627776))) = true
              · rw [if_pos c29] at H
                have c29b0 : ((t310 == 0) != (decide ((ji23) ≤ 1099511627776))) = true := c29
                (try (have c29b1 : decide ((t310 == 0) = (decide ((ji23) ≤ 1099511627776))) = false := by simpa using c29))
                (try (have c29b2 : ((t310 == 0) == (decide ((ji23) ≤ 1099511627776))) = false := by simpa using c29))
                (try (have c29b3 : ¬ ((t310 == 0) = (decide ((ji23) ≤ 1099511627776))) := by simpa using c29))
                clear c29
                (first | rw [c29b0] | (simp only [i64_w, i32_w]; rw [c29b0]) | skip)
                have H' := Aside0.mk H
                clear H
                go_wp2
                go_meet
                case rel => exact ⟨_, (true), (by first | rfl | (simp; done) | (simp [*]; done)), H', ⟨by have := HJ5.out; have := HJ15.out; first | omega | exact Nat.le_refl _⟩, ⟨by repeat (first | (with_reducible first | exact HB.out | apply below_alloc | apply pw_below_drewN | apply below_drew1) | exact HB.out)⟩⟩
              · rw [if_neg c29] at H
                have c29b0 : ((t310 == 0) != (decide ((ji23) ≤ 1099511627776))) = false := by simpa using c29
                (try (have c29b1 : decide ((t310 == 0) = (decide ((ji23) ≤ 1099511627776))) = true := by simpa using c29))
                (try (have c29b2 : ((t310 == 0) == (decide ((ji23) ≤ 1099511627776))) = true := by simpa using c29))
                clear c29
                (first | rw [c29b0] | (simp only [i64_w, i32_w]; rw [c29b0]) | skip)
                by_cases c30 : t310 = 0
                · rw [if_pos c30] at H
                  have c30b0 : (t310 == 0) = true := beq_iff_eq.mpr c30
                  have hm_ : ji23 ≤ 1099511627776 := by have h := c29b2; rw [c30b0] at h; simpa using h
                  have c30b1 : (t310 != 0) = false := bne_eq_false_iff_eq.mpr c30
                  clear c30
                  have H' := Aside0.mk H
                  clear H
                  go_wp2
                  go_meet
                  case rel => exact ⟨_, (((wrap64 (t309 + (ji24))) != (ji23))), (by first | rfl | (simp; done) | (simp only [← hji23, ← hji24] <;> (first | rfl | simp)) | (simp [*]; done)), H', ⟨by have := HJ5.out; have := HJ15.out; first | omega | exact Nat.le_refl _⟩, ⟨by repeat (first | (with_reducible first | exact HB.out | apply below_alloc | apply pw_below_drewN | apply below_drew1) | exact HB.out)⟩⟩
                · rw [if_neg c30] at H
                  have c30b0 : (t310 == 0) = false := beq_eq_false_iff_ne.mpr c30
                  have hm_ : 1099511627776 < ji23 := by have h := c29b2; rw [c30b0] at h; simpa using h
                  have c30b1 : (t310 != 0) = true := bne_iff_ne.mpr c30
                  have H' := Aside0.mk H
                  clear H
                  go_wp2
                  go_meet
                  case rel => exact ⟨_, (false), (by first | rfl | (simp; done) | (simp [*]; done)), H', ⟨by have := HJ5.out; have := HJ15.out; first | omega | exact Nat.le_refl _⟩, ⟨by repeat (first | (with_reducible first | exact HB.out | apply below_alloc | apply pw_below_drewN | apply below_drew1) | exact HB.out)⟩⟩
            case rest =>
              clear HC26
              try clear c1
              try clear c2
              try clear p2
              try clear c3
              try clear p3
              try clear q3
              try clear hx3
              try clear p6
              try clear c7
              try clear c7b0
              try clear c8
              try clear c8b0
              try clear c9
              try clear c9b0
              try clear c11
              try clear c12
              try clear c19
              try clear c19b0
              try clear c19b1
              try clear c19b2
              try clear c20
              try clear c21
              try clear c21b0
              try clear c21b1
              try clear c22
              try clear c23
              try clear c25
              try clear c28
              try clear c28b0
              try clear c29
              try clear c29b0
              try clear c29b1
              try clear c29b2
              try clear c30
              try clear c30b0
              try clear c30b1
              try clear p30
              try clear q30
              try clear hx30
              try clear c31
              try clear c31b0
              try clear c32
              try clear c32b0
              try clear hx302_0
              try clear p2
              try clear p3
              try clear p302
              try clear p6
              try clear q3
              try clear q302
              obtain ⟨kq, x110_25, rfl, HA, HJ25, HB⟩ := hcut
              cases kq with
              | zero => exact absurd HA.out (by simp [drayagelaw01_QuantSums.j3])
              | succ kj25 =>
                have H := HA.out
                clear HA
                simp only [drayagelaw01_QuantSums.j3] at H
                by_cases c33 : x110_25 = true
                · subst c33
                  have H1 : (some false) = some r := by rw [if_pos rfl] at H; exact H
                  clear H
                  have H := H1
                  clear H1
                  obtain rfl := Option.some.inj H
                  go_wp2
                  go_ret
                  exact ⟨by first | rfl | (simp [errW_none, errW_some] <;> rfl) | (simp only [← hji23, ← hji24]; first | rfl | (simp [errW_none, errW_some] <;> rfl)) | (simp [*, errW_none, errW_some] <;> rfl), by repeat (first | (with_reducible first | exact HB.out | apply below_alloc | apply pw_below_drewN | apply below_drew1) | exact HB.out)⟩
                · replace c33 := Bool.eq_false_iff.mpr c33
                  subst c33
                  have H1 : ((quant_Mul.f t300 (Int.tmod t301 4096)).bind fun bt311 => (if t300 > 1099511627776 then (drayagelaw01_QuantSums.j4 kj25 t300 t301 bt311.1 bt311.2 true) else (drayagelaw01_QuantSums.j4 kj25 t300 t301 bt311.1 bt311.2 (decide ((wrap64 (t300 * (Int.tmod t301 4096))) > 1099511627776))))) = some r := by rw [if_neg (show ¬ (false = true) by decide)] at H; exact H
                  clear H
                  have H := H1
                  clear H1
                  replace H := Option.bind_eq_some_iff.mp H
                  obtain ⟨⟨t311, t312⟩, A340, H⟩ := H
                  replace H : (if t300 > 1099511627776 then (drayagelaw01_QuantSums.j4 kj25 t300 t301 t311 t312 true) else (drayagelaw01_QuantSums.j4 kj25 t300 t301 t311 t312 (decide ((wrap64 (t300 * (Int.tmod t301 4096))) > 1099511627776)))) = some r := H
                  have A34 := Aside0.mk A340
                  clear A340
                  have HC35 := Aside0.mk H
                  clear H
                  go_upto_region 19 with (first | ((with_reducible refine gate_callee (f := 27) rfl ?_); refine goesL_ (some 115) rfl rfl Tryd.func27 (by kernel_rfl) rfl #[.int .i64 t300, .int .i64 (Int.tmod t301 4096)] rfl (by (try simp only [List.map_toArray, List.map_cons, List.map_nil]); first | done | rfl | (simp only [List.length_drop, List.length_take]; rfl)) ?_; (with_reducible refine (quant_Mul.calls t300 (Int.tmod t301 4096) t311 t312 _ A34.out).mono ?_); rintro e w36 ⟨rfl, hb⟩; refine ⟨_, rfl, ?_⟩; have n0_ := Aside0.mk (below_step (by repeat (first | (with_reducible first | exact HB.out | apply below_alloc | apply pw_below_drewN | apply below_drew1) | exact HB.out)) hb); clear HB; have HB := n0_; clear n0_; (try clear hb); (try clear hb2); (try clear hk); (try clear hi)))
                  (try simp only [Act.put, List.setIfInBounds_toArray, List.set_cons_zero, List.set_cons_succ])
                  go_cut [18] (fun v18 wc => ∃ (kq : Nat) (x18_34 : Bool), v18 = .bool x18_34 ∧ Aside0 (drayagelaw01_QuantSums.j4 kq t300 t301 t311 t312 x18_34 = some r) ∧ Aside0 (kq ≤ kj25) ∧ Aside0 (Below w.heap.size w wc))
                  case first =>
                    have H := HC35.out
                    clear HC35
                    by_cases c37 : t300 > 1099511627776
                    · rw [if_pos c37] at H
                      have c37b0 : decide (1099511627776 < t300) = true := decide_eq_true c37
                      clear c37
                      (first | rw [c37b0] | (simp only [i64_w, i32_w]; rw [c37b0]) | skip)
                      have H' := Aside0.mk H
                      clear H
                      go_wp2
                      go_meet
                      case rel => exact ⟨_, (true), (by first | rfl | (simp; done) | (simp [*]; done)), H', ⟨by have := HJ5.out; have := HJ15.out; have := HJ25.out; first | omega | exact Nat.le_refl _⟩, ⟨by repeat (first | (with_reducible first | exact HB.out | apply below_alloc | apply pw_below_drewN | apply below_drew1) | exact HB.out)⟩⟩
                    · rw [if_neg c37] at H
                      have c37b0 : decide (1099511627776 < t300) = false := decide_eq_false c37
                      clear c37
                      (first | rw [c37b0] | (simp only [i64_w, i32_w]; rw [c37b0]) | skip)
                      have H' := Aside0.mk H
                      clear H
                      go_wp2
                      go_meet
                      case rel => exact ⟨_, (decide ((wrap64 (t300 * (Int.tmod t301 4096))) > 1099511627776)), (by first | rfl | (simp; done) | (simp [*]; done)), H', ⟨by have := HJ5.out; have := HJ15.out; have := HJ25.out; first | omega | exact Nat.le_refl _⟩, ⟨by repeat (first | (with_reducible first | exact HB.out | apply below_alloc | apply pw_below_drewN | apply below_drew1) | exact HB.out)⟩⟩
                  case rest =>
                    clear HC35
                    try clear c1
                    try clear c2
                    try clear p2
                    try clear c3
                    try clear p3
                    try clear q3
                    try clear hx3
                    try clear p6
                    try clear c7
                    try clear c7b0
                    try clear c8
                    try clear c8b0
                    try clear c9
                    try clear c9b0
                    try clear c11
                    try clear c12
                    try clear c19
                    try clear c19b0
                    try clear c19b1
                    try clear c19b2
                    try clear c20
                    try clear c21
                    try clear c21b0
                    try clear c21b1
                    try clear c22
                    try clear c23
                    try clear c25
                    try clear c27
                    try clear c28
                    try clear c28b0
                    try clear c29
                    try clear c29b0
                    try clear c29b1
                    try clear c29b2
                    try clear c30
                    try clear c30b0
                    try clear c30b1
                    try clear p30
                    try clear q30
                    try clear hx30
                    try clear c31
                    try clear c31b0
                    try clear c32
                    try clear c32b0
                    try clear c33
                    try clear c37
                    try clear c37b0
                    try clear hx302_0
                    try clear p2
                    try clear p3
                    try clear p30
                    try clear p302
                    try clear p6
                    try clear q3
                    try clear q30
                    try clear q302
                    obtain ⟨kq, x18_34, rfl, HA, HJ34, HB⟩ := hcut
                    cases kq with
                    | zero => exact absurd HA.out (by simp [drayagelaw01_QuantSums.j4])
                    | succ kj34 =>
                      have H := HA.out
                      clear HA
                      simp only [drayagelaw01_QuantSums.j4] at H
                      have HC38 := Aside0.mk H
                      clear H
                      go_upto_region 20 with (fail)
                      go_cut [142] (fun v142 wc => ∃ (kq : Nat) (x142_37 : Bool), v142 = .bool x142_37 ∧ Aside0 (drayagelaw01_QuantSums.j5 kq t300 t301 x142_37 = some r) ∧ Aside0 (kq ≤ kj34) ∧ Aside0 (Below w.heap.size w wc))
                      case first =>
                        have H := HC38.out
                        clear HC38
                        by_cases c39 : ((t312 == 0) == x18_34) = true
                        · rw [if_pos c39] at H
                          have c39b0 : ((t312 == 0) == x18_34) = true := c39
                          (try (have c39b1 : decide ((t312 == 0) = x18_34) = true := by simpa using c39))
                          (try (have c39b2 : ((t312 == 0) == x18_34) = true := by simpa using c39))
                          clear c39
                          (first | rw [c39b0] | (simp only [i64_w, i32_w]; rw [c39b0]) | skip)
                          have H' := Aside0.mk H
                          clear H
                          go_wp2
                          go_meet
                          case rel => exact ⟨_, (true), (by first | rfl | (simp; done) | (simp [*]; done)), H', ⟨by have := HJ5.out; have := HJ15.out; have := HJ25.out; have := HJ34.out; first | omega | exact Nat.le_refl _⟩, ⟨by repeat (first | (with_reducible first | exact HB.out | apply below_alloc | apply pw_below_drewN | apply below_drew1) | exact HB.out)⟩⟩
                        · rw [if_neg c39] at H
                          have c39b0 : ((t312 == 0) == x18_34) = false := by simpa using c39
                          (try (have c39b1 : decide ((t312 == 0) = x18_34) = false := by simpa using c39))
                          (try (have c39b2 : ((t312 == 0) == x18_34) = false := by simpa using c39))
                          (try (have c39b3 : ¬ ((t312 == 0) = x18_34) := by simpa using c39))
                          clear c39
                          (first | rw [c39b0] | (simp only [i64_w, i32_w]; rw [c39b0]) | skip)
                          by_cases c40 : t312 = 0
                          · rw [if_pos c40] at H
                            have c40b0 : (t312 == 0) = true := beq_iff_eq.mpr c40
                            obtain rfl : x18_34 = false := by have h := c39b0; rw [c40b0] at h; simpa using h
                            have c40b1 : (t312 != 0) = false := bne_eq_false_iff_eq.mpr c40
                            clear c40
                            have H' := Aside0.mk H
                            clear H
                            go_wp2
                            go_meet
                            case rel => exact ⟨_, ((t311 != (wrap64 (t300 * (Int.tmod t301 4096))))), (by first | rfl | (simp; done) | (simp [*]; done)), H', ⟨by have := HJ5.out; have := HJ15.out; have := HJ25.out; have := HJ34.out; first | omega | exact Nat.le_refl _⟩, ⟨by repeat (first | (with_reducible first | exact HB.out | apply below_alloc | apply pw_below_drewN | apply below_drew1) | exact HB.out)⟩⟩
                          · rw [if_neg c40] at H
                            have c40b0 : (t312 == 0) = false := beq_eq_false_iff_ne.mpr c40
                            obtain rfl : x18_34 = true := by have h := c39b0; rw [c40b0] at h; simpa using h
                            have c40b1 : (t312 != 0) = true := bne_iff_ne.mpr c40
                            have H' := Aside0.mk H
                            clear H
                            go_wp2
                            go_meet
                            case rel => exact ⟨_, (false), (by first | rfl | (simp; done) | (simp [*]; done)), H', ⟨by have := HJ5.out; have := HJ15.out; have := HJ25.out; have := HJ34.out; first | omega | exact Nat.le_refl _⟩, ⟨by repeat (first | (with_reducible first | exact HB.out | apply below_alloc | apply pw_below_drewN | apply below_drew1) | exact HB.out)⟩⟩
                      case rest =>
                        clear HC38
                        try clear c1
                        try clear c2
                        try clear p2
                        try clear c3
                        try clear p3
                        try clear q3
                        try clear hx3
                        try clear c4
                        try clear p6
                        try clear c7
                        try clear c7b0
                        try clear c8
                        try clear c8b0
                        try clear c9
                        try clear c9b0
                        try clear c11
                        try clear c12
                        try clear c19
                        try clear c19b0
                        try clear c19b1
                        try clear c19b2
                        try clear c20
                        try clear c21
                        try clear c21b0
                        try clear c21b1
                        try clear c22
                        try clear c23
                        try clear c25
                        try clear c27
                        try clear c28
                        try clear c28b0
                        try clear c29
                        try clear c29b0
                        try clear c29b1
                        try clear c29b2
                        try clear c30
                        try clear c30b0
                        try clear c30b1
                        try clear p30
                        try clear q30
                        try clear hx30
                        try clear c31
                        try clear c31b0
                        try clear c32
                        try clear c32b0
                        try clear c33
                        try clear c37
                        try clear c37b0
                        try clear c39
                        try clear c39b0
                        try clear c39b1
                        try clear c39b2
                        try clear c40
                        try clear c40b0
                        try clear c40b1
                        try clear hx302_0
                        try clear p2
                        try clear p3
                        try clear p30
                        try clear p302
                        try clear p6
                        try clear q3
                        try clear q30
                        try clear q302
                        obtain ⟨kq, x142_37, rfl, HA, HJ37, HB⟩ := hcut
                        cases kq with
                        | zero => exact absurd HA.out (by simp [drayagelaw01_QuantSums.j5])
                        | succ kj37 =>
                          have H := HA.out
                          clear HA
                          simp only [drayagelaw01_QuantSums.j5] at H
                          by_cases c41 : x142_37 = true
                          · subst c41
                            have H1 : (some false) = some r := by rw [if_pos rfl] at H; exact H
                            clear H
                            have H := H1
                            clear H1
                            obtain rfl := Option.some.inj H
                            go_wp2
                            go_ret
                            exact ⟨by first | rfl | (simp [errW_none, errW_some] <;> rfl) | (simp only [← hji23, ← hji24]; first | rfl | (simp [errW_none, errW_some] <;> rfl)) | (simp [*, errW_none, errW_some] <;> rfl), by repeat (first | (with_reducible first | exact HB.out | apply below_alloc | apply pw_below_drewN | apply below_drew1) | exact HB.out)⟩
                          · replace c41 := Bool.eq_false_iff.mpr c41
                            subst c41
                            have H1 : ((quant_Share.f kj37 (wrap64 (Int.tdiv t300 2)) (wrap64 ((wrap64 (Int.tdiv t301 2)) + 1))).bind fun bt313 => ((quant_Share.f kj37 (wrap64 ((wrap64 (Int.tdiv t300 2)) + 1)) (wrap64 ((wrap64 (Int.tdiv t301 2)) + 1))).bind fun bt315 => (if bt313.2 = 0 then (if bt315.2 = 0 then (if bt313.1 ≤ bt315.1 then ((drayagelaw01_works.f kj37).bind fun t317 => (some t317)) else (some false)) else (some false)) else (some false)))) = some r := by rw [if_neg (show ¬ (false = true) by decide)] at H; exact H
                            clear H
                            have H := H1
                            clear H1
                            replace H := Option.bind_eq_some_iff.mp H
                            obtain ⟨⟨t313, t314⟩, A420, H⟩ := H
                            replace H : ((quant_Share.f kj37 (wrap64 ((wrap64 (Int.tdiv t300 2)) + 1)) (wrap64 ((wrap64 (Int.tdiv t301 2)) + 1))).bind fun bt315 => (if t314 = 0 then (if bt315.2 = 0 then (if t313 ≤ bt315.1 then ((drayagelaw01_works.f kj37).bind fun t317 => (some t317)) else (some false)) else (some false)) else (some false))) = some r := H
                            have A42 := Aside0.mk A420
                            clear A420
                            replace H := Option.bind_eq_some_iff.mp H
                            obtain ⟨⟨t315, t316⟩, A430, H⟩ := H
                            replace H : (if t314 = 0 then (if t316 = 0 then (if t313 ≤ t315 then ((drayagelaw01_works.f kj37).bind fun t317 => (some t317)) else (some false)) else (some false)) else (some false)) = some r := H
                            have A43 := Aside0.mk A430
                            clear A430
                            by_cases c44 : t314 = 0
                            · rw [if_pos c44] at H
                              have c44b0 : (t314 == 0) = true := beq_iff_eq.mpr c44
                              have c44b1 : (t314 != 0) = false := bne_eq_false_iff_eq.mpr c44
                              clear c44
                              by_cases c45 : t316 = 0
                              · rw [if_pos c45] at H
                                have c45b0 : (t316 == 0) = true := beq_iff_eq.mpr c45
                                have c45b1 : (t316 != 0) = false := bne_eq_false_iff_eq.mpr c45
                                clear c45
                                by_cases c46 : t313 ≤ t315
                                · rw [if_pos c46] at H
                                  have c46b0 : decide (t313 ≤ t315) = true := decide_eq_true c46
                                  clear c46
                                  replace H := Option.bind_eq_some_iff.mp H
                                  obtain ⟨t317, A470, H⟩ := H
                                  replace H : (some t317) = some r := H
                                  have A47 := Aside0.mk A470
                                  clear A470
                                  obtain rfl := Option.some.inj H
                                  go_wp2_with (first | ((with_reducible refine gate_callee (f := 29) rfl ?_); refine goesL_ (some 149) rfl rfl Tryd.func29 (by kernel_rfl) rfl #[.int .i64 (wrap64 (Int.tdiv t300 2)), .int .i64 (wrap64 ((wrap64 (Int.tdiv t301 2)) + 1))] rfl (by (try simp only [List.map_toArray, List.map_cons, List.map_nil]); first | done | rfl | (simp only [List.length_drop, List.length_take]; rfl)) ?_; (with_reducible refine (quant_Share.calls kj37 (wrap64 (Int.tdiv t300 2)) (wrap64 ((wrap64 (Int.tdiv t301 2)) + 1)) t313 t314 _ A42.out).mono ?_); rintro e w48 ⟨rfl, hb⟩; refine ⟨_, rfl, ?_⟩; have n0_ := Aside0.mk (below_step (by repeat (first | (with_reducible first | exact HB.out | apply below_alloc | apply pw_below_drewN | apply below_drew1) | exact HB.out)) hb); clear HB; have HB := n0_; clear n0_; (try clear hb); (try clear hb2); (try clear hk); (try clear hi)) | ((with_reducible refine gate_callee (f := 29) rfl ?_); refine goesL_ (some 159) rfl rfl Tryd.func29 (by kernel_rfl) rfl #[.int .i64 (wrap64 ((wrap64 (Int.tdiv t300 2)) + 1)), .int .i64 (wrap64 ((wrap64 (Int.tdiv t301 2)) + 1))] rfl (by (try simp only [List.map_toArray, List.map_cons, List.map_nil]); first | done | rfl | (simp only [List.length_drop, List.length_take]; rfl)) ?_; (with_reducible refine (quant_Share.calls kj37 (wrap64 ((wrap64 (Int.tdiv t300 2)) + 1)) (wrap64 ((wrap64 (Int.tdiv t301 2)) + 1)) t315 t316 _ A43.out).mono ?_); rintro e w49 ⟨rfl, hb⟩; refine ⟨_, rfl, ?_⟩; have n0_ := Aside0.mk (below_step (by repeat (first | (with_reducible first | exact HB.out | apply below_alloc | apply pw_below_drewN | apply below_drew1) | exact HB.out)) hb); clear HB; have HB := n0_; clear n0_; (try clear hb); (try clear hb2); (try clear hk); (try clear hi)) | (go_at_call 15; (with_reducible refine (drayagelaw01_works.calls kj37  t317 _ A47.out ?sideT_).mono ?_); (case sideT_ => first | exact hT_.out | exact hT_.out.up (by repeat (first | (with_reducible first | exact HB.out | apply below_alloc | apply pw_below_drewN | apply below_drew1) | exact HB.out))); rintro e w50 ⟨rfl, hb⟩; have n0_ := Aside0.mk (below_step (by repeat (first | (with_reducible first | exact HB.out | apply below_alloc | apply pw_below_drewN | apply below_drew1) | exact HB.out)) hb); clear HB; have HB := n0_; clear n0_; (try clear hb); (try clear hb2); (try clear hk); (try clear hi)))
                                  go_ret
                                  exact ⟨by first | rfl | (simp [errW_none, errW_some] <;> rfl) | (simp only [← hji23, ← hji24]; first | rfl | (simp [errW_none, errW_some] <;> rfl)) | (simp [*, errW_none, errW_some] <;> rfl), by repeat (first | (with_reducible first | exact HB.out | apply below_alloc | apply pw_below_drewN | apply below_drew1) | exact HB.out)⟩
                                · rw [if_neg c46] at H
                                  have c46b0 : decide (t313 ≤ t315) = false := decide_eq_false c46
                                  clear c46
                                  obtain rfl := Option.some.inj H
                                  go_wp2_with (first | ((with_reducible refine gate_callee (f := 29) rfl ?_); refine goesL_ (some 149) rfl rfl Tryd.func29 (by kernel_rfl) rfl #[.int .i64 (wrap64 (Int.tdiv t300 2)), .int .i64 (wrap64 ((wrap64 (Int.tdiv t301 2)) + 1))] rfl (by (try simp only [List.map_toArray, List.map_cons, List.map_nil]); first | done | rfl | (simp only [List.length_drop, List.length_take]; rfl)) ?_; (with_reducible refine (quant_Share.calls kj37 (wrap64 (Int.tdiv t300 2)) (wrap64 ((wrap64 (Int.tdiv t301 2)) + 1)) t313 t314 _ A42.out).mono ?_); rintro e w51 ⟨rfl, hb⟩; refine ⟨_, rfl, ?_⟩; have n0_ := Aside0.mk (below_step (by repeat (first | (with_reducible first | exact HB.out | apply below_alloc | apply pw_below_drewN | apply below_drew1) | exact HB.out)) hb); clear HB; have HB := n0_; clear n0_; (try clear hb); (try clear hb2); (try clear hk); (try clear hi)) | ((with_reducible refine gate_callee (f := 29) rfl ?_); refine goesL_ (some 159) rfl rfl Tryd.func29 (by kernel_rfl) rfl #[.int .i64 (wrap64 ((wrap64 (Int.tdiv t300 2)) + 1)), .int .i64 (wrap64 ((wrap64 (Int.tdiv t301 2)) + 1))] rfl (by (try simp only [List.map_toArray, List.map_cons, List.map_nil]); first | done | rfl | (simp only [List.length_drop, List.length_take]; rfl)) ?_; (with_reducible refine (quant_Share.calls kj37 (wrap64 ((wrap64 (Int.tdiv t300 2)) + 1)) (wrap64 ((wrap64 (Int.tdiv t301 2)) + 1)) t315 t316 _ A43.out).mono ?_); rintro e w52 ⟨rfl, hb⟩; refine ⟨_, rfl, ?_⟩; have n0_ := Aside0.mk (below_step (by repeat (first | (with_reducible first | exact HB.out | apply below_alloc | apply pw_below_drewN | apply below_drew1) | exact HB.out)) hb); clear HB; have HB := n0_; clear n0_; (try clear hb); (try clear hb2); (try clear hk); (try clear hi)))
                                  go_ret
                                  exact ⟨by first | rfl | (simp [errW_none, errW_some] <;> rfl) | (simp only [← hji23, ← hji24]; first | rfl | (simp [errW_none, errW_some] <;> rfl)) | (simp [*, errW_none, errW_some] <;> rfl), by repeat (first | (with_reducible first | exact HB.out | apply below_alloc | apply pw_below_drewN | apply below_drew1) | exact HB.out)⟩
                              · rw [if_neg c45] at H
                                have c45b0 : (t316 == 0) = false := beq_eq_false_iff_ne.mpr c45
                                have c45b1 : (t316 != 0) = true := bne_iff_ne.mpr c45
                                obtain rfl := Option.some.inj H
                                go_wp2_with (first | ((with_reducible refine gate_callee (f := 29) rfl ?_); refine goesL_ (some 149) rfl rfl Tryd.func29 (by kernel_rfl) rfl #[.int .i64 (wrap64 (Int.tdiv t300 2)), .int .i64 (wrap64 ((wrap64 (Int.tdiv t301 2)) + 1))] rfl (by (try simp only [List.map_toArray, List.map_cons, List.map_nil]); first | done | rfl | (simp only [List.length_drop, List.length_take]; rfl)) ?_; (with_reducible refine (quant_Share.calls kj37 (wrap64 (Int.tdiv t300 2)) (wrap64 ((wrap64 (Int.tdiv t301 2)) + 1)) t313 t314 _ A42.out).mono ?_); rintro e w53 ⟨rfl, hb⟩; refine ⟨_, rfl, ?_⟩; have n0_ := Aside0.mk (below_step (by repeat (first | (with_reducible first | exact HB.out | apply below_alloc | apply pw_below_drewN | apply below_drew1) | exact HB.out)) hb); clear HB; have HB := n0_; clear n0_; (try clear hb); (try clear hb2); (try clear hk); (try clear hi)) | ((with_reducible refine gate_callee (f := 29) rfl ?_); refine goesL_ (some 159) rfl rfl Tryd.func29 (by kernel_rfl) rfl #[.int .i64 (wrap64 ((wrap64 (Int.tdiv t300 2)) + 1)), .int .i64 (wrap64 ((wrap64 (Int.tdiv t301 2)) + 1))] rfl (by (try simp only [List.map_toArray, List.map_cons, List.map_nil]); first | done | rfl | (simp only [List.length_drop, List.length_take]; rfl)) ?_; (with_reducible refine (quant_Share.calls kj37 (wrap64 ((wrap64 (Int.tdiv t300 2)) + 1)) (wrap64 ((wrap64 (Int.tdiv t301 2)) + 1)) t315 t316 _ A43.out).mono ?_); rintro e w54 ⟨rfl, hb⟩; refine ⟨_, rfl, ?_⟩; have n0_ := Aside0.mk (below_step (by repeat (first | (with_reducible first | exact HB.out | apply below_alloc | apply pw_below_drewN | apply below_drew1) | exact HB.out)) hb); clear HB; have HB := n0_; clear n0_; (try clear hb); (try clear hb2); (try clear hk); (try clear hi)))
                                go_ret
                                exact ⟨by first | rfl | (simp [errW_none, errW_some] <;> rfl) | (simp only [← hji23, ← hji24]; first | rfl | (simp [errW_none, errW_some] <;> rfl)) | (simp [*, errW_none, errW_some] <;> rfl), by repeat (first | (with_reducible first | exact HB.out | apply below_alloc | apply pw_below_drewN | apply below_drew1) | exact HB.out)⟩
                            · rw [if_neg c44] at H
                              have c44b0 : (t314 == 0) = false := beq_eq_false_iff_ne.mpr c44
                              have c44b1 : (t314 != 0) = true := bne_iff_ne.mpr c44
                              obtain rfl := Option.some.inj H
                              go_wp2_with (first | ((with_reducible refine gate_callee (f := 29) rfl ?_); refine goesL_ (some 149) rfl rfl Tryd.func29 (by kernel_rfl) rfl #[.int .i64 (wrap64 (Int.tdiv t300 2)), .int .i64 (wrap64 ((wrap64 (Int.tdiv t301 2)) + 1))] rfl (by (try simp only [List.map_toArray, List.map_cons, List.map_nil]); first | done | rfl | (simp only [List.length_drop, List.length_take]; rfl)) ?_; (with_reducible refine (quant_Share.calls kj37 (wrap64 (Int.tdiv t300 2)) (wrap64 ((wrap64 (Int.tdiv t301 2)) + 1)) t313 t314 _ A42.out).mono ?_); rintro e w55 ⟨rfl, hb⟩; refine ⟨_, rfl, ?_⟩; have n0_ := Aside0.mk (below_step (by repeat (first | (with_reducible first | exact HB.out | apply below_alloc | apply pw_below_drewN | apply below_drew1) | exact HB.out)) hb); clear HB; have HB := n0_; clear n0_; (try clear hb); (try clear hb2); (try clear hk); (try clear hi)) | ((with_reducible refine gate_callee (f := 29) rfl ?_); refine goesL_ (some 159) rfl rfl Tryd.func29 (by kernel_rfl) rfl #[.int .i64 (wrap64 ((wrap64 (Int.tdiv t300 2)) + 1)), .int .i64 (wrap64 ((wrap64 (Int.tdiv t301 2)) + 1))] rfl (by (try simp only [List.map_toArray, List.map_cons, List.map_nil]); first | done | rfl | (simp only [List.length_drop, List.length_take]; rfl)) ?_; (with_reducible refine (quant_Share.calls kj37 (wrap64 ((wrap64 (Int.tdiv t300 2)) + 1)) (wrap64 ((wrap64 (Int.tdiv t301 2)) + 1)) t315 t316 _ A43.out).mono ?_); rintro e w56 ⟨rfl, hb⟩; refine ⟨_, rfl, ?_⟩; have n0_ := Aside0.mk (below_step (by repeat (first | (with_reducible first | exact HB.out | apply below_alloc | apply pw_below_drewN | apply below_drew1) | exact HB.out)) hb); clear HB; have HB := n0_; clear n0_; (try clear hb); (try clear hb2); (try clear hk); (try clear hi)))
                              go_ret
                              exact ⟨by first | rfl | (simp [errW_none, errW_some] <;> rfl) | (simp only [← hji23, ← hji24]; first | rfl | (simp [errW_none, errW_some] <;> rfl)) | (simp [*, errW_none, errW_some] <;> rfl), by repeat (first | (with_reducible first | exact HB.out | apply below_alloc | apply pw_below_drewN | apply below_drew1) | exact HB.out)⟩

/-- THE ONE PURE STATEMENT of drayagelaw01_QuantSums: yours. -/
def drayagelaw01_QuantSums.Pure : Prop := ∀ (l0 : List Int) (a1 : Int) (a2 : Int), l0.length ≤ maxLen → l0.length * 8 ≤ 140737488351232 → (∀ x ∈ l0, (Lit.int .i64 x).wf = true) → (Lit.int .i64 a1).wf = true → (Lit.int .i64 a2).wf = true → ∃ k, drayagelaw01_QuantSums.f k l0 a1 a2 = some true
theorem drayagelaw01_QuantSums.walk (P : drayagelaw01_QuantSums.Pure) (a0 : Option Addr) (len0 cap0 : Nat) (z0 : List Int) (a1 : Int) (a2 : Int) (w : World) (w0 : (a0 = none ∧ len0 = 0 ∧ cap0 = 0 ∧ z0 = []) ∨ ∃ x, a0 = some x ∧ len0 ≤ cap0 ∧ cap0 ≤ maxLen ∧ z0.length = cap0 ∧ (∀ i, i < z0.length → w.cell? (x.add i) = some (.int .i64 (z0.getD i 0))) ∧ ∀ n ∈ z0, (Lit.int .i64 n).wf = true) (y0 : len0 * 8 ≤ 140737488351232) (w1 : (Lit.int .i64 a1).wf = true) (w2 : (Lit.int .i64 a2).wf = true) (hT0 : Tb w) :
    Calls Tryd.prog 8 #[.slice a0 len0 cap0, .int .i64 a1, .int .i64 a2] w fun e w' => e = .returned (.bool true) ∧ Below w.heap.size w w' := by
  obtain ⟨l0, rfl, hr0, hm0, hw0, hc0⟩ := ReadsInt.ofRowC w0
  obtain ⟨k, h⟩ := P l0 a1 a2 hm0 y0 hw0 w1 w2
  refine (drayagelaw01_QuantSums.calls k _ _ l0 a1 a2 true w (Kd.C_of_reads (d := (0 : Int)) (h1 := fun _ => rfl) hr0) hc0 h hT0).mono ?_
  rintro e w' ⟨rfl, hd⟩
  exact ⟨rfl, hd⟩

end Go.Proofs.YtkpoipjgbdcdjaaDoor.P
