import Derived.Test.YtkpoipjgbdcdjaaDoorP0
namespace Go.Proofs.YtkpoipjgbdcdjaaDoor.P
open Go.RowKit Go.Proofs.YtkpoipjgbdcdjaaDoorW.PrintWords Go.Proofs.YtkpoipjgbdcdjaaDoorW.PrintLast Go.Proofs.YtkpoipjgbdcdjaaDoorW.PrintMore
attribute [local go_sem] max2_int min2_int max_two min_two max_three min_three max_four min_four   -- for this text's walks alone
set_option linter.unusedVariables false
set_option linter.unusedSimpArgs false

mutual
def drayageref01_suffix.j0 : Nat → ByteArray → Int → Int → Bool → Option (Int × Int × Int)
 | 0, _, _, _, _ => none
 | k + 1, x0, x1, x8, x9 => if x8 = 109 then (drayageref01_suffix.j5 k x0 x1 1 x8 x9) else (if x8 = 107 then (drayageref01_suffix.j5 k x0 x1 1000000 x8 x9) else (if x8 = 75 then (drayageref01_suffix.j1 k x0 x1 x8 x9 x9) else (drayageref01_suffix.j1 k x0 x1 x8 x9 false)))
def drayageref01_suffix.j5 : Nat → ByteArray → Int → Int → Int → Bool → Option (Int × Int × Int)
 | 0, _, _, _, _, _ => none
 | k + 1, x0, x1, x7, x8, x9 => if x9 = true then (if x8 = 109 then (drayageref01_suffix.j6 k x0 (wrap64 (x1 + 1)) x7 false) else (drayageref01_suffix.j6 k x0 (wrap64 (x1 + 1)) x7 (x8 != 107))) else (drayageref01_suffix.j6 k x0 (wrap64 (x1 + 1)) x7 false)
def drayageref01_suffix.j6 : Nat → ByteArray → Int → Int → Bool → Option (Int × Int × Int)
 | 0, _, _, _, _ => none
 | k + 1, x0, x1, x7, x88 => if x88 = true then (if (wrap64 (x1 + 1)) < (x0.size : Int) then (some (0, wrap64 (x1 + 1), 4)) else (some (x7, wrap64 (x1 + 1), 0))) else (if x1 < (x0.size : Int) then (some (0, x1, 4)) else (some (x7, x1, 0)))
def drayageref01_suffix.j1 : Nat → ByteArray → Int → Int → Bool → Bool → Option (Int × Int × Int)
 | 0, _, _, _, _, _ => none
 | k + 1, x0, x1, x8, x9, x37 => if x37 = true then (drayageref01_suffix.j5 k x0 x1 1024000 x8 x9) else (if x8 = 75 then (drayageref01_suffix.j2 k x0 x1 x8 x9 ((wrap64 (x1 + 1)) == (x0.size : Int))) else (drayageref01_suffix.j2 k x0 x1 x8 x9 false))
def drayageref01_suffix.j2 : Nat → ByteArray → Int → Int → Bool → Bool → Option (Int × Int × Int)
 | 0, _, _, _, _, _ => none
 | k + 1, x0, x1, x8, x9, x43 => if x43 = true then (some (0, wrap64 (x1 + 1), 3)) else (if x8 = 75 then (some (0, wrap64 (x1 + 1), 4)) else (if x8 = 77 then (drayageref01_suffix.j3 k x0 x1 x8 x9 x9) else (drayageref01_suffix.j3 k x0 x1 x8 x9 false)))
def drayageref01_suffix.j3 : Nat → ByteArray → Int → Int → Bool → Bool → Option (Int × Int × Int)
 | 0, _, _, _, _, _ => none
 | k + 1, x0, x1, x8, x9, x60 => if x60 = true then (drayageref01_suffix.j5 k x0 x1 1048576000 x8 x9) else (if x8 = 77 then (drayageref01_suffix.j5 k x0 x1 1000000000 x8 x9) else (if x8 = 71 then (drayageref01_suffix.j4 k x0 x1 x8 x9 x9) else (drayageref01_suffix.j4 k x0 x1 x8 x9 false)))
def drayageref01_suffix.j4 : Nat → ByteArray → Int → Int → Bool → Bool → Option (Int × Int × Int)
 | 0, _, _, _, _, _ => none
 | k + 1, x0, x1, x8, x9, x69 => if x69 = true then (drayageref01_suffix.j5 k x0 x1 1073741824000 x8 x9) else (if x8 = 71 then (drayageref01_suffix.j5 k x0 x1 1000000000000 x8 x9) else (some (0, x1, 4)))
end
def drayageref01_suffix.f (k : Nat) (a0 : ByteArray) (a1 : Int) : Option (Int × Int × Int) := if a1 ≥ (a0.size : Int) then (some (1000, a1, 0)) else (if 0 ≤ a1 then (if a1 < (a0.size : Int) then (if (wrap64 (a1 + 1)) < (a0.size : Int) then (if 0 ≤ (wrap64 (a1 + 1)) then (drayageref01_suffix.j0 k a0 a1 (bt a0 a1) ((bt a0 (wrap64 (a1 + 1))) == 105)) else (none)) else (drayageref01_suffix.j0 k a0 a1 (bt a0 a1) false)) else (none)) else (none))
theorem drayageref01_suffix.mono_l : ∀ k, (∀ y0 y1 y2 y3, LeO (drayageref01_suffix.j0 k y0 y1 y2 y3) (drayageref01_suffix.j0 (k + 1) y0 y1 y2 y3)) ∧ (∀ y0 y1 y2 y3 y4, LeO (drayageref01_suffix.j5 k y0 y1 y2 y3 y4) (drayageref01_suffix.j5 (k + 1) y0 y1 y2 y3 y4)) ∧ (∀ y0 y1 y2 y3, LeO (drayageref01_suffix.j6 k y0 y1 y2 y3) (drayageref01_suffix.j6 (k + 1) y0 y1 y2 y3)) ∧ (∀ y0 y1 y2 y3 y4, LeO (drayageref01_suffix.j1 k y0 y1 y2 y3 y4) (drayageref01_suffix.j1 (k + 1) y0 y1 y2 y3 y4)) ∧ (∀ y0 y1 y2 y3 y4, LeO (drayageref01_suffix.j2 k y0 y1 y2 y3 y4) (drayageref01_suffix.j2 (k + 1) y0 y1 y2 y3 y4)) ∧ (∀ y0 y1 y2 y3 y4, LeO (drayageref01_suffix.j3 k y0 y1 y2 y3 y4) (drayageref01_suffix.j3 (k + 1) y0 y1 y2 y3 y4)) ∧ (∀ y0 y1 y2 y3 y4, LeO (drayageref01_suffix.j4 k y0 y1 y2 y3 y4) (drayageref01_suffix.j4 (k + 1) y0 y1 y2 y3 y4))
 | 0 => ⟨fun _ _ _ _ r h => by simp [drayageref01_suffix.j0] at h, fun _ _ _ _ _ r h => by simp [drayageref01_suffix.j5] at h, fun _ _ _ _ r h => by simp [drayageref01_suffix.j6] at h, fun _ _ _ _ _ r h => by simp [drayageref01_suffix.j1] at h, fun _ _ _ _ _ r h => by simp [drayageref01_suffix.j2] at h, fun _ _ _ _ _ r h => by simp [drayageref01_suffix.j3] at h, fun _ _ _ _ _ r h => by simp [drayageref01_suffix.j4] at h⟩
 | k + 1 => by
  obtain ⟨ih0, ih1, ih2, ih3, ih4, ih5, ih6⟩ := drayageref01_suffix.mono_l k
  refine ⟨?_, ?_, ?_, ?_, ?_, ?_, ?_⟩
  ·intro y0 y1 y2 y3
   unfold drayageref01_suffix.j0
   repeat' first
   | (with_reducible exact ih0 _ _ _ _)
   | (with_reducible exact ih1 _ _ _ _ _)
   | (with_reducible exact ih2 _ _ _ _)
   | (with_reducible exact ih3 _ _ _ _ _)
   | (with_reducible exact ih4 _ _ _ _ _)
   | (with_reducible exact ih5 _ _ _ _ _)
   | (with_reducible exact ih6 _ _ _ _ _)
   | (with_reducible exact LeO.refl _)
   | (with_reducible exact LeO.none _)
   | (with_reducible refine LeO.ite ?_ ?_)
   | (with_reducible refine LeO.bind ?_ (fun _ => ?_))
   | exact ih0 _ _ _ _
   | exact ih1 _ _ _ _ _
   | exact ih2 _ _ _ _
   | exact ih3 _ _ _ _ _
   | exact ih4 _ _ _ _ _
   | exact ih5 _ _ _ _ _
   | exact ih6 _ _ _ _ _
   | exact LeO.none _
   | refine LeO.ite ?_ ?_
   | refine LeO.bind ?_ (fun _ => ?_)
  ·intro y0 y1 y2 y3 y4
   unfold drayageref01_suffix.j5
   repeat' first
   | (with_reducible exact ih0 _ _ _ _)
   | (with_reducible exact ih1 _ _ _ _ _)
   | (with_reducible exact ih2 _ _ _ _)
   | (with_reducible exact ih3 _ _ _ _ _)
   | (with_reducible exact ih4 _ _ _ _ _)
   | (with_reducible exact ih5 _ _ _ _ _)
   | (with_reducible exact ih6 _ _ _ _ _)
   | (with_reducible exact LeO.refl _)
   | (with_reducible exact LeO.none _)
   | (with_reducible refine LeO.ite ?_ ?_)
   | (with_reducible refine LeO.bind ?_ (fun _ => ?_))
   | exact ih0 _ _ _ _
   | exact ih1 _ _ _ _ _
   | exact ih2 _ _ _ _
   | exact ih3 _ _ _ _ _
   | exact ih4 _ _ _ _ _
   | exact ih5 _ _ _ _ _
   | exact ih6 _ _ _ _ _
   | exact LeO.none _
   | refine LeO.ite ?_ ?_
   | refine LeO.bind ?_ (fun _ => ?_)
  ·intro y0 y1 y2 y3
   unfold drayageref01_suffix.j6
   repeat' first
   | (with_reducible exact ih0 _ _ _ _)
   | (with_reducible exact ih1 _ _ _ _ _)
   | (with_reducible exact ih2 _ _ _ _)
   | (with_reducible exact ih3 _ _ _ _ _)
   | (with_reducible exact ih4 _ _ _ _ _)
   | (with_reducible exact ih5 _ _ _ _ _)
   | (with_reducible exact ih6 _ _ _ _ _)
   | (with_reducible exact LeO.refl _)
   | (with_reducible exact LeO.none _)
   | (with_reducible refine LeO.ite ?_ ?_)
   | (with_reducible refine LeO.bind ?_ (fun _ => ?_))
   | exact ih0 _ _ _ _
   | exact ih1 _ _ _ _ _
   | exact ih2 _ _ _ _
   | exact ih3 _ _ _ _ _
   | exact ih4 _ _ _ _ _
   | exact ih5 _ _ _ _ _
   | exact ih6 _ _ _ _ _
   | exact LeO.none _
   | refine LeO.ite ?_ ?_
   | refine LeO.bind ?_ (fun _ => ?_)
  ·intro y0 y1 y2 y3 y4
   unfold drayageref01_suffix.j1
   repeat' first
   | (with_reducible exact ih0 _ _ _ _)
   | (with_reducible exact ih1 _ _ _ _ _)
   | (with_reducible exact ih2 _ _ _ _)
   | (with_reducible exact ih3 _ _ _ _ _)
   | (with_reducible exact ih4 _ _ _ _ _)
   | (with_reducible exact ih5 _ _ _ _ _)
   | (with_reducible exact ih6 _ _ _ _ _)
   | (with_reducible exact LeO.refl _)
   | (with_reducible exact LeO.none _)
   | (with_reducible refine LeO.ite ?_ ?_)
   | (with_reducible refine LeO.bind ?_ (fun _ => ?_))
   | exact ih0 _ _ _ _
   | exact ih1 _ _ _ _ _
   | exact ih2 _ _ _ _
   | exact ih3 _ _ _ _ _
   | exact ih4 _ _ _ _ _
   | exact ih5 _ _ _ _ _
   | exact ih6 _ _ _ _ _
   | exact LeO.none _
   | refine LeO.ite ?_ ?_
   | refine LeO.bind ?_ (fun _ => ?_)
  ·intro y0 y1 y2 y3 y4
   unfold drayageref01_suffix.j2
   repeat' first
   | (with_reducible exact ih0 _ _ _ _)
   | (with_reducible exact ih1 _ _ _ _ _)
   | (with_reducible exact ih2 _ _ _ _)
   | (with_reducible exact ih3 _ _ _ _ _)
   | (with_reducible exact ih4 _ _ _ _ _)
   | (with_reducible exact ih5 _ _ _ _ _)
   | (with_reducible exact ih6 _ _ _ _ _)
   | (with_reducible exact LeO.refl _)
   | (with_reducible exact LeO.none _)
   | (with_reducible refine LeO.ite ?_ ?_)
   | (with_reducible refine LeO.bind ?_ (fun _ => ?_))
   | exact ih0 _ _ _ _
   | exact ih1 _ _ _ _ _
   | exact ih2 _ _ _ _
   | exact ih3 _ _ _ _ _
   | exact ih4 _ _ _ _ _
   | exact ih5 _ _ _ _ _
   | exact ih6 _ _ _ _ _
   | exact LeO.none _
   | refine LeO.ite ?_ ?_
   | refine LeO.bind ?_ (fun _ => ?_)
  ·intro y0 y1 y2 y3 y4
   unfold drayageref01_suffix.j3
   repeat' first
   | (with_reducible exact ih0 _ _ _ _)
   | (with_reducible exact ih1 _ _ _ _ _)
   | (with_reducible exact ih2 _ _ _ _)
   | (with_reducible exact ih3 _ _ _ _ _)
   | (with_reducible exact ih4 _ _ _ _ _)
   | (with_reducible exact ih5 _ _ _ _ _)
   | (with_reducible exact ih6 _ _ _ _ _)
   | (with_reducible exact LeO.refl _)
   | (with_reducible exact LeO.none _)
   | (with_reducible refine LeO.ite ?_ ?_)
   | (with_reducible refine LeO.bind ?_ (fun _ => ?_))
   | exact ih0 _ _ _ _
   | exact ih1 _ _ _ _ _
   | exact ih2 _ _ _ _
   | exact ih3 _ _ _ _ _
   | exact ih4 _ _ _ _ _
   | exact ih5 _ _ _ _ _
   | exact ih6 _ _ _ _ _
   | exact LeO.none _
   | refine LeO.ite ?_ ?_
   | refine LeO.bind ?_ (fun _ => ?_)
  ·intro y0 y1 y2 y3 y4
   unfold drayageref01_suffix.j4
   repeat' first
   | (with_reducible exact ih0 _ _ _ _)
   | (with_reducible exact ih1 _ _ _ _ _)
   | (with_reducible exact ih2 _ _ _ _)
   | (with_reducible exact ih3 _ _ _ _ _)
   | (with_reducible exact ih4 _ _ _ _ _)
   | (with_reducible exact ih5 _ _ _ _ _)
   | (with_reducible exact ih6 _ _ _ _ _)
   | (with_reducible exact LeO.refl _)
   | (with_reducible exact LeO.none _)
   | (with_reducible refine LeO.ite ?_ ?_)
   | (with_reducible refine LeO.bind ?_ (fun _ => ?_))
   | exact ih0 _ _ _ _
   | exact ih1 _ _ _ _ _
   | exact ih2 _ _ _ _
   | exact ih3 _ _ _ _ _
   | exact ih4 _ _ _ _ _
   | exact ih5 _ _ _ _ _
   | exact ih6 _ _ _ _ _
   | exact LeO.none _
   | refine LeO.ite ?_ ?_
   | refine LeO.bind ?_ (fun _ => ?_)
theorem drayageref01_suffix.mono : ∀ a0 a1 k, LeO (drayageref01_suffix.f k a0 a1) (drayageref01_suffix.f (k + 1) a0 a1) := by
 intro a0 a1 k
 obtain ⟨ih0, ih1, ih2, ih3, ih4, ih5, ih6⟩ := drayageref01_suffix.mono_l k
 unfold drayageref01_suffix.f
 repeat' first
   | (with_reducible exact ih0 _ _ _ _)
   | (with_reducible exact ih1 _ _ _ _ _)
   | (with_reducible exact ih2 _ _ _ _)
   | (with_reducible exact ih3 _ _ _ _ _)
   | (with_reducible exact ih4 _ _ _ _ _)
   | (with_reducible exact ih5 _ _ _ _ _)
   | (with_reducible exact ih6 _ _ _ _ _)
   | (with_reducible exact LeO.refl _)
   | (with_reducible exact LeO.none _)
   | (with_reducible refine LeO.ite ?_ ?_)
   | (with_reducible refine LeO.bind ?_ (fun _ => ?_))
   | exact ih0 _ _ _ _
   | exact ih1 _ _ _ _ _
   | exact ih2 _ _ _ _
   | exact ih3 _ _ _ _ _
   | exact ih4 _ _ _ _ _
   | exact ih5 _ _ _ _ _
   | exact ih6 _ _ _ _ _
   | exact LeO.none _
   | refine LeO.ite ?_ ?_
   | refine LeO.bind ?_ (fun _ => ?_)
set_option maxHeartbeats 8000000 in
set_option maxRecDepth 100000 in
theorem drayageref01_suffix.calls (k : Nat) (a0 : ByteArray) (a1 : Int) (r1 : Int) (r2 : Int) (r3 : Int) (w : World) (h : drayageref01_suffix.f k a0 a1 = some (r1, r2, r3)) :
  Calls Tryd.prog 46 #[.string a0, .int .i64 a1] w fun e w' => e = .returned (.tuple #[.int .i64 r1, .int .i64 r2, .int .i64 r3]) ∧ Drawn0 w w' := by
 have H : (if a1 ≥ (a0.size : Int) then (some (1000, a1, 0)) else (if 0 ≤ a1 then (if a1 < (a0.size : Int) then (if (wrap64 (a1 + 1)) < (a0.size : Int) then (if 0 ≤ (wrap64 (a1 + 1)) then (drayageref01_suffix.j0 k a0 a1 (bt a0 a1) ((bt a0 (wrap64 (a1 + 1))) == 105)) else (none)) else (drayageref01_suffix.j0 k a0 a1 (bt a0 a1) false)) else (none)) else (none))) = some (r1, r2, r3) := h
 clear h
 by_cases c3 : a1 ≥ (a0.size : Int)
 ·rw [if_pos c3] at H
  have c3b0 : decide ((a0.size : Int) ≤ a1) = true := decide_eq_true c3
  clear c3
  simp only [Option.some.injEq, Prod.mk.injEq] at H
  obtain ⟨rfl, rfl, rfl⟩ := H
  go_enter Tryd.func46, Tryd.ntmps46
  go_wp2
  go_ret3
  exact ⟨by first | rfl | (simp; done) | (simp [*]; done), by repeat (first | exact Drawn0.refl _ | apply Drawn0.step)⟩
 ·rw [if_neg c3] at H
  have c3b0 : decide ((a0.size : Int) ≤ a1) = false := decide_eq_false c3
  clear c3
  by_cases c4 : 0 ≤ a1
  ·rw [if_pos c4] at H
   have c4b0 : decide (0 ≤ a1) = true := decide_eq_true c4
   clear c4
   by_cases c5 : a1 < (a0.size : Int)
   ·rw [if_pos c5] at H
    have c5b0 : decide (a1 < (a0.size : Int)) = true := decide_eq_true c5
    clear c5
    have HC7 := Aside0.mk H
    clear H
    have p6 : 0 ≤ (a1 : Int) := of_decide_eq_true (by first | (with_reducible assumption) | assumption)
    have q6 : a1 < (a0.size : Int) := of_decide_eq_true (by first | (with_reducible assumption) | assumption)
    have hx6 := bt_at a0 a1
    replace p6 := eq_true p6
    replace q6 := eq_true q6
    go_enter Tryd.func46, Tryd.ntmps46
    go_upto_region 5 with (fail)
    go_cut [9] (fun v9 wc => ∃ (kq : Nat) (x9_6 : Bool), v9 = .bool x9_6 ∧ Aside0 (drayageref01_suffix.j0 kq a0 a1 (bt a0 a1) x9_6 = some (r1, r2, r3)) ∧ Aside0 (kq ≤ k) ∧ Drawn0 w wc)
    case first =>
     have H := HC7.out
     clear HC7
     by_cases c8 : (wrap64 (a1 + 1)) < (a0.size : Int)
     ·rw [if_pos c8] at H
      have c8b0 : decide ((wrap64 (a1 + 1)) < (a0.size : Int)) = true := decide_eq_true c8
      clear c8
      (first | rw [c8b0] | (simp only [i64_w, i32_w]; rw [c8b0]) | skip)
      obtain ⟨ji9, hji9⟩ : ∃ j_ : Int, (wrap64 (a1 + 1)) = j_ := ⟨_, rfl⟩
      replace H : (if 0 ≤ (ji9) then (drayageref01_suffix.j0 k a0 a1 (bt a0 a1) ((bt a0 (ji9)) == 105)) else (none)) = some (r1, r2, r3) := by first | (rw [hji9] at H; exact H) | (simp only [hji9] at H ⊢; exact H)
      (try rw [hji9] at c8b0)
      have hji9w : (IntKind.i64.wrap (a1 + 1)) = ji9 := (i64_w _).trans hji9
      by_cases c10 : 0 ≤ (ji9)
      ·rw [if_pos c10] at H
       have c10b0 : decide (0 ≤ (ji9)) = true := decide_eq_true c10
       clear c10
       have H' := Aside0.mk H
       clear H
       have p11 : 0 ≤ ((ji9) : Int) := of_decide_eq_true (by first | (with_reducible assumption) | assumption)
       have q11 : (ji9) < (a0.size : Int) := of_decide_eq_true (by first | (with_reducible assumption) | assumption)
       have hx11 := bt_at a0 (ji9)
       replace p11 := eq_true p11
       replace q11 := eq_true q11
       go_wp2
       go_meet
       case rel => exact ⟨_, (((bt a0 (ji9)) == 105)), (by first | rfl | (simp; done) | (simp only [← hji9] <;> (first | rfl | simp)) | (simp [*]; done)), H', ⟨by first | omega | exact Nat.le_refl _⟩, by repeat (first | exact Drawn0.refl _ | apply Drawn0.step)⟩
      ·rw [if_neg c10] at H
       exact absurd H (by simp)
     ·rw [if_neg c8] at H
      have c8b0 : decide ((wrap64 (a1 + 1)) < (a0.size : Int)) = false := decide_eq_false c8
      clear c8
      (first | rw [c8b0] | (simp only [i64_w, i32_w]; rw [c8b0]) | skip)
      have H' := Aside0.mk H
      clear H
      go_wp2
      go_meet
      case rel => exact ⟨_, (false), fs_, H', ⟨by first | omega | exact Nat.le_refl _⟩, by repeat (first | exact Drawn0.refl _ | apply Drawn0.step)⟩
    case rest =>
     clear HC7
     (try clear c1); (try clear p1); (try clear q1); (try clear hx1); (try clear p2); (try clear c3); (try clear c3b0); (try clear c4); (try clear c4b0); (try clear c5); (try clear c5b0); (try clear p6); (try clear q6); (try clear hx6); (try clear c8); (try clear c8b0); (try clear c10); (try clear c10b0); (try clear p11); (try clear q11); (try clear hx11); (try clear p11); (try clear p6); (try clear q11); (try clear q6)
     obtain ⟨kq, x9_6, rfl, HA, HJ6, ⟨mc6, rfl⟩⟩ := hcut
     cases kq with
     | zero => exact absurd HA.out (by simp [drayageref01_suffix.j0])
     | succ kj6 =>
      have H := HA.out
      clear HA
      simp only [drayageref01_suffix.j0] at H
      have HC12 := Aside0.mk H
      clear H
      go_upto_block 0 with (fail)
      go_cut [7] (fun v7 wc => ∃ (kq : Nat) (x7_11 : Int), v7 = .int .i64 x7_11 ∧ Aside0 (drayageref01_suffix.j5 kq a0 a1 x7_11 (bt a0 a1) x9_6 = some (r1, r2, r3)) ∧ Aside0 (kq ≤ kj6) ∧ Drawn0 w wc)
      case first =>
       have H := HC12.out
       clear HC12
       by_cases c13 : (bt a0 a1) = 109
       ·rw [if_pos c13] at H
        have c13b0 : ((bt a0 a1) == 109) = true := beq_iff_eq.mpr c13
        have c13b1 : ((bt a0 a1) != 109) = false := bne_eq_false_iff_eq.mpr c13
        clear c13
        (first | rw [c13b0] | (simp only [i64_w, i32_w]; rw [c13b0]) | skip)
        have H' := Aside0.mk H
        clear H
        go_wp2
        go_meet
        case rel => exact ⟨_, (1), fs_, H', ⟨by have := HJ6.out; first | omega | exact Nat.le_refl _⟩, by repeat (first | exact Drawn0.refl _ | apply Drawn0.step)⟩
       ·rw [if_neg c13] at H
        have c13b0 : ((bt a0 a1) == 109) = false := beq_eq_false_iff_ne.mpr c13
        have c13b1 : ((bt a0 a1) != 109) = true := bne_iff_ne.mpr c13
        (first | rw [c13b0] | (simp only [i64_w, i32_w]; rw [c13b0]) | skip)
        by_cases c14 : (bt a0 a1) = 107
        ·rw [if_pos c14] at H
         have c14b0 : ((bt a0 a1) == 107) = true := beq_iff_eq.mpr c14
         have c14b1 : ((bt a0 a1) != 107) = false := bne_eq_false_iff_eq.mpr c14
         clear c14
         have H' := Aside0.mk H
         clear H
         go_wp2
         go_meet
         case rel => exact ⟨_, (1000000), fs_, H', ⟨by have := HJ6.out; first | omega | exact Nat.le_refl _⟩, by repeat (first | exact Drawn0.refl _ | apply Drawn0.step)⟩
        ·rw [if_neg c14] at H
         have c14b0 : ((bt a0 a1) == 107) = false := beq_eq_false_iff_ne.mpr c14
         have c14b1 : ((bt a0 a1) != 107) = true := bne_iff_ne.mpr c14
         have HC15 := Aside0.mk H
         clear H
         go_upto_region 11 with (fail)
         go_cut [37] (fun v37 wc => ∃ (kq : Nat) (x37_14 : Bool), v37 = .bool x37_14 ∧ Aside0 (drayageref01_suffix.j1 kq a0 a1 (bt a0 a1) x9_6 x37_14 = some (r1, r2, r3)) ∧ Aside0 (kq ≤ kj6) ∧ Drawn0 w wc)
         case first =>
          have H := HC15.out
          clear HC15
          by_cases c16 : (bt a0 a1) = 75
          ·rw [if_pos c16] at H
           have c16b0 : ((bt a0 a1) == 75) = true := beq_iff_eq.mpr c16
           have c16b1 : ((bt a0 a1) != 75) = false := bne_eq_false_iff_eq.mpr c16
           clear c16
           (first | rw [c16b0] | (simp only [i64_w, i32_w]; rw [c16b0]) | skip)
           have H' := Aside0.mk H
           clear H
           go_wp2
           go_meet
           case rel => exact ⟨_, (x9_6), fs_, H', ⟨by have := HJ6.out; first | omega | exact Nat.le_refl _⟩, by repeat (first | exact Drawn0.refl _ | apply Drawn0.step)⟩
          ·rw [if_neg c16] at H
           have c16b0 : ((bt a0 a1) == 75) = false := beq_eq_false_iff_ne.mpr c16
           have c16b1 : ((bt a0 a1) != 75) = true := bne_iff_ne.mpr c16
           (first | rw [c16b0] | (simp only [i64_w, i32_w]; rw [c16b0]) | skip)
           have H' := Aside0.mk H
           clear H
           go_wp2
           go_meet
           case rel => exact ⟨_, (false), fs_, H', ⟨by have := HJ6.out; first | omega | exact Nat.le_refl _⟩, by repeat (first | exact Drawn0.refl _ | apply Drawn0.step)⟩
         case rest =>
          clear HC15
          (try clear c1); (try clear p1); (try clear q1); (try clear hx1); (try clear p2); (try clear c3); (try clear c3b0); (try clear c4); (try clear c4b0); (try clear c5); (try clear c5b0); (try clear c6); (try clear p6); (try clear q6); (try clear hx6); (try clear c8); (try clear c8b0); (try clear c10); (try clear c10b0); (try clear p11); (try clear q11); (try clear hx11); (try clear c13); (try clear c13b0); (try clear c13b1); (try clear c14); (try clear c14b0); (try clear c14b1); (try clear c16); (try clear c16b0); (try clear c16b1); (try clear p1); (try clear p11); (try clear p2); (try clear p6); (try clear q1); (try clear q11); (try clear q6)
          obtain ⟨kq, x37_14, rfl, HA, HJ14, ⟨mc14, rfl⟩⟩ := hcut
          cases kq with
          | zero => exact absurd HA.out (by simp [drayageref01_suffix.j1])
          | succ kj14 =>
           have H := HA.out
           clear HA
           simp only [drayageref01_suffix.j1] at H
           by_cases c17 : x37_14 = true
           ·subst c17
            rw [if_pos rfl] at H
            have H' := Aside0.mk H
            clear H
            go_wp2
            go_meet
            case rel => exact ⟨_, (1024000), fs_, H', ⟨by have := HJ6.out; have := HJ14.out; first | omega | exact Nat.le_refl _⟩, by repeat (first | exact Drawn0.refl _ | apply Drawn0.step)⟩
           ·replace c17 := Bool.eq_false_iff.mpr c17
            subst c17
            have H1 : (if (bt a0 a1) = 75 then (drayageref01_suffix.j2 kj14 a0 a1 (bt a0 a1) x9_6 ((wrap64 (a1 + 1)) == (a0.size : Int))) else (drayageref01_suffix.j2 kj14 a0 a1 (bt a0 a1) x9_6 false)) = some (r1, r2, r3) := by rw [if_neg (show ¬ (false = true) by decide)] at H; exact H
            clear H
            have H := H1
            clear H1
            have HC18 := Aside0.mk H
            clear H
            go_upto_region 13 with (fail)
            go_cut [43] (fun v43 wc => ∃ (kq : Nat) (x43_17 : Bool), v43 = .bool x43_17 ∧ Aside0 (drayageref01_suffix.j2 kq a0 a1 (bt a0 a1) x9_6 x43_17 = some (r1, r2, r3)) ∧ Aside0 (kq ≤ kj14) ∧ Drawn0 w wc)
            case first =>
             have H := HC18.out
             clear HC18
             by_cases c19 : (bt a0 a1) = 75
             ·rw [if_pos c19] at H
              have c19b0 : ((bt a0 a1) == 75) = true := beq_iff_eq.mpr c19
              have c19b1 : ((bt a0 a1) != 75) = false := bne_eq_false_iff_eq.mpr c19
              clear c19
              (first | rw [c19b0] | (simp only [i64_w, i32_w]; rw [c19b0]) | skip)
              have H' := Aside0.mk H
              clear H
              go_wp2
              go_meet
              case rel => exact ⟨_, (((wrap64 (a1 + 1)) == (a0.size : Int))), fs_, H', ⟨by have := HJ6.out; have := HJ14.out; first | omega | exact Nat.le_refl _⟩, by repeat (first | exact Drawn0.refl _ | apply Drawn0.step)⟩
             ·rw [if_neg c19] at H
              have c19b0 : ((bt a0 a1) == 75) = false := beq_eq_false_iff_ne.mpr c19
              have c19b1 : ((bt a0 a1) != 75) = true := bne_iff_ne.mpr c19
              (first | rw [c19b0] | (simp only [i64_w, i32_w]; rw [c19b0]) | skip)
              have H' := Aside0.mk H
              clear H
              go_wp2
              go_meet
              case rel => exact ⟨_, (false), fs_, H', ⟨by have := HJ6.out; have := HJ14.out; first | omega | exact Nat.le_refl _⟩, by repeat (first | exact Drawn0.refl _ | apply Drawn0.step)⟩
            case rest =>
             clear HC18
             (try clear c1); (try clear p1); (try clear q1); (try clear hx1); (try clear p2); (try clear c3); (try clear c3b0); (try clear c4); (try clear c4b0); (try clear c5); (try clear c5b0); (try clear c6); (try clear p6); (try clear q6); (try clear hx6); (try clear c8); (try clear c8b0); (try clear c10); (try clear c10b0); (try clear p11); (try clear q11); (try clear hx11); (try clear c13); (try clear c13b0); (try clear c13b1); (try clear c14); (try clear c14b0); (try clear c14b1); (try clear c16); (try clear c16b0); (try clear c16b1); (try clear c17); (try clear c19); (try clear c19b0); (try clear c19b1); (try clear p1); (try clear p11); (try clear p2); (try clear p6); (try clear q1); (try clear q11); (try clear q6)
             obtain ⟨kq, x43_17, rfl, HA, HJ17, ⟨mc17, rfl⟩⟩ := hcut
             cases kq with
             | zero => exact absurd HA.out (by simp [drayageref01_suffix.j2])
             | succ kj17 =>
              have H := HA.out
              clear HA
              simp only [drayageref01_suffix.j2] at H
              by_cases c20 : x43_17 = true
              ·subst c20
               rw [if_pos rfl] at H
               simp only [Option.some.injEq, Prod.mk.injEq] at H
               obtain ⟨rfl, rfl, rfl⟩ := H
               go_wp2
               go_ret3
               exact ⟨by first | rfl | (simp; done) | (simp [*]; done), by repeat (first | exact Drawn0.refl _ | apply Drawn0.step)⟩
              ·replace c20 := Bool.eq_false_iff.mpr c20
               subst c20
               have H1 : (if (bt a0 a1) = 75 then (some (0, wrap64 (a1 + 1), 4)) else (if (bt a0 a1) = 77 then (drayageref01_suffix.j3 kj17 a0 a1 (bt a0 a1) x9_6 x9_6) else (drayageref01_suffix.j3 kj17 a0 a1 (bt a0 a1) x9_6 false))) = some (r1, r2, r3) := by rw [if_neg (show ¬ (false = true) by decide)] at H; exact H
               clear H
               have H := H1
               clear H1
               by_cases c21 : (bt a0 a1) = 75
               ·rw [if_pos c21] at H
                have c21b0 : ((bt a0 a1) == 75) = true := beq_iff_eq.mpr c21
                have c21b1 : ((bt a0 a1) != 75) = false := bne_eq_false_iff_eq.mpr c21
                clear c21
                simp only [Option.some.injEq, Prod.mk.injEq] at H
                obtain ⟨rfl, rfl, rfl⟩ := H
                go_wp2
                go_ret3
                exact ⟨by first | rfl | (simp; done) | (simp [*]; done), by repeat (first | exact Drawn0.refl _ | apply Drawn0.step)⟩
               ·rw [if_neg c21] at H
                have c21b0 : ((bt a0 a1) == 75) = false := beq_eq_false_iff_ne.mpr c21
                have c21b1 : ((bt a0 a1) != 75) = true := bne_iff_ne.mpr c21
                have HC22 := Aside0.mk H
                clear H
                go_upto_region 17 with (fail)
                go_cut [60] (fun v60 wc => ∃ (kq : Nat) (x60_21 : Bool), v60 = .bool x60_21 ∧ Aside0 (drayageref01_suffix.j3 kq a0 a1 (bt a0 a1) x9_6 x60_21 = some (r1, r2, r3)) ∧ Aside0 (kq ≤ kj17) ∧ Drawn0 w wc)
                case first =>
                 have H := HC22.out
                 clear HC22
                 by_cases c23 : (bt a0 a1) = 77
                 ·rw [if_pos c23] at H
                  have c23b0 : ((bt a0 a1) == 77) = true := beq_iff_eq.mpr c23
                  have c23b1 : ((bt a0 a1) != 77) = false := bne_eq_false_iff_eq.mpr c23
                  clear c23
                  (first | rw [c23b0] | (simp only [i64_w, i32_w]; rw [c23b0]) | skip)
                  have H' := Aside0.mk H
                  clear H
                  go_wp2
                  go_meet
                  case rel => exact ⟨_, (x9_6), fs_, H', ⟨by have := HJ6.out; have := HJ14.out; have := HJ17.out; first | omega | exact Nat.le_refl _⟩, by repeat (first | exact Drawn0.refl _ | apply Drawn0.step)⟩
                 ·rw [if_neg c23] at H
                  have c23b0 : ((bt a0 a1) == 77) = false := beq_eq_false_iff_ne.mpr c23
                  have c23b1 : ((bt a0 a1) != 77) = true := bne_iff_ne.mpr c23
                  (first | rw [c23b0] | (simp only [i64_w, i32_w]; rw [c23b0]) | skip)
                  have H' := Aside0.mk H
                  clear H
                  go_wp2
                  go_meet
                  case rel => exact ⟨_, (false), fs_, H', ⟨by have := HJ6.out; have := HJ14.out; have := HJ17.out; first | omega | exact Nat.le_refl _⟩, by repeat (first | exact Drawn0.refl _ | apply Drawn0.step)⟩
                case rest =>
                 clear HC22
                 (try clear c1); (try clear p1); (try clear q1); (try clear hx1); (try clear c2); (try clear p2); (try clear c3); (try clear c3b0); (try clear c4); (try clear c4b0); (try clear c5); (try clear c5b0); (try clear c6); (try clear p6); (try clear q6); (try clear hx6); (try clear c8); (try clear c8b0); (try clear c10); (try clear c10b0); (try clear p11); (try clear q11); (try clear hx11); (try clear c13); (try clear c13b0); (try clear c13b1); (try clear c14); (try clear c14b0); (try clear c14b1); (try clear c16); (try clear c16b0); (try clear c16b1); (try clear c17); (try clear c19); (try clear c19b0); (try clear c19b1); (try clear c20); (try clear c21); (try clear c21b0); (try clear c21b1); (try clear c23); (try clear c23b0); (try clear c23b1); (try clear p1); (try clear p11); (try clear p2); (try clear p6); (try clear q1); (try clear q11); (try clear q6)
                 obtain ⟨kq, x60_21, rfl, HA, HJ21, ⟨mc21, rfl⟩⟩ := hcut
                 cases kq with
                 | zero => exact absurd HA.out (by simp [drayageref01_suffix.j3])
                 | succ kj21 =>
                  have H := HA.out
                  clear HA
                  simp only [drayageref01_suffix.j3] at H
                  by_cases c24 : x60_21 = true
                  ·subst c24
                   rw [if_pos rfl] at H
                   have H' := Aside0.mk H
                   clear H
                   go_wp2
                   go_meet
                   case rel => exact ⟨_, (1048576000), fs_, H', ⟨by have := HJ6.out; have := HJ14.out; have := HJ17.out; have := HJ21.out; first | omega | exact Nat.le_refl _⟩, by repeat (first | exact Drawn0.refl _ | apply Drawn0.step)⟩
                  ·replace c24 := Bool.eq_false_iff.mpr c24
                   subst c24
                   have H1 : (if (bt a0 a1) = 77 then (drayageref01_suffix.j5 kj21 a0 a1 1000000000 (bt a0 a1) x9_6) else (if (bt a0 a1) = 71 then (drayageref01_suffix.j4 kj21 a0 a1 (bt a0 a1) x9_6 x9_6) else (drayageref01_suffix.j4 kj21 a0 a1 (bt a0 a1) x9_6 false))) = some (r1, r2, r3) := by rw [if_neg (show ¬ (false = true) by decide)] at H; exact H
                   clear H
                   have H := H1
                   clear H1
                   by_cases c25 : (bt a0 a1) = 77
                   ·rw [if_pos c25] at H
                    have c25b0 : ((bt a0 a1) == 77) = true := beq_iff_eq.mpr c25
                    have c25b1 : ((bt a0 a1) != 77) = false := bne_eq_false_iff_eq.mpr c25
                    clear c25
                    have H' := Aside0.mk H
                    clear H
                    go_wp2
                    go_meet
                    case rel => exact ⟨_, (1000000000), fs_, H', ⟨by have := HJ6.out; have := HJ14.out; have := HJ17.out; have := HJ21.out; first | omega | exact Nat.le_refl _⟩, by repeat (first | exact Drawn0.refl _ | apply Drawn0.step)⟩
                   ·rw [if_neg c25] at H
                    have c25b0 : ((bt a0 a1) == 77) = false := beq_eq_false_iff_ne.mpr c25
                    have c25b1 : ((bt a0 a1) != 77) = true := bne_iff_ne.mpr c25
                    have HC26 := Aside0.mk H
                    clear H
                    go_upto_region 21 with (fail)
                    go_cut [69] (fun v69 wc => ∃ (kq : Nat) (x69_25 : Bool), v69 = .bool x69_25 ∧ Aside0 (drayageref01_suffix.j4 kq a0 a1 (bt a0 a1) x9_6 x69_25 = some (r1, r2, r3)) ∧ Aside0 (kq ≤ kj21) ∧ Drawn0 w wc)
                    case first =>
                     have H := HC26.out
                     clear HC26
                     by_cases c27 : (bt a0 a1) = 71
                     ·rw [if_pos c27] at H
                      have c27b0 : ((bt a0 a1) == 71) = true := beq_iff_eq.mpr c27
                      have c27b1 : ((bt a0 a1) != 71) = false := bne_eq_false_iff_eq.mpr c27
                      clear c27
                      (first | rw [c27b0] | (simp only [i64_w, i32_w]; rw [c27b0]) | skip)
                      have H' := Aside0.mk H
                      clear H
                      go_wp2
                      go_meet
                      case rel => exact ⟨_, (x9_6), fs_, H', ⟨by have := HJ6.out; have := HJ14.out; have := HJ17.out; have := HJ21.out; first | omega | exact Nat.le_refl _⟩, by repeat (first | exact Drawn0.refl _ | apply Drawn0.step)⟩
                     ·rw [if_neg c27] at H
                      have c27b0 : ((bt a0 a1) == 71) = false := beq_eq_false_iff_ne.mpr c27
                      have c27b1 : ((bt a0 a1) != 71) = true := bne_iff_ne.mpr c27
                      (first | rw [c27b0] | (simp only [i64_w, i32_w]; rw [c27b0]) | skip)
                      have H' := Aside0.mk H
                      clear H
                      go_wp2
                      go_meet
                      case rel => exact ⟨_, (false), fs_, H', ⟨by have := HJ6.out; have := HJ14.out; have := HJ17.out; have := HJ21.out; first | omega | exact Nat.le_refl _⟩, by repeat (first | exact Drawn0.refl _ | apply Drawn0.step)⟩
                    case rest =>
                     clear HC26
                     (try clear c1); (try clear p1); (try clear q1); (try clear hx1); (try clear c2); (try clear p2); (try clear c3); (try clear c3b0); (try clear c4); (try clear c4b0); (try clear c5); (try clear c5b0); (try clear c6); (try clear p6); (try clear q6); (try clear hx6); (try clear c8); (try clear c8b0); (try clear c10); (try clear c10b0); (try clear p11); (try clear q11); (try clear hx11); (try clear c13); (try clear c13b0); (try clear c13b1); (try clear c14); (try clear c14b0); (try clear c14b1); (try clear c16); (try clear c16b0); (try clear c16b1); (try clear c17); (try clear c19); (try clear c19b0); (try clear c19b1); (try clear c20); (try clear c21); (try clear c21b0); (try clear c21b1); (try clear c23); (try clear c23b0); (try clear c23b1); (try clear c24); (try clear c25); (try clear c25b0); (try clear c25b1); (try clear c27); (try clear c27b0); (try clear c27b1)
                     (try clear p1); (try clear p11); (try clear p2); (try clear p6); (try clear q1); (try clear q11); (try clear q6)
                     obtain ⟨kq, x69_25, rfl, HA, HJ25, ⟨mc25, rfl⟩⟩ := hcut
                     cases kq with
                     | zero => exact absurd HA.out (by simp [drayageref01_suffix.j4])
                     | succ kj25 =>
                      have H := HA.out
                      clear HA
                      simp only [drayageref01_suffix.j4] at H
                      by_cases c28 : x69_25 = true
                      ·subst c28
                       rw [if_pos rfl] at H
                       have H' := Aside0.mk H
                       clear H
                       go_wp2
                       go_meet
                       case rel => exact ⟨_, (1073741824000), fs_, H', ⟨by have := HJ6.out; have := HJ14.out; have := HJ17.out; have := HJ21.out; have := HJ25.out; first | omega | exact Nat.le_refl _⟩, by repeat (first | exact Drawn0.refl _ | apply Drawn0.step)⟩
                      ·replace c28 := Bool.eq_false_iff.mpr c28
                       subst c28
                       have H1 : (if (bt a0 a1) = 71 then (drayageref01_suffix.j5 kj25 a0 a1 1000000000000 (bt a0 a1) x9_6) else (some (0, a1, 4))) = some (r1, r2, r3) := by rw [if_neg (show ¬ (false = true) by decide)] at H; exact H
                       clear H
                       have H := H1
                       clear H1
                       by_cases c29 : (bt a0 a1) = 71
                       ·rw [if_pos c29] at H
                        have c29b0 : ((bt a0 a1) == 71) = true := beq_iff_eq.mpr c29
                        have c29b1 : ((bt a0 a1) != 71) = false := bne_eq_false_iff_eq.mpr c29
                        clear c29
                        have H' := Aside0.mk H
                        clear H
                        go_wp2
                        go_meet
                        case rel => exact ⟨_, (1000000000000), fs_, H', ⟨by have := HJ6.out; have := HJ14.out; have := HJ17.out; have := HJ21.out; have := HJ25.out; first | omega | exact Nat.le_refl _⟩, by repeat (first | exact Drawn0.refl _ | apply Drawn0.step)⟩
                       ·rw [if_neg c29] at H
                        have c29b0 : ((bt a0 a1) == 71) = false := beq_eq_false_iff_ne.mpr c29
                        have c29b1 : ((bt a0 a1) != 71) = true := bne_iff_ne.mpr c29
                        simp only [Option.some.injEq, Prod.mk.injEq] at H
                        obtain ⟨rfl, rfl, rfl⟩ := H
                        go_wp2
                        go_ret3
                        exact ⟨by first | rfl | (simp; done) | (simp [*]; done), by repeat (first | exact Drawn0.refl _ | apply Drawn0.step)⟩
      case rest =>
       clear HC12
       (try clear c1); (try clear p1); (try clear q1); (try clear hx1); (try clear c2); (try clear p2); (try clear c3); (try clear c3b0); (try clear c4); (try clear c4b0); (try clear c5); (try clear c5b0); (try clear c6); (try clear p6); (try clear q6); (try clear hx6); (try clear c8); (try clear c8b0); (try clear c10); (try clear c10b0); (try clear p11); (try clear q11); (try clear hx11); (try clear c13); (try clear c13b0); (try clear c13b1); (try clear c14); (try clear c14b0); (try clear c14b1); (try clear c16); (try clear c16b0); (try clear c16b1); (try clear c17); (try clear c19); (try clear c19b0); (try clear c19b1); (try clear c20); (try clear c21); (try clear c21b0); (try clear c21b1); (try clear c23); (try clear c23b0); (try clear c23b1); (try clear c24); (try clear c25); (try clear c25b0); (try clear c25b1); (try clear c27); (try clear c27b0); (try clear c27b1); (try clear c28)
       (try clear c29); (try clear c29b0); (try clear c29b1); (try clear p1); (try clear p11); (try clear p2); (try clear p6); (try clear q1); (try clear q11); (try clear q6)
       obtain ⟨kq, x7_11, rfl, HA, HJ11, ⟨mc11, rfl⟩⟩ := hcut
       cases kq with
       | zero => exact absurd HA.out (by simp [drayageref01_suffix.j5])
       | succ kj11 =>
        have H := HA.out
        clear HA
        simp only [drayageref01_suffix.j5] at H
        have HC30 := Aside0.mk H
        clear H
        go_upto_region 26 with (fail)
        go_cut [88] (fun v88 wc => ∃ (kq : Nat) (x88_29 : Bool), v88 = .bool x88_29 ∧ Aside0 (drayageref01_suffix.j6 kq a0 (wrap64 (a1 + 1)) x7_11 x88_29 = some (r1, r2, r3)) ∧ Aside0 (kq ≤ kj11) ∧ Drawn0 w wc)
        case first =>
         have H := HC30.out
         clear HC30
         by_cases c31 : x9_6 = true
         ·subst c31
          rw [if_pos rfl] at H
          by_cases c32 : (bt a0 a1) = 109
          ·rw [if_pos c32] at H
           have c32b0 : ((bt a0 a1) == 109) = true := beq_iff_eq.mpr c32
           have c32b1 : ((bt a0 a1) != 109) = false := bne_eq_false_iff_eq.mpr c32
           clear c32
           (first | rw [c32b0] | (simp only [i64_w, i32_w]; rw [c32b0]) | skip)
           have H' := Aside0.mk H
           clear H
           go_wp2
           go_meet
           case rel => exact ⟨_, (false), fs_, H', ⟨by have := HJ6.out; have := HJ11.out; first | omega | exact Nat.le_refl _⟩, by repeat (first | exact Drawn0.refl _ | apply Drawn0.step)⟩
          ·rw [if_neg c32] at H
           have c32b0 : ((bt a0 a1) == 109) = false := beq_eq_false_iff_ne.mpr c32
           have c32b1 : ((bt a0 a1) != 109) = true := bne_iff_ne.mpr c32
           (first | rw [c32b0] | (simp only [i64_w, i32_w]; rw [c32b0]) | skip)
           have H' := Aside0.mk H
           clear H
           go_wp2
           go_meet
           case rel => exact ⟨_, (((bt a0 a1) != 107)), fs_, H', ⟨by have := HJ6.out; have := HJ11.out; first | omega | exact Nat.le_refl _⟩, by repeat (first | exact Drawn0.refl _ | apply Drawn0.step)⟩
         ·replace c31 := Bool.eq_false_iff.mpr c31
          subst c31
          have H1 : (drayageref01_suffix.j6 kj11 a0 (wrap64 (a1 + 1)) x7_11 false) = some (r1, r2, r3) := by rw [if_neg (show ¬ (false = true) by decide)] at H; exact H
          clear H
          have H := H1
          clear H1
          have H' := Aside0.mk H
          clear H
          go_wp2
          go_meet
          case rel => exact ⟨_, (false), fs_, H', ⟨by have := HJ6.out; have := HJ11.out; first | omega | exact Nat.le_refl _⟩, by repeat (first | exact Drawn0.refl _ | apply Drawn0.step)⟩
        case rest =>
         clear HC30
         (try clear c1); (try clear p1); (try clear q1); (try clear hx1); (try clear c2); (try clear p2); (try clear c3); (try clear c3b0); (try clear c4); (try clear c4b0); (try clear c5); (try clear c5b0); (try clear c6); (try clear p6); (try clear q6); (try clear hx6); (try clear c8); (try clear c8b0); (try clear c10); (try clear c10b0); (try clear c11); (try clear p11); (try clear q11); (try clear hx11); (try clear c13); (try clear c13b0); (try clear c13b1); (try clear c14); (try clear c14b0); (try clear c14b1); (try clear c16); (try clear c16b0); (try clear c16b1); (try clear c17); (try clear c19); (try clear c19b0); (try clear c19b1); (try clear c20); (try clear c21); (try clear c21b0); (try clear c21b1); (try clear c23); (try clear c23b0); (try clear c23b1); (try clear c24); (try clear c25); (try clear c25b0); (try clear c25b1); (try clear c27); (try clear c27b0); (try clear c27b1)
         (try clear c28); (try clear c29); (try clear c29b0); (try clear c29b1); (try clear c31); (try clear c32); (try clear c32b0); (try clear c32b1); (try clear p1); (try clear p11); (try clear p2); (try clear p6); (try clear q1); (try clear q11); (try clear q6)
         obtain ⟨kq, x88_29, rfl, HA, HJ29, ⟨mc29, rfl⟩⟩ := hcut
         cases kq with
         | zero => exact absurd HA.out (by simp [drayageref01_suffix.j6])
         | succ kj29 =>
          have H := HA.out
          clear HA
          simp only [drayageref01_suffix.j6] at H
          by_cases c33 : x88_29 = true
          ·subst c33
           rw [if_pos rfl] at H
           by_cases c34 : (wrap64 ((wrap64 (a1 + 1)) + 1)) < (a0.size : Int)
           ·rw [if_pos c34] at H
            have c34b0 : decide ((wrap64 ((wrap64 (a1 + 1)) + 1)) < (a0.size : Int)) = true := decide_eq_true c34
            clear c34
            simp only [Option.some.injEq, Prod.mk.injEq] at H
            obtain ⟨rfl, rfl, rfl⟩ := H
            go_wp2
            go_ret3
            exact ⟨by first | rfl | (simp; done) | (simp [*]; done), by repeat (first | exact Drawn0.refl _ | apply Drawn0.step)⟩
           ·rw [if_neg c34] at H
            have c34b0 : decide ((wrap64 ((wrap64 (a1 + 1)) + 1)) < (a0.size : Int)) = false := decide_eq_false c34
            clear c34
            simp only [Option.some.injEq, Prod.mk.injEq] at H
            obtain ⟨rfl, rfl, rfl⟩ := H
            go_wp2
            go_ret3
            exact ⟨by first | rfl | (simp; done) | (simp [*]; done), by repeat (first | exact Drawn0.refl _ | apply Drawn0.step)⟩
          ·replace c33 := Bool.eq_false_iff.mpr c33
           subst c33
           have H1 : (if (wrap64 (a1 + 1)) < (a0.size : Int) then (some (0, (wrap64 (a1 + 1)), 4)) else (some (x7_11, (wrap64 (a1 + 1)), 0))) = some (r1, r2, r3) := by rw [if_neg (show ¬ (false = true) by decide)] at H; exact H
           clear H
           have H := H1
           clear H1
           by_cases c35 : (wrap64 (a1 + 1)) < (a0.size : Int)
           ·rw [if_pos c35] at H
            have c35b0 : decide ((wrap64 (a1 + 1)) < (a0.size : Int)) = true := decide_eq_true c35
            clear c35
            simp only [Option.some.injEq, Prod.mk.injEq] at H
            obtain ⟨rfl, rfl, rfl⟩ := H
            go_wp2
            go_ret3
            exact ⟨by first | rfl | (simp; done) | (simp [*]; done), by repeat (first | exact Drawn0.refl _ | apply Drawn0.step)⟩
           ·rw [if_neg c35] at H
            have c35b0 : decide ((wrap64 (a1 + 1)) < (a0.size : Int)) = false := decide_eq_false c35
            clear c35
            simp only [Option.some.injEq, Prod.mk.injEq] at H
            obtain ⟨rfl, rfl, rfl⟩ := H
            go_wp2
            go_ret3
            exact ⟨by first | rfl | (simp; done) | (simp [*]; done), by repeat (first | exact Drawn0.refl _ | apply Drawn0.step)⟩
   ·rw [if_neg c5] at H
    exact absurd H (by simp)
  ·rw [if_neg c4] at H
   exact absurd H (by simp)

end Go.Proofs.YtkpoipjgbdcdjaaDoor.P
