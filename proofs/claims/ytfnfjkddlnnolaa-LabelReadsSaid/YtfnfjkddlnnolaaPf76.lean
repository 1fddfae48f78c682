import Derived.Test.YtfnfjkddlnnolaaP0
import Derived.Test.YtfnfjkddlnnolaaPf83
import Derived.Test.YtfnfjkddlnnolaaPf84
namespace Go.Proofs.Ytfnfjkddlnnolaa.P
open Go.RowKit Go.Proofs.YtfnfjkddlnnolaaW.PrintWords Go.Proofs.YtfnfjkddlnnolaaW.PrintLast Go.Proofs.YtfnfjkddlnnolaaW.PrintMore
attribute [local go_sem] max2_int min2_int max_two min_two max_three min_three max_four min_four   -- for this text's walks alone
set_option linter.unusedVariables false
set_option linter.unusedSimpArgs false

mutual
def drayageref03_run.j1 : Nat → ByteArray → Int → Int → Option (ByteArray × Int × Int)
 | 0, _, _, _ => none
 | k + 1, x0, x1, x9 => if x1 = x9 then (drayageref03_run.j2 k x0 x1 x9 (x1 == (x0.size : Int))) else (drayageref03_run.j2 k x0 x1 x9 false)
def drayageref03_run.j2 : Nat → ByteArray → Int → Int → Bool → Option (ByteArray × Int × Int)
 | 0, _, _, _, _ => none
 | k + 1, x0, x1, x9, x52 => if x52 = true then (some ((⟨#[]⟩ : ByteArray), x1, 3)) else (if x1 = x9 then (some ((⟨#[]⟩ : ByteArray), x1, 4)) else (if x1 < (x0.size : Int) then (if 0 ≤ x1 then ((drayageref03_inside.f (bt x0 x1)).bind fun t108 => (if t108 = true then (some ((⟨#[]⟩ : ByteArray), x1, 4)) else (if 0 ≤ x9 then (if x9 ≤ x1 then (if x1 ≤ (x0.size : Int) then (some (x0.extract (x9 : Int).toNat (x1 : Int).toNat, x1, 0)) else (none)) else (none)) else (none)))) else (none)) else (if 0 ≤ x9 then (if x9 ≤ x1 then (if x1 ≤ (x0.size : Int) then (some (x0.extract (x9 : Int).toNat (x1 : Int).toNat, x1, 0)) else (none)) else (none)) else (none))))
def drayageref03_run.l0 : Nat → ByteArray → Int → Bool → Int → Option (ByteArray × Int × Int)
 | 0, _, _, _, _ => none
 | k + 1, x0, x1, x2, x9 => if x1 < (x0.size : Int) then (if 0 ≤ x1 then ((drayageref03_inside.f (bt x0 x1)).bind fun t106 => (if t106 = true then (if x1 > x9 then (if x1 < (wrap64 (x9 + 15)) then (drayageref03_run.l0 k x0 (wrap64 (x1 + 1)) x2 x9) else (drayageref03_run.j1 k x0 x1 x9)) else (if x2 = true then ((drayageref03_letter.f (bt x0 x1)).bind fun t107 => (if t107 = true then (if x1 < (wrap64 (x9 + 15)) then (drayageref03_run.l0 k x0 (wrap64 (x1 + 1)) x2 x9) else (drayageref03_run.j1 k x0 x1 x9)) else (drayageref03_run.j1 k x0 x1 x9))) else (if x1 < (wrap64 (x9 + 15)) then (drayageref03_run.l0 k x0 (wrap64 (x1 + 1)) x2 x9) else (drayageref03_run.j1 k x0 x1 x9)))) else (drayageref03_run.j1 k x0 x1 x9))) else (none)) else (drayageref03_run.j1 k x0 x1 x9)
end
def drayageref03_run.f (k : Nat) (a0 : ByteArray) (a1 : Int) (a2 : Bool) : Option (ByteArray × Int × Int) := drayageref03_run.l0 k a0 a1 a2 a1
set_option maxHeartbeats 8000000 in
set_option maxRecDepth 100000 in
theorem drayageref03_run.calls (k : Nat) (a0 : ByteArray) (a1 : Int) (a2 : Bool) (r1 : ByteArray) (r2 : Int) (r3 : Int) (w : World) (h : drayageref03_run.f k a0 a1 a2 = some (r1, r2, r3)) :
  Calls Try.prog 76 #[.string a0, .int .i64 a1, .bool a2] w fun e w' => e = .returned (.tuple #[.string r1, .int .i64 r2, .int .i64 r3]) ∧ Drawn0 w w' := by
 have H : (drayageref03_run.l0 k a0 a1 a2 a1) = some (r1, r2, r3) := h
 clear h
 have HC4 := Aside0.mk H
 clear H
 go_enter Try.func76, Try.ntmps76
 go_upto_block 0 with (fail)
 go_cut [1] (fun v1 wc => ∃ (kq : Nat) (x1_3 : Int), v1 = .int .i64 x1_3 ∧ Aside0 (drayageref03_run.j1 kq a0 x1_3 a1 = some (r1, r2, r3)) ∧ Aside0 (kq ≤ k) ∧ Drawn0 w wc)
 case first =>
  have H := HC4.out
  clear HC4
  have H' := Aside0.mk H
  clear H
  go_wp2
  go_loopg [1] k (fun kq v1 w' => ∃ (x1_1 : Int), v1 = .int .i64 x1_1 ∧ Aside0 (drayageref03_run.l0 kq a0 x1_1 a2 a1 = some (r1, r2, r3)) ∧ Aside0 (kq ≤ k) ∧ Drawn0 w w')
  case atStart => exact ⟨(a1), fs_, H', ⟨Nat.le_refl _⟩, by repeat (first | exact Drawn0.refl _ | apply Drawn0.step)⟩
  case round =>
   clear H'
   (try clear p2)
   obtain ⟨x1_1, rfl, HA, HK1, ⟨m1, rfl⟩⟩ := hrel
   cases gk with
   | zero => exact absurd HA.out (by simp [drayageref03_run.l0])
   | succ k1 =>
    have H := HA.out
    clear HA
    simp only [drayageref03_run.l0] at H
    by_cases c5 : x1_1 < (a0.size : Int)
    ·rw [if_pos c5] at H
     have c5b0 : decide (x1_1 < (a0.size : Int)) = true := decide_eq_true c5
     clear c5
     (first | rw [c5b0] | (simp only [i64_w, i32_w]; rw [c5b0]) | skip)
     by_cases c6 : 0 ≤ x1_1
     ·rw [if_pos c6] at H
      have c6b0 : decide (0 ≤ x1_1) = true := decide_eq_true c6
      clear c6
      replace H := Option.bind_eq_some_iff.mp H
      obtain ⟨t106, A80, H⟩ := H
      try dsimp only at H
      have A8 := Aside0.mk A80
      clear A80
      by_cases c9 : t106 = true
      ·subst c9
       rw [if_pos rfl] at H
       by_cases c10 : x1_1 > a1
       ·rw [if_pos c10] at H
        have c10b0 : decide (a1 < x1_1) = true := decide_eq_true c10
        clear c10
        by_cases c11 : x1_1 < (wrap64 (a1 + 15))
        ·rw [if_pos c11] at H
         have c11b0 : decide (x1_1 < (wrap64 (a1 + 15))) = true := decide_eq_true c11
         clear c11
         have H' := Aside0.mk H
         clear H
         have p7 : 0 ≤ (x1_1 : Int) := of_decide_eq_true (by first | (with_reducible assumption) | assumption)
         have q7 : x1_1 < (a0.size : Int) := of_decide_eq_true (by first | (with_reducible assumption) | assumption)
         have hx7 := bt_at a0 x1_1
         replace p7 := eq_true p7
         replace q7 := eq_true q7
         go_wp2_with (first | (go_at_call 83; (with_reducible refine (drayageref03_inside.calls (bt a0 x1_1) true _ A8.out).mono ?_); rintro e w' ⟨rfl, ⟨nd, rfl⟩⟩))
         go_roundg k1
         case measure => have := HK1.out; omega
         case rel => exact ⟨(wrap64 (x1_1 + 1)), fs_, H', ⟨by have := HK1.out; omega⟩, by repeat (first | exact Drawn0.refl _ | apply Drawn0.step)⟩
        ·rw [if_neg c11] at H
         have c11b0 : decide (x1_1 < (wrap64 (a1 + 15))) = false := decide_eq_false c11
         clear c11
         have H' := Aside0.mk H
         clear H
         have p7 : 0 ≤ (x1_1 : Int) := of_decide_eq_true (by first | (with_reducible assumption) | assumption)
         have q7 : x1_1 < (a0.size : Int) := of_decide_eq_true (by first | (with_reducible assumption) | assumption)
         have hx7 := bt_at a0 x1_1
         replace p7 := eq_true p7
         replace q7 := eq_true q7
         go_wp2_with (first | (go_at_call 83; (with_reducible refine (drayageref03_inside.calls (bt a0 x1_1) true _ A8.out).mono ?_); rintro e w' ⟨rfl, ⟨nd, rfl⟩⟩))
         go_meet
         case rel => exact ⟨_, (x1_1), fs_, H', ⟨by have := HK1.out; first | omega | exact Nat.le_refl _⟩, by repeat (first | exact Drawn0.refl _ | apply Drawn0.step)⟩
       ·rw [if_neg c10] at H
        have c10b0 : decide (a1 < x1_1) = false := decide_eq_false c10
        clear c10
        by_cases c12 : a2 = true
        ·subst c12
         rw [if_pos rfl] at H
         replace H := Option.bind_eq_some_iff.mp H
         obtain ⟨t107, A140, H⟩ := H
         try dsimp only at H
         have A14 := Aside0.mk A140
         clear A140
         by_cases c15 : t107 = true
         ·subst c15
          rw [if_pos rfl] at H
          by_cases c16 : x1_1 < (wrap64 (a1 + 15))
          ·rw [if_pos c16] at H
           have c16b0 : decide (x1_1 < (wrap64 (a1 + 15))) = true := decide_eq_true c16
           clear c16
           have H' := Aside0.mk H
           clear H
           have p7 : 0 ≤ (x1_1 : Int) := of_decide_eq_true (by first | (with_reducible assumption) | assumption)
           have q7 : x1_1 < (a0.size : Int) := of_decide_eq_true (by first | (with_reducible assumption) | assumption)
           have hx7 := bt_at a0 x1_1
           replace p7 := eq_true p7
           replace q7 := eq_true q7
           go_wp2_with (first | (go_at_call 83; (with_reducible refine (drayageref03_inside.calls (bt a0 x1_1) true _ A8.out).mono ?_); rintro e w' ⟨rfl, ⟨nd, rfl⟩⟩; have p13 : 0 ≤ (x1_1 : Int) := of_decide_eq_true (by first | (with_reducible assumption) | assumption); have q13 : x1_1 < (a0.size : Int) := of_decide_eq_true (by first | (with_reducible assumption) | assumption); have hx13 := bt_at a0 x1_1; replace p13 := eq_true p13; replace q13 := eq_true q13) | (go_at_call 84; (with_reducible refine (drayageref03_letter.calls (bt a0 x1_1) true _ A14.out).mono ?_); rintro e w' ⟨rfl, ⟨nd, rfl⟩⟩))
           go_roundg k1
           case measure => have := HK1.out; omega
           case rel => exact ⟨(wrap64 (x1_1 + 1)), fs_, H', ⟨by have := HK1.out; omega⟩, by repeat (first | exact Drawn0.refl _ | apply Drawn0.step)⟩
          ·rw [if_neg c16] at H
           have c16b0 : decide (x1_1 < (wrap64 (a1 + 15))) = false := decide_eq_false c16
           clear c16
           have H' := Aside0.mk H
           clear H
           have p7 : 0 ≤ (x1_1 : Int) := of_decide_eq_true (by first | (with_reducible assumption) | assumption)
           have q7 : x1_1 < (a0.size : Int) := of_decide_eq_true (by first | (with_reducible assumption) | assumption)
           have hx7 := bt_at a0 x1_1
           replace p7 := eq_true p7
           replace q7 := eq_true q7
           go_wp2_with (first | (go_at_call 83; (with_reducible refine (drayageref03_inside.calls (bt a0 x1_1) true _ A8.out).mono ?_); rintro e w' ⟨rfl, ⟨nd, rfl⟩⟩; have p13 : 0 ≤ (x1_1 : Int) := of_decide_eq_true (by first | (with_reducible assumption) | assumption); have q13 : x1_1 < (a0.size : Int) := of_decide_eq_true (by first | (with_reducible assumption) | assumption); have hx13 := bt_at a0 x1_1; replace p13 := eq_true p13; replace q13 := eq_true q13) | (go_at_call 84; (with_reducible refine (drayageref03_letter.calls (bt a0 x1_1) true _ A14.out).mono ?_); rintro e w' ⟨rfl, ⟨nd, rfl⟩⟩))
           go_meet
           case rel => exact ⟨_, (x1_1), fs_, H', ⟨by have := HK1.out; first | omega | exact Nat.le_refl _⟩, by repeat (first | exact Drawn0.refl _ | apply Drawn0.step)⟩
         ·replace c15 := Bool.eq_false_iff.mpr c15
          subst c15
          have H1 : (drayageref03_run.j1 k1 a0 x1_1 a1) = some (r1, r2, r3) := by rw [if_neg (show ¬ (false = true) by decide)] at H; exact H
          clear H
          have H := H1
          clear H1
          have H' := Aside0.mk H
          clear H
          have p7 : 0 ≤ (x1_1 : Int) := of_decide_eq_true (by first | (with_reducible assumption) | assumption)
          have q7 : x1_1 < (a0.size : Int) := of_decide_eq_true (by first | (with_reducible assumption) | assumption)
          have hx7 := bt_at a0 x1_1
          replace p7 := eq_true p7
          replace q7 := eq_true q7
          go_wp2_with (first | (go_at_call 83; (with_reducible refine (drayageref03_inside.calls (bt a0 x1_1) true _ A8.out).mono ?_); rintro e w' ⟨rfl, ⟨nd, rfl⟩⟩; have p13 : 0 ≤ (x1_1 : Int) := of_decide_eq_true (by first | (with_reducible assumption) | assumption); have q13 : x1_1 < (a0.size : Int) := of_decide_eq_true (by first | (with_reducible assumption) | assumption); have hx13 := bt_at a0 x1_1; replace p13 := eq_true p13; replace q13 := eq_true q13) | (go_at_call 84; (with_reducible refine (drayageref03_letter.calls (bt a0 x1_1) false _ A14.out).mono ?_); rintro e w' ⟨rfl, ⟨nd, rfl⟩⟩))
          go_meet
          case rel => exact ⟨_, (x1_1), fs_, H', ⟨by have := HK1.out; first | omega | exact Nat.le_refl _⟩, by repeat (first | exact Drawn0.refl _ | apply Drawn0.step)⟩
        ·replace c12 := Bool.eq_false_iff.mpr c12
         subst c12
         have H1 : (if x1_1 < (wrap64 (a1 + 15)) then (drayageref03_run.l0 k1 a0 (wrap64 (x1_1 + 1)) false a1) else (drayageref03_run.j1 k1 a0 x1_1 a1)) = some (r1, r2, r3) := by rw [if_neg (show ¬ (false = true) by decide)] at H; exact H
         clear H
         have H := H1
         clear H1
         by_cases c17 : x1_1 < (wrap64 (a1 + 15))
         ·rw [if_pos c17] at H
          have c17b0 : decide (x1_1 < (wrap64 (a1 + 15))) = true := decide_eq_true c17
          clear c17
          have H' := Aside0.mk H
          clear H
          have p7 : 0 ≤ (x1_1 : Int) := of_decide_eq_true (by first | (with_reducible assumption) | assumption)
          have q7 : x1_1 < (a0.size : Int) := of_decide_eq_true (by first | (with_reducible assumption) | assumption)
          have hx7 := bt_at a0 x1_1
          replace p7 := eq_true p7
          replace q7 := eq_true q7
          go_wp2_with (first | (go_at_call 83; (with_reducible refine (drayageref03_inside.calls (bt a0 x1_1) true _ A8.out).mono ?_); rintro e w' ⟨rfl, ⟨nd, rfl⟩⟩))
          go_roundg k1
          case measure => have := HK1.out; omega
          case rel => exact ⟨(wrap64 (x1_1 + 1)), fs_, H', ⟨by have := HK1.out; omega⟩, by repeat (first | exact Drawn0.refl _ | apply Drawn0.step)⟩
         ·rw [if_neg c17] at H
          have c17b0 : decide (x1_1 < (wrap64 (a1 + 15))) = false := decide_eq_false c17
          clear c17
          have H' := Aside0.mk H
          clear H
          have p7 : 0 ≤ (x1_1 : Int) := of_decide_eq_true (by first | (with_reducible assumption) | assumption)
          have q7 : x1_1 < (a0.size : Int) := of_decide_eq_true (by first | (with_reducible assumption) | assumption)
          have hx7 := bt_at a0 x1_1
          replace p7 := eq_true p7
          replace q7 := eq_true q7
          go_wp2_with (first | (go_at_call 83; (with_reducible refine (drayageref03_inside.calls (bt a0 x1_1) true _ A8.out).mono ?_); rintro e w' ⟨rfl, ⟨nd, rfl⟩⟩))
          go_meet
          case rel => exact ⟨_, (x1_1), fs_, H', ⟨by have := HK1.out; first | omega | exact Nat.le_refl _⟩, by repeat (first | exact Drawn0.refl _ | apply Drawn0.step)⟩
      ·replace c9 := Bool.eq_false_iff.mpr c9
       subst c9
       have H1 : (drayageref03_run.j1 k1 a0 x1_1 a1) = some (r1, r2, r3) := by rw [if_neg (show ¬ (false = true) by decide)] at H; exact H
       clear H
       have H := H1
       clear H1
       have H' := Aside0.mk H
       clear H
       have p7 : 0 ≤ (x1_1 : Int) := of_decide_eq_true (by first | (with_reducible assumption) | assumption)
       have q7 : x1_1 < (a0.size : Int) := of_decide_eq_true (by first | (with_reducible assumption) | assumption)
       have hx7 := bt_at a0 x1_1
       replace p7 := eq_true p7
       replace q7 := eq_true q7
       go_wp2_with (first | (go_at_call 83; (with_reducible refine (drayageref03_inside.calls (bt a0 x1_1) false _ A8.out).mono ?_); rintro e w' ⟨rfl, ⟨nd, rfl⟩⟩))
       go_meet
       case rel => exact ⟨_, (x1_1), fs_, H', ⟨by have := HK1.out; first | omega | exact Nat.le_refl _⟩, by repeat (first | exact Drawn0.refl _ | apply Drawn0.step)⟩
     ·rw [if_neg c6] at H
      exact absurd H (by simp)
    ·rw [if_neg c5] at H
     have c5b0 : decide (x1_1 < (a0.size : Int)) = false := decide_eq_false c5
     clear c5
     (first | rw [c5b0] | (simp only [i64_w, i32_w]; rw [c5b0]) | skip)
     have H' := Aside0.mk H
     clear H
     go_wp2
     go_meet
     case rel => exact ⟨_, (x1_1), fs_, H', ⟨by have := HK1.out; first | omega | exact Nat.le_refl _⟩, by repeat (first | exact Drawn0.refl _ | apply Drawn0.step)⟩
 case rest =>
  clear HC4
  (try clear c1); (try clear p1); (try clear q1); (try clear hx1); (try clear p2); (try clear c5); (try clear c5b0); (try clear c6); (try clear c6b0); (try clear p6); (try clear c7); (try clear p7); (try clear q7); (try clear hx7); (try clear c9); (try clear c10); (try clear c10b0); (try clear c11); (try clear c11b0); (try clear c12); (try clear p13); (try clear q13); (try clear hx13); (try clear c15); (try clear c16); (try clear c16b0); (try clear c17); (try clear c17b0); (try clear p13); (try clear p2); (try clear p7); (try clear q13); (try clear q7)
  obtain ⟨kq, x1_3, rfl, HA, HJ3, ⟨mc3, rfl⟩⟩ := hcut
  cases kq with
  | zero => exact absurd HA.out (by simp [drayageref03_run.j1])
  | succ kj3 =>
   have H := HA.out
   clear HA
   simp only [drayageref03_run.j1] at H
   have HC18 := Aside0.mk H
   clear H
   go_upto_region 4 with (fail)
   go_cut [52] (fun v52 wc => ∃ (kq : Nat) (x52_17 : Bool), v52 = .bool x52_17 ∧ Aside0 (drayageref03_run.j2 kq a0 x1_3 a1 x52_17 = some (r1, r2, r3)) ∧ Aside0 (kq ≤ kj3) ∧ Drawn0 w wc)
   case first =>
    have H := HC18.out
    clear HC18
    by_cases c19 : x1_3 = a1
    ·rw [if_pos c19] at H
     have c19b0 : (x1_3 == a1) = true := beq_iff_eq.mpr c19
     have c19b1 : (x1_3 != a1) = false := bne_eq_false_iff_eq.mpr c19
     clear c19
     (first | rw [c19b0] | (simp only [i64_w, i32_w]; rw [c19b0]) | skip)
     have H' := Aside0.mk H
     clear H
     go_wp2
     go_meet
     case rel => exact ⟨_, ((x1_3 == (a0.size : Int))), fs_, H', ⟨by have := HJ3.out; first | omega | exact Nat.le_refl _⟩, by repeat (first | exact Drawn0.refl _ | apply Drawn0.step)⟩
    ·rw [if_neg c19] at H
     have c19b0 : (x1_3 == a1) = false := beq_eq_false_iff_ne.mpr c19
     have c19b1 : (x1_3 != a1) = true := bne_iff_ne.mpr c19
     (first | rw [c19b0] | (simp only [i64_w, i32_w]; rw [c19b0]) | skip)
     have H' := Aside0.mk H
     clear H
     go_wp2
     go_meet
     case rel => exact ⟨_, (false), fs_, H', ⟨by have := HJ3.out; first | omega | exact Nat.le_refl _⟩, by repeat (first | exact Drawn0.refl _ | apply Drawn0.step)⟩
   case rest =>
    clear HC18
    (try clear c1); (try clear p1); (try clear q1); (try clear hx1); (try clear p2); (try clear c3); (try clear c5); (try clear c5b0); (try clear c6); (try clear c6b0); (try clear p6); (try clear c7); (try clear p7); (try clear q7); (try clear hx7); (try clear c9); (try clear c10); (try clear c10b0); (try clear c11); (try clear c11b0); (try clear c12); (try clear p13); (try clear q13); (try clear hx13); (try clear c15); (try clear c16); (try clear c16b0); (try clear c17); (try clear c17b0); (try clear c19); (try clear c19b0); (try clear c19b1); (try clear p1); (try clear p13); (try clear p2); (try clear p6); (try clear p7); (try clear q1); (try clear q13); (try clear q7)
    obtain ⟨kq, x52_17, rfl, HA, HJ17, ⟨mc17, rfl⟩⟩ := hcut
    cases kq with
    | zero => exact absurd HA.out (by simp [drayageref03_run.j2])
    | succ kj17 =>
     have H := HA.out
     clear HA
     simp only [drayageref03_run.j2] at H
     by_cases c20 : x52_17 = true
     ·subst c20
      rw [if_pos rfl] at H
      simp only [Option.some.injEq, Prod.mk.injEq] at H
      obtain ⟨rfl, rfl, rfl⟩ := H
      go_wp2
      go_ret3
      exact ⟨by first | rfl | (simp; done) | (simp [*]; done), by repeat (first | exact Drawn0.refl _ | apply Drawn0.step)⟩
     ·replace c20 := Bool.eq_false_iff.mpr c20
      subst c20
      have H1 : (if x1_3 = a1 then (some ((⟨#[]⟩ : ByteArray), x1_3, 4)) else (if x1_3 < (a0.size : Int) then (if 0 ≤ x1_3 then ((drayageref03_inside.f (bt a0 x1_3)).bind fun t108 => (if t108 = true then (some ((⟨#[]⟩ : ByteArray), x1_3, 4)) else (if 0 ≤ a1 then (if a1 ≤ x1_3 then (if x1_3 ≤ (a0.size : Int) then (some (a0.extract (a1 : Int).toNat (x1_3 : Int).toNat, x1_3, 0)) else (none)) else (none)) else (none)))) else (none)) else (if 0 ≤ a1 then (if a1 ≤ x1_3 then (if x1_3 ≤ (a0.size : Int) then (some (a0.extract (a1 : Int).toNat (x1_3 : Int).toNat, x1_3, 0)) else (none)) else (none)) else (none)))) = some (r1, r2, r3) := by rw [if_neg (show ¬ (false = true) by decide)] at H; exact H
      clear H
      have H := H1
      clear H1
      by_cases c21 : x1_3 = a1
      ·rw [if_pos c21] at H
       have c21b0 : (x1_3 == a1) = true := beq_iff_eq.mpr c21
       have c21b1 : (x1_3 != a1) = false := bne_eq_false_iff_eq.mpr c21
       clear c21
       simp only [Option.some.injEq, Prod.mk.injEq] at H
       obtain ⟨rfl, rfl, rfl⟩ := H
       go_wp2
       go_ret3
       exact ⟨by first | rfl | (simp; done) | (simp [*]; done), by repeat (first | exact Drawn0.refl _ | apply Drawn0.step)⟩
      ·rw [if_neg c21] at H
       have c21b0 : (x1_3 == a1) = false := beq_eq_false_iff_ne.mpr c21
       have c21b1 : (x1_3 != a1) = true := bne_iff_ne.mpr c21
       by_cases c22 : x1_3 < (a0.size : Int)
       ·rw [if_pos c22] at H
        have c22b0 : decide (x1_3 < (a0.size : Int)) = true := decide_eq_true c22
        clear c22
        by_cases c23 : 0 ≤ x1_3
        ·rw [if_pos c23] at H
         have c23b0 : decide (0 ≤ x1_3) = true := decide_eq_true c23
         clear c23
         replace H := Option.bind_eq_some_iff.mp H
         obtain ⟨t108, A250, H⟩ := H
         try dsimp only at H
         have A25 := Aside0.mk A250
         clear A250
         by_cases c26 : t108 = true
         ·subst c26
          rw [if_pos rfl] at H
          simp only [Option.some.injEq, Prod.mk.injEq] at H
          obtain ⟨rfl, rfl, rfl⟩ := H
          have p24 : 0 ≤ (x1_3 : Int) := of_decide_eq_true (by first | (with_reducible assumption) | assumption)
          have q24 : x1_3 < (a0.size : Int) := of_decide_eq_true (by first | (with_reducible assumption) | assumption)
          have hx24 := bt_at a0 x1_3
          replace p24 := eq_true p24
          replace q24 := eq_true q24
          go_wp2_with (first | (go_at_call 83; (with_reducible refine (drayageref03_inside.calls (bt a0 x1_3) true _ A25.out).mono ?_); rintro e w' ⟨rfl, ⟨nd, rfl⟩⟩))
          go_ret3
          exact ⟨by first | rfl | (simp; done) | (simp [*]; done), by repeat (first | exact Drawn0.refl _ | apply Drawn0.step)⟩
         ·replace c26 := Bool.eq_false_iff.mpr c26
          subst c26
          have H1 : (if 0 ≤ a1 then (if a1 ≤ x1_3 then (if x1_3 ≤ (a0.size : Int) then (some (a0.extract (a1 : Int).toNat (x1_3 : Int).toNat, x1_3, 0)) else (none)) else (none)) else (none)) = some (r1, r2, r3) := by rw [if_neg (show ¬ (false = true) by decide)] at H; exact H
          clear H
          have H := H1
          clear H1
          by_cases c27 : 0 ≤ a1
          ·rw [if_pos c27] at H
           have c27b0 := eq_true c27
           have c27b1 : decide (0 ≤ a1) = true := decide_eq_true c27
           clear c27
           by_cases c28 : a1 ≤ x1_3
           ·rw [if_pos c28] at H
            have c28b0 := eq_true c28
            have c28b1 : decide (a1 ≤ x1_3) = true := decide_eq_true c28
            clear c28
            by_cases c29 : x1_3 ≤ (a0.size : Int)
            ·rw [if_pos c29] at H
             have c29b0 := eq_true c29
             have c29b1 : decide (x1_3 ≤ (a0.size : Int)) = true := decide_eq_true c29
             clear c29
             simp only [Option.some.injEq, Prod.mk.injEq] at H
             obtain ⟨rfl, rfl, rfl⟩ := H
             have p24 : 0 ≤ (x1_3 : Int) := of_decide_eq_true (by first | (with_reducible assumption) | assumption)
             have q24 : x1_3 < (a0.size : Int) := of_decide_eq_true (by first | (with_reducible assumption) | assumption)
             have hx24 := bt_at a0 x1_3
             replace p24 := eq_true p24
             replace q24 := eq_true q24
             go_wp2_with (first | (go_at_call 83; (with_reducible refine (drayageref03_inside.calls (bt a0 x1_3) false _ A25.out).mono ?_); rintro e w' ⟨rfl, ⟨nd, rfl⟩⟩))
             go_ret3
             exact ⟨by first | rfl | (simp; done) | (simp [*]; done), by repeat (first | exact Drawn0.refl _ | apply Drawn0.step)⟩
            ·rw [if_neg c29] at H
             exact absurd H (by simp)
           ·rw [if_neg c28] at H
            exact absurd H (by simp)
          ·rw [if_neg c27] at H
           exact absurd H (by simp)
        ·rw [if_neg c23] at H
         exact absurd H (by simp)
       ·rw [if_neg c22] at H
        have c22b0 : decide (x1_3 < (a0.size : Int)) = false := decide_eq_false c22
        clear c22
        by_cases c30 : 0 ≤ a1
        ·rw [if_pos c30] at H
         have c30b0 := eq_true c30
         have c30b1 : decide (0 ≤ a1) = true := decide_eq_true c30
         clear c30
         by_cases c31 : a1 ≤ x1_3
         ·rw [if_pos c31] at H
          have c31b0 := eq_true c31
          have c31b1 : decide (a1 ≤ x1_3) = true := decide_eq_true c31
          clear c31
          by_cases c32 : x1_3 ≤ (a0.size : Int)
          ·rw [if_pos c32] at H
           have c32b0 := eq_true c32
           have c32b1 : decide (x1_3 ≤ (a0.size : Int)) = true := decide_eq_true c32
           clear c32
           simp only [Option.some.injEq, Prod.mk.injEq] at H
           obtain ⟨rfl, rfl, rfl⟩ := H
           go_wp2
           go_ret3
           exact ⟨by first | rfl | (simp; done) | (simp [*]; done), by repeat (first | exact Drawn0.refl _ | apply Drawn0.step)⟩
          ·rw [if_neg c32] at H
           exact absurd H (by simp)
         ·rw [if_neg c31] at H
          exact absurd H (by simp)
        ·rw [if_neg c30] at H
         exact absurd H (by simp)

end Go.Proofs.Ytfnfjkddlnnolaa.P
