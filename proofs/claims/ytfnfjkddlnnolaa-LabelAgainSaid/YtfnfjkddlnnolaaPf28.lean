import Derived.Test.YtfnfjkddlnnolaaP0
namespace Go.Proofs.Ytfnfjkddlnnolaa.P
open Go.RowKit Go.Proofs.YtfnfjkddlnnolaaW.PrintWords Go.Proofs.YtfnfjkddlnnolaaW.PrintLast Go.Proofs.YtfnfjkddlnnolaaW.PrintMore
attribute [local go_sem] max2_int min2_int max_two min_two max_three min_three max_four min_four   -- for this text's walks alone
set_option linter.unusedVariables false
set_option linter.unusedSimpArgs false

def drayageref03_Print.l0 : Nat → List (S43) → ByteArray → Int → Option (ByteArray)
 | 0, _, _, _ => none
 | k + 1, x0, x3, x4 => if x4 < (x0.length : Int) then (if x4 > 0 then (if x3.size + 1 ≤ 9223372036854775807 then (if 0 ≤ x4 then (if (x3 ++ (⟨#[44]⟩ : ByteArray)).size + ((rd_T43 x0 x4).f0).size ≤ 9223372036854775807 then (if ((x3 ++ (⟨#[44]⟩ : ByteArray)) ++ ((rd_T43 x0 x4).f0)).size + 1 ≤ 9223372036854775807 then (if (((x3 ++ (⟨#[44]⟩ : ByteArray)) ++ ((rd_T43 x0 x4).f0)) ++ (⟨#[61]⟩ : ByteArray)).size + ((rd_T43 x0 x4).f1).size ≤ 9223372036854775807 then (drayageref03_Print.l0 k x0 ((((x3 ++ (⟨#[44]⟩ : ByteArray)) ++ ((rd_T43 x0 x4).f0)) ++ (⟨#[61]⟩ : ByteArray)) ++ ((rd_T43 x0 x4).f1)) (wrap64 (x4 + 1))) else (none)) else (none)) else (none)) else (none)) else (none)) else (if 0 ≤ x4 then (if x3.size + ((rd_T43 x0 x4).f0).size ≤ 9223372036854775807 then (if (x3 ++ ((rd_T43 x0 x4).f0)).size + 1 ≤ 9223372036854775807 then (if ((x3 ++ ((rd_T43 x0 x4).f0)) ++ (⟨#[61]⟩ : ByteArray)).size + ((rd_T43 x0 x4).f1).size ≤ 9223372036854775807 then (drayageref03_Print.l0 k x0 (((x3 ++ ((rd_T43 x0 x4).f0)) ++ (⟨#[61]⟩ : ByteArray)) ++ ((rd_T43 x0 x4).f1)) (wrap64 (x4 + 1))) else (none)) else (none)) else (none)) else (none))) else (some x3)
def drayageref03_Print.f (k : Nat) (l0 : List (S43)) : Option (ByteArray) := drayageref03_Print.l0 k l0 (⟨#[]⟩ : ByteArray) 0
set_option maxHeartbeats 8000000 in
set_option maxRecDepth 100000 in
theorem drayageref03_Print.calls (k : Nat) (A0 : Option Addr) (c0 : Nat) (l0 : List (S43)) (r : ByteArray) (w : World) (hr0 : Kd.C k43 w A0 l0.length l0) (hc0 : l0.length ≤ c0) (h : drayageref03_Print.f k l0 = some r) :
  Calls Try.prog 27 #[.slice A0 l0.length c0] w fun e w' => e = .returned (.string r) ∧ Drawn0 w w' := by
 have HR0 := Aside0.mk hr0
 have HC0 := Aside0.mk hc0
 clear hr0 hc0
 have H : (drayageref03_Print.l0 k l0 (⟨#[]⟩ : ByteArray) 0) = some r := h
 clear h
 have H' := Aside0.mk H
 clear H
 go_enter Try.func27, Try.ntmps27
 go_wp2
 repeat (go_quiet (fail); try go_wp2)
 go_loopg [3, 4] k (fun kq v3 v4 w' => ∃ (x3_1 : ByteArray) (x4_1 : Int), v3 = .string x3_1 ∧ v4 = .int .i64 x4_1 ∧ Aside0 (drayageref03_Print.l0 kq l0 x3_1 x4_1 = some r) ∧ Aside0 (kq ≤ k) ∧ Drawn0 w w')
 case atStart => exact ⟨((⟨#[]⟩ : ByteArray)), (0), fs_, fs_, H', ⟨Nat.le_refl _⟩, by repeat (first | exact Drawn0.refl _ | apply Drawn0.step)⟩
 case round =>
  clear H'
  obtain ⟨x3_1, x4_1, rfl, rfl, HA, HK1, ⟨m1, rfl⟩⟩ := hrel
  cases gk with
  | zero => exact absurd HA.out (by simp [drayageref03_Print.l0])
  | succ k1 =>
   have H := HA.out
   clear HA
   simp only [drayageref03_Print.l0] at H
   by_cases c2 : x4_1 < (l0.length : Int)
   ·rw [if_pos c2] at H
    have c2b0 : decide (x4_1 < (l0.length : Int)) = true := decide_eq_true c2
    clear c2
    by_cases c3 : x4_1 > 0
    ·rw [if_pos c3] at H
     have c3b0 : decide (0 < x4_1) = true := decide_eq_true c3
     clear c3
     by_cases c4 : x3_1.size + 1 ≤ 9223372036854775807
     ·rw [if_pos c4] at H
      have c4b0 := eq_true c4
      have c4b1 : decide (x3_1.size + 1 ≤ 9223372036854775807) = true := decide_eq_true c4
      try have c4b2 : (9223372036854775807 < x3_1.size + 1) = False := eq_false (Nat.not_lt.2 c4)
      by_cases c5 : 0 ≤ x4_1
      ·rw [if_pos c5] at H
       have c5b0 : decide (0 ≤ x4_1) = true := decide_eq_true c5
       clear c5
       by_cases c6 : (x3_1 ++ (⟨#[44]⟩ : ByteArray)).size + ((rd_T43 l0 x4_1).f0).size ≤ 9223372036854775807
       ·rw [if_pos c6] at H
        have c6b0 := eq_true c6
        have c6b1 : decide ((x3_1 ++ (⟨#[44]⟩ : ByteArray)).size + ((rd_T43 l0 x4_1).f0).size ≤ 9223372036854775807) = true := decide_eq_true c6
        try have c6b2 : (9223372036854775807 < (x3_1 ++ (⟨#[44]⟩ : ByteArray)).size + ((rd_T43 l0 x4_1).f0).size) = False := eq_false (Nat.not_lt.2 c6)
        have c6q0 := c6b2
        try rw [ByteArray.size_append] at c6q0
        have c6r0 := c6b2
        try simp only [ByteArray.size_append] at c6r0
        have c6s0 := c6b2
        try simp only [ByteArray.size_append, (show (⟨#[44]⟩ : ByteArray).size = 1 from rfl), (show (⟨#[61]⟩ : ByteArray).size = 1 from rfl), (show (⟨#[]⟩ : ByteArray).size = 0 from rfl)] at c6s0
        have c6q1 := c6b0
        try rw [ByteArray.size_append] at c6q1
        have c6r1 := c6b0
        try simp only [ByteArray.size_append] at c6r1
        have c6s1 := c6b0
        try simp only [ByteArray.size_append, (show (⟨#[44]⟩ : ByteArray).size = 1 from rfl), (show (⟨#[61]⟩ : ByteArray).size = 1 from rfl), (show (⟨#[]⟩ : ByteArray).size = 0 from rfl)] at c6s1
        have c6q2 := c6b1
        try rw [ByteArray.size_append] at c6q2
        have c6r2 := c6b1
        try simp only [ByteArray.size_append] at c6r2
        have c6s2 := c6b1
        try simp only [ByteArray.size_append, (show (⟨#[44]⟩ : ByteArray).size = 1 from rfl), (show (⟨#[61]⟩ : ByteArray).size = 1 from rfl), (show (⟨#[]⟩ : ByteArray).size = 0 from rfl)] at c6s2
        by_cases c7 : ((x3_1 ++ (⟨#[44]⟩ : ByteArray)) ++ ((rd_T43 l0 x4_1).f0)).size + 1 ≤ 9223372036854775807
        ·rw [if_pos c7] at H
         have c7b0 := eq_true c7
         have c7b1 : decide (((x3_1 ++ (⟨#[44]⟩ : ByteArray)) ++ ((rd_T43 l0 x4_1).f0)).size + 1 ≤ 9223372036854775807) = true := decide_eq_true c7
         try have c7b2 : (9223372036854775807 < ((x3_1 ++ (⟨#[44]⟩ : ByteArray)) ++ ((rd_T43 l0 x4_1).f0)).size + 1) = False := eq_false (Nat.not_lt.2 c7)
         have c7q0 := c7b2
         try rw [ByteArray.size_append] at c7q0
         have c7r0 := c7b2
         try simp only [ByteArray.size_append] at c7r0
         have c7s0 := c7b2
         try simp only [ByteArray.size_append, (show (⟨#[44]⟩ : ByteArray).size = 1 from rfl), (show (⟨#[61]⟩ : ByteArray).size = 1 from rfl), (show (⟨#[]⟩ : ByteArray).size = 0 from rfl)] at c7s0
         have c7q1 := c7b0
         try rw [ByteArray.size_append] at c7q1
         have c7r1 := c7b0
         try simp only [ByteArray.size_append] at c7r1
         have c7s1 := c7b0
         try simp only [ByteArray.size_append, (show (⟨#[44]⟩ : ByteArray).size = 1 from rfl), (show (⟨#[61]⟩ : ByteArray).size = 1 from rfl), (show (⟨#[]⟩ : ByteArray).size = 0 from rfl)] at c7s1
         have c7q2 := c7b1
         try rw [ByteArray.size_append] at c7q2
         have c7r2 := c7b1
         try simp only [ByteArray.size_append] at c7r2
         have c7s2 := c7b1
         try simp only [ByteArray.size_append, (show (⟨#[44]⟩ : ByteArray).size = 1 from rfl), (show (⟨#[61]⟩ : ByteArray).size = 1 from rfl), (show (⟨#[]⟩ : ByteArray).size = 0 from rfl)] at c7s2
         by_cases c8 : (((x3_1 ++ (⟨#[44]⟩ : ByteArray)) ++ ((rd_T43 l0 x4_1).f0)) ++ (⟨#[61]⟩ : ByteArray)).size + ((rd_T43 l0 x4_1).f1).size ≤ 9223372036854775807
         ·rw [if_pos c8] at H
          have c8b0 := eq_true c8
          have c8b1 : decide ((((x3_1 ++ (⟨#[44]⟩ : ByteArray)) ++ ((rd_T43 l0 x4_1).f0)) ++ (⟨#[61]⟩ : ByteArray)).size + ((rd_T43 l0 x4_1).f1).size ≤ 9223372036854775807) = true := decide_eq_true c8
          try have c8b2 : (9223372036854775807 < (((x3_1 ++ (⟨#[44]⟩ : ByteArray)) ++ ((rd_T43 l0 x4_1).f0)) ++ (⟨#[61]⟩ : ByteArray)).size + ((rd_T43 l0 x4_1).f1).size) = False := eq_false (Nat.not_lt.2 c8)
          have c8q0 := c8b2
          try rw [ByteArray.size_append] at c8q0
          have c8r0 := c8b2
          try simp only [ByteArray.size_append] at c8r0
          have c8s0 := c8b2
          try simp only [ByteArray.size_append, (show (⟨#[44]⟩ : ByteArray).size = 1 from rfl), (show (⟨#[61]⟩ : ByteArray).size = 1 from rfl), (show (⟨#[]⟩ : ByteArray).size = 0 from rfl)] at c8s0
          have c8q1 := c8b0
          try rw [ByteArray.size_append] at c8q1
          have c8r1 := c8b0
          try simp only [ByteArray.size_append] at c8r1
          have c8s1 := c8b0
          try simp only [ByteArray.size_append, (show (⟨#[44]⟩ : ByteArray).size = 1 from rfl), (show (⟨#[61]⟩ : ByteArray).size = 1 from rfl), (show (⟨#[]⟩ : ByteArray).size = 0 from rfl)] at c8s1
          have c8q2 := c8b1
          try rw [ByteArray.size_append] at c8q2
          have c8r2 := c8b1
          try simp only [ByteArray.size_append] at c8r2
          have c8s2 := c8b1
          try simp only [ByteArray.size_append, (show (⟨#[44]⟩ : ByteArray).size = 1 from rfl), (show (⟨#[61]⟩ : ByteArray).size = 1 from rfl), (show (⟨#[]⟩ : ByteArray).size = 0 from rfl)] at c8s2
          have H' := Aside0.mk H
          clear H
          have p360 : 0 ≤ (x4_1 : Int) := of_decide_eq_true (by first | (with_reducible assumption) | assumption)
          have q360 : x4_1 < (l0.length : Int) := of_decide_eq_true (by first | (with_reducible assumption) | assumption)
          obtain ⟨ad360, e360, hx360_0, hx360_1⟩ := at_T43 HR0.out x4_1 p360 q360
          cases e360
          replace p360 := eq_true p360
          replace q360 := eq_true q360
          have p361 : 0 ≤ (x4_1 : Int) := of_decide_eq_true (by first | (with_reducible assumption) | assumption)
          have q361 : x4_1 < (l0.length : Int) := of_decide_eq_true (by first | (with_reducible assumption) | assumption)
          obtain ⟨ad361, e361, hx361_0, hx361_1⟩ := at_T43 HR0.out x4_1 p361 q361
          obtain rfl : ad360 = ad361 := (by injection e361)
          replace p361 := eq_true p361
          replace q361 := eq_true q361
          go_wp2
          repeat (go_quiet (fail); try go_wp2)
          go_roundg k1
          case measure => have := HK1.out; omega
          case rel => exact ⟨((((x3_1 ++ (⟨#[44]⟩ : ByteArray)) ++ ((rd_T43 l0 x4_1).f0)) ++ (⟨#[61]⟩ : ByteArray)) ++ ((rd_T43 l0 x4_1).f1)), (wrap64 (x4_1 + 1)), fs_, fs_, H', ⟨by have := HK1.out; omega⟩, by repeat (first | exact Drawn0.refl _ | apply Drawn0.step)⟩
         ·rw [if_neg c8] at H
          exact absurd H (by simp)
        ·rw [if_neg c7] at H
         exact absurd H (by simp)
       ·rw [if_neg c6] at H
        exact absurd H (by simp)
      ·rw [if_neg c5] at H
       exact absurd H (by simp)
     ·rw [if_neg c4] at H
      exact absurd H (by simp)
    ·rw [if_neg c3] at H
     have c3b0 : decide (0 < x4_1) = false := decide_eq_false c3
     clear c3
     by_cases c9 : 0 ≤ x4_1
     ·rw [if_pos c9] at H
      have c9b0 : decide (0 ≤ x4_1) = true := decide_eq_true c9
      clear c9
      by_cases c10 : x3_1.size + ((rd_T43 l0 x4_1).f0).size ≤ 9223372036854775807
      ·rw [if_pos c10] at H
       have c10b0 := eq_true c10
       have c10b1 : decide (x3_1.size + ((rd_T43 l0 x4_1).f0).size ≤ 9223372036854775807) = true := decide_eq_true c10
       try have c10b2 : (9223372036854775807 < x3_1.size + ((rd_T43 l0 x4_1).f0).size) = False := eq_false (Nat.not_lt.2 c10)
       by_cases c11 : (x3_1 ++ ((rd_T43 l0 x4_1).f0)).size + 1 ≤ 9223372036854775807
       ·rw [if_pos c11] at H
        have c11b0 := eq_true c11
        have c11b1 : decide ((x3_1 ++ ((rd_T43 l0 x4_1).f0)).size + 1 ≤ 9223372036854775807) = true := decide_eq_true c11
        try have c11b2 : (9223372036854775807 < (x3_1 ++ ((rd_T43 l0 x4_1).f0)).size + 1) = False := eq_false (Nat.not_lt.2 c11)
        have c11q0 := c11b2
        try rw [ByteArray.size_append] at c11q0
        have c11r0 := c11b2
        try simp only [ByteArray.size_append] at c11r0
        have c11s0 := c11b2
        try simp only [ByteArray.size_append, (show (⟨#[44]⟩ : ByteArray).size = 1 from rfl), (show (⟨#[61]⟩ : ByteArray).size = 1 from rfl), (show (⟨#[]⟩ : ByteArray).size = 0 from rfl)] at c11s0
        have c11q1 := c11b0
        try rw [ByteArray.size_append] at c11q1
        have c11r1 := c11b0
        try simp only [ByteArray.size_append] at c11r1
        have c11s1 := c11b0
        try simp only [ByteArray.size_append, (show (⟨#[44]⟩ : ByteArray).size = 1 from rfl), (show (⟨#[61]⟩ : ByteArray).size = 1 from rfl), (show (⟨#[]⟩ : ByteArray).size = 0 from rfl)] at c11s1
        have c11q2 := c11b1
        try rw [ByteArray.size_append] at c11q2
        have c11r2 := c11b1
        try simp only [ByteArray.size_append] at c11r2
        have c11s2 := c11b1
        try simp only [ByteArray.size_append, (show (⟨#[44]⟩ : ByteArray).size = 1 from rfl), (show (⟨#[61]⟩ : ByteArray).size = 1 from rfl), (show (⟨#[]⟩ : ByteArray).size = 0 from rfl)] at c11s2
        by_cases c12 : ((x3_1 ++ ((rd_T43 l0 x4_1).f0)) ++ (⟨#[61]⟩ : ByteArray)).size + ((rd_T43 l0 x4_1).f1).size ≤ 9223372036854775807
        ·rw [if_pos c12] at H
         have c12b0 := eq_true c12
         have c12b1 : decide (((x3_1 ++ ((rd_T43 l0 x4_1).f0)) ++ (⟨#[61]⟩ : ByteArray)).size + ((rd_T43 l0 x4_1).f1).size ≤ 9223372036854775807) = true := decide_eq_true c12
         try have c12b2 : (9223372036854775807 < ((x3_1 ++ ((rd_T43 l0 x4_1).f0)) ++ (⟨#[61]⟩ : ByteArray)).size + ((rd_T43 l0 x4_1).f1).size) = False := eq_false (Nat.not_lt.2 c12)
         have c12q0 := c12b2
         try rw [ByteArray.size_append] at c12q0
         have c12r0 := c12b2
         try simp only [ByteArray.size_append] at c12r0
         have c12s0 := c12b2
         try simp only [ByteArray.size_append, (show (⟨#[44]⟩ : ByteArray).size = 1 from rfl), (show (⟨#[61]⟩ : ByteArray).size = 1 from rfl), (show (⟨#[]⟩ : ByteArray).size = 0 from rfl)] at c12s0
         have c12q1 := c12b0
         try rw [ByteArray.size_append] at c12q1
         have c12r1 := c12b0
         try simp only [ByteArray.size_append] at c12r1
         have c12s1 := c12b0
         try simp only [ByteArray.size_append, (show (⟨#[44]⟩ : ByteArray).size = 1 from rfl), (show (⟨#[61]⟩ : ByteArray).size = 1 from rfl), (show (⟨#[]⟩ : ByteArray).size = 0 from rfl)] at c12s1
         have c12q2 := c12b1
         try rw [ByteArray.size_append] at c12q2
         have c12r2 := c12b1
         try simp only [ByteArray.size_append] at c12r2
         have c12s2 := c12b1
         try simp only [ByteArray.size_append, (show (⟨#[44]⟩ : ByteArray).size = 1 from rfl), (show (⟨#[61]⟩ : ByteArray).size = 1 from rfl), (show (⟨#[]⟩ : ByteArray).size = 0 from rfl)] at c12s2
         have H' := Aside0.mk H
         clear H
         have p362 : 0 ≤ (x4_1 : Int) := of_decide_eq_true (by first | (with_reducible assumption) | assumption)
         have q362 : x4_1 < (l0.length : Int) := of_decide_eq_true (by first | (with_reducible assumption) | assumption)
         obtain ⟨ad362, e362, hx362_0, hx362_1⟩ := at_T43 HR0.out x4_1 p362 q362
         cases e362
         replace p362 := eq_true p362
         replace q362 := eq_true q362
         have p363 : 0 ≤ (x4_1 : Int) := of_decide_eq_true (by first | (with_reducible assumption) | assumption)
         have q363 : x4_1 < (l0.length : Int) := of_decide_eq_true (by first | (with_reducible assumption) | assumption)
         obtain ⟨ad363, e363, hx363_0, hx363_1⟩ := at_T43 HR0.out x4_1 p363 q363
         obtain rfl : ad362 = ad363 := (by injection e363)
         replace p363 := eq_true p363
         replace q363 := eq_true q363
         go_wp2
         repeat (go_quiet (fail); try go_wp2)
         go_roundg k1
         case measure => have := HK1.out; omega
         case rel => exact ⟨(((x3_1 ++ ((rd_T43 l0 x4_1).f0)) ++ (⟨#[61]⟩ : ByteArray)) ++ ((rd_T43 l0 x4_1).f1)), (wrap64 (x4_1 + 1)), fs_, fs_, H', ⟨by have := HK1.out; omega⟩, by repeat (first | exact Drawn0.refl _ | apply Drawn0.step)⟩
        ·rw [if_neg c12] at H
         exact absurd H (by simp)
       ·rw [if_neg c11] at H
        exact absurd H (by simp)
      ·rw [if_neg c10] at H
       exact absurd H (by simp)
     ·rw [if_neg c9] at H
      exact absurd H (by simp)
   ·rw [if_neg c2] at H
    have c2b0 : decide (x4_1 < (l0.length : Int)) = false := decide_eq_false c2
    clear c2
    obtain rfl := Option.some.inj H
    go_wp2
    repeat (go_quiet (fail); try go_wp2)
    go_ret
    exact ⟨by first | rfl | (simp; done) | (simp [*]; done), by repeat (first | exact Drawn0.refl _ | apply Drawn0.step)⟩

end Go.Proofs.Ytfnfjkddlnnolaa.P
namespace Go.Proofs.Ytfnfjkddlnnolaa.P
open Go.RowKit Go.Proofs.YtfnfjkddlnnolaaW.PrintWords Go.Proofs.YtfnfjkddlnnolaaW.PrintLast Go.Proofs.YtfnfjkddlnnolaaW.PrintMore
attribute [local go_sem] max2_int min2_int max_two min_two max_three min_three max_four min_four   -- for this text's walks alone
set_option linter.unusedVariables false
set_option linter.unusedSimpArgs false

mutual
def drayageref03_PrintTerms.l0 : Nat → List (S38) → ByteArray → Int → Option (ByteArray)
 | 0, _, _, _ => none
 | k + 1, x0, x3, x4 => if x4 < (x0.length : Int) then (if x4 > 0 then (if x3.size + 1 ≤ 9223372036854775807 then (drayageref03_PrintTerms.j1 k x0 (x3 ++ (⟨#[44]⟩ : ByteArray)) x4) else (none)) else (drayageref03_PrintTerms.j1 k x0 x3 x4)) else (some x3)
def drayageref03_PrintTerms.j1 : Nat → List (S38) → ByteArray → Int → Option (ByteArray)
 | 0, _, _, _ => none
 | k + 1, x0, x3, x4 => if 0 ≤ x4 then (if x4 < (x0.length : Int) then (if ((rd_T38 x0 x4).f0) = 1 then (if x3.size + ((rd_T38 x0 x4).f1).size ≤ 9223372036854775807 then (if (x3 ++ ((rd_T38 x0 x4).f1)).size + 1 ≤ 9223372036854775807 then (if ((x3 ++ ((rd_T38 x0 x4).f1)) ++ (⟨#[61]⟩ : ByteArray)).size + ((rd_T38 x0 x4).f2).size ≤ 9223372036854775807 then (drayageref03_PrintTerms.l0 k x0 (((x3 ++ ((rd_T38 x0 x4).f1)) ++ (⟨#[61]⟩ : ByteArray)) ++ ((rd_T38 x0 x4).f2)) (wrap64 (x4 + 1))) else (none)) else (none)) else (none)) else (if ((rd_T38 x0 x4).f0) = 2 then (if x3.size + ((rd_T38 x0 x4).f1).size ≤ 9223372036854775807 then (if (x3 ++ ((rd_T38 x0 x4).f1)).size + 2 ≤ 9223372036854775807 then (if ((x3 ++ ((rd_T38 x0 x4).f1)) ++ (⟨#[33, 61]⟩ : ByteArray)).size + ((rd_T38 x0 x4).f2).size ≤ 9223372036854775807 then (drayageref03_PrintTerms.l0 k x0 (((x3 ++ ((rd_T38 x0 x4).f1)) ++ (⟨#[33, 61]⟩ : ByteArray)) ++ ((rd_T38 x0 x4).f2)) (wrap64 (x4 + 1))) else (none)) else (none)) else (none)) else (if ((rd_T38 x0 x4).f0) = 3 then (if x3.size + ((rd_T38 x0 x4).f1).size ≤ 9223372036854775807 then (drayageref03_PrintTerms.l0 k x0 (x3 ++ ((rd_T38 x0 x4).f1)) (wrap64 (x4 + 1))) else (none)) else (if ((rd_T38 x0 x4).f0) = 4 then (if x3.size + 1 ≤ 9223372036854775807 then (if (x3 ++ (⟨#[33]⟩ : ByteArray)).size + ((rd_T38 x0 x4).f1).size ≤ 9223372036854775807 then (drayageref03_PrintTerms.l0 k x0 ((x3 ++ (⟨#[33]⟩ : ByteArray)) ++ ((rd_T38 x0 x4).f1)) (wrap64 (x4 + 1))) else (none)) else (none)) else (drayageref03_PrintTerms.l0 k x0 x3 (wrap64 (x4 + 1))))))) else (none)) else (none)
end
def drayageref03_PrintTerms.f (k : Nat) (l0 : List (S38)) : Option (ByteArray) := drayageref03_PrintTerms.l0 k l0 (⟨#[]⟩ : ByteArray) 0
set_option maxHeartbeats 8000000 in
set_option maxRecDepth 100000 in
theorem drayageref03_PrintTerms.calls (k : Nat) (A0 : Option Addr) (c0 : Nat) (l0 : List (S38)) (r : ByteArray) (w : World) (hr0 : Kd.C k38 w A0 l0.length l0) (hc0 : l0.length ≤ c0) (h : drayageref03_PrintTerms.f k l0 = some r) :
  Calls Try.prog 28 #[.slice A0 l0.length c0] w fun e w' => e = .returned (.string r) ∧ Drawn0 w w' := by
 have HR0 := Aside0.mk hr0
 have HC0 := Aside0.mk hc0
 clear hr0 hc0
 have H : (drayageref03_PrintTerms.l0 k l0 (⟨#[]⟩ : ByteArray) 0) = some r := h
 clear h
 have H' := Aside0.mk H
 clear H
 go_enter Try.func28, Try.ntmps28
 go_wp2
 repeat (go_quiet (fail); try go_wp2)
 go_loopg [3, 4] k (fun kq v3 v4 w' => ∃ (x3_1 : ByteArray) (x4_1 : Int), v3 = .string x3_1 ∧ v4 = .int .i64 x4_1 ∧ Aside0 (drayageref03_PrintTerms.l0 kq l0 x3_1 x4_1 = some r) ∧ Aside0 (kq ≤ k) ∧ Drawn0 w w')
 case atStart => exact ⟨((⟨#[]⟩ : ByteArray)), (0), fs_, fs_, H', ⟨Nat.le_refl _⟩, by repeat (first | exact Drawn0.refl _ | apply Drawn0.step)⟩
 case round =>
  clear H'
  obtain ⟨x3_1, x4_1, rfl, rfl, HA, HK1, ⟨m1, rfl⟩⟩ := hrel
  cases gk with
  | zero => exact absurd HA.out (by simp [drayageref03_PrintTerms.l0])
  | succ k1 =>
   have H := HA.out
   clear HA
   simp only [drayageref03_PrintTerms.l0] at H
   by_cases c2 : x4_1 < (l0.length : Int)
   ·rw [if_pos c2] at H
    have c2b0 : decide (x4_1 < (l0.length : Int)) = true := decide_eq_true c2
    clear c2
    have HC3 := Aside0.mk H
    clear H
    go_upto_if 12 with (fail)
    repeat (go_quiet (fail); go_upto_if 12 with (fail))
    go_cut [3] (fun v3 wc => ∃ (kq : Nat) (x3_2 : ByteArray), v3 = .string x3_2 ∧ Aside0 (drayageref03_PrintTerms.j1 kq l0 x3_2 x4_1 = some r) ∧ Aside0 (kq ≤ k1) ∧ Drawn0 w wc)
    case first =>
     have H := HC3.out
     clear HC3
     by_cases c4 : x4_1 > 0
     ·rw [if_pos c4] at H
      have c4b0 : decide (0 < x4_1) = true := decide_eq_true c4
      clear c4
      (first | rw [c4b0] | (simp only [i64_w, i32_w]; rw [c4b0]) | skip)
      by_cases c5 : x3_1.size + 1 ≤ 9223372036854775807
      ·rw [if_pos c5] at H
       have c5b0 := eq_true c5
       have c5b1 : decide (x3_1.size + 1 ≤ 9223372036854775807) = true := decide_eq_true c5
       try have c5b2 : (9223372036854775807 < x3_1.size + 1) = False := eq_false (Nat.not_lt.2 c5)
       have H' := Aside0.mk H
       clear H
       go_wp2
       repeat (go_quiet (fail); try go_wp2)
       go_meet
       case rel => exact ⟨_, (x3_1 ++ (⟨#[44]⟩ : ByteArray)), fs_, H', ⟨by have := HK1.out; first | omega | exact Nat.le_refl _⟩, by repeat (first | exact Drawn0.refl _ | apply Drawn0.step)⟩
      ·rw [if_neg c5] at H
       exact absurd H (by simp)
     ·rw [if_neg c4] at H
      have c4b0 : decide (0 < x4_1) = false := decide_eq_false c4
      clear c4
      (first | rw [c4b0] | (simp only [i64_w, i32_w]; rw [c4b0]) | skip)
      have H' := Aside0.mk H
      clear H
      go_wp2
      repeat (go_quiet (fail); try go_wp2)
      go_meet
      case rel => exact ⟨_, (x3_1), fs_, H', ⟨by have := HK1.out; first | omega | exact Nat.le_refl _⟩, by repeat (first | exact Drawn0.refl _ | apply Drawn0.step)⟩
    case rest =>
     clear HC3
     (try clear c2); (try clear c2b0); (try clear p2); (try clear c4); (try clear c4b0); (try clear c5); (try clear c5b0); (try clear c5b1); (try clear c5b2)
     obtain ⟨kq, x3_2, rfl, HA, HJ2, ⟨mc2, rfl⟩⟩ := hcut
     cases kq with
     | zero => exact absurd HA.out (by simp [drayageref03_PrintTerms.j1])
     | succ kj2 =>
      have H := HA.out
      clear HA
      simp only [drayageref03_PrintTerms.j1] at H
      by_cases c6 : 0 ≤ x4_1
      ·rw [if_pos c6] at H
       have c6b0 : decide (0 ≤ x4_1) = true := decide_eq_true c6
       clear c6
       by_cases c7 : x4_1 < (l0.length : Int)
       ·rw [if_pos c7] at H
        have c7b0 : decide (x4_1 < (l0.length : Int)) = true := decide_eq_true c7
        clear c7
        by_cases c8 : ((rd_T38 l0 x4_1).f0) = 1
        ·rw [if_pos c8] at H
         have c8b0 : (((rd_T38 l0 x4_1).f0) == 1) = true := beq_iff_eq.mpr c8
         have c8b1 : (((rd_T38 l0 x4_1).f0) != 1) = false := bne_eq_false_iff_eq.mpr c8
         clear c8
         by_cases c9 : x3_2.size + ((rd_T38 l0 x4_1).f1).size ≤ 9223372036854775807
         ·rw [if_pos c9] at H
          have c9b0 := eq_true c9
          have c9b1 : decide (x3_2.size + ((rd_T38 l0 x4_1).f1).size ≤ 9223372036854775807) = true := decide_eq_true c9
          try have c9b2 : (9223372036854775807 < x3_2.size + ((rd_T38 l0 x4_1).f1).size) = False := eq_false (Nat.not_lt.2 c9)
          by_cases c10 : (x3_2 ++ ((rd_T38 l0 x4_1).f1)).size + 1 ≤ 9223372036854775807
          ·rw [if_pos c10] at H
           have c10b0 := eq_true c10
           have c10b1 : decide ((x3_2 ++ ((rd_T38 l0 x4_1).f1)).size + 1 ≤ 9223372036854775807) = true := decide_eq_true c10
           try have c10b2 : (9223372036854775807 < (x3_2 ++ ((rd_T38 l0 x4_1).f1)).size + 1) = False := eq_false (Nat.not_lt.2 c10)
           have c10q0 := c10b2
           try rw [ByteArray.size_append] at c10q0
           have c10r0 := c10b2
           try simp only [ByteArray.size_append] at c10r0
           have c10s0 := c10b2
           try simp only [ByteArray.size_append, (show (⟨#[33, 61]⟩ : ByteArray).size = 2 from rfl), (show (⟨#[33]⟩ : ByteArray).size = 1 from rfl), (show (⟨#[44]⟩ : ByteArray).size = 1 from rfl), (show (⟨#[61]⟩ : ByteArray).size = 1 from rfl), (show (⟨#[]⟩ : ByteArray).size = 0 from rfl)] at c10s0
           have c10q1 := c10b0
           try rw [ByteArray.size_append] at c10q1
           have c10r1 := c10b0
           try simp only [ByteArray.size_append] at c10r1
           have c10s1 := c10b0
           try simp only [ByteArray.size_append, (show (⟨#[33, 61]⟩ : ByteArray).size = 2 from rfl), (show (⟨#[33]⟩ : ByteArray).size = 1 from rfl), (show (⟨#[44]⟩ : ByteArray).size = 1 from rfl), (show (⟨#[61]⟩ : ByteArray).size = 1 from rfl), (show (⟨#[]⟩ : ByteArray).size = 0 from rfl)] at c10s1
           have c10q2 := c10b1
           try rw [ByteArray.size_append] at c10q2
           have c10r2 := c10b1
           try simp only [ByteArray.size_append] at c10r2
           have c10s2 := c10b1
           try simp only [ByteArray.size_append, (show (⟨#[33, 61]⟩ : ByteArray).size = 2 from rfl), (show (⟨#[33]⟩ : ByteArray).size = 1 from rfl), (show (⟨#[44]⟩ : ByteArray).size = 1 from rfl), (show (⟨#[61]⟩ : ByteArray).size = 1 from rfl), (show (⟨#[]⟩ : ByteArray).size = 0 from rfl)] at c10s2
           by_cases c11 : ((x3_2 ++ ((rd_T38 l0 x4_1).f1)) ++ (⟨#[61]⟩ : ByteArray)).size + ((rd_T38 l0 x4_1).f2).size ≤ 9223372036854775807
           ·rw [if_pos c11] at H
            have c11b0 := eq_true c11
            have c11b1 : decide (((x3_2 ++ ((rd_T38 l0 x4_1).f1)) ++ (⟨#[61]⟩ : ByteArray)).size + ((rd_T38 l0 x4_1).f2).size ≤ 9223372036854775807) = true := decide_eq_true c11
            try have c11b2 : (9223372036854775807 < ((x3_2 ++ ((rd_T38 l0 x4_1).f1)) ++ (⟨#[61]⟩ : ByteArray)).size + ((rd_T38 l0 x4_1).f2).size) = False := eq_false (Nat.not_lt.2 c11)
            have c11q0 := c11b2
            try rw [ByteArray.size_append] at c11q0
            have c11r0 := c11b2
            try simp only [ByteArray.size_append] at c11r0
            have c11s0 := c11b2
            try simp only [ByteArray.size_append, (show (⟨#[33, 61]⟩ : ByteArray).size = 2 from rfl), (show (⟨#[33]⟩ : ByteArray).size = 1 from rfl), (show (⟨#[44]⟩ : ByteArray).size = 1 from rfl), (show (⟨#[61]⟩ : ByteArray).size = 1 from rfl), (show (⟨#[]⟩ : ByteArray).size = 0 from rfl)] at c11s0
            have c11q1 := c11b0
            try rw [ByteArray.size_append] at c11q1
            have c11r1 := c11b0
            try simp only [ByteArray.size_append] at c11r1
            have c11s1 := c11b0
            try simp only [ByteArray.size_append, (show (⟨#[33, 61]⟩ : ByteArray).size = 2 from rfl), (show (⟨#[33]⟩ : ByteArray).size = 1 from rfl), (show (⟨#[44]⟩ : ByteArray).size = 1 from rfl), (show (⟨#[61]⟩ : ByteArray).size = 1 from rfl), (show (⟨#[]⟩ : ByteArray).size = 0 from rfl)] at c11s1
            have c11q2 := c11b1
            try rw [ByteArray.size_append] at c11q2
            have c11r2 := c11b1
            try simp only [ByteArray.size_append] at c11r2
            have c11s2 := c11b1
            try simp only [ByteArray.size_append, (show (⟨#[33, 61]⟩ : ByteArray).size = 2 from rfl), (show (⟨#[33]⟩ : ByteArray).size = 1 from rfl), (show (⟨#[44]⟩ : ByteArray).size = 1 from rfl), (show (⟨#[61]⟩ : ByteArray).size = 1 from rfl), (show (⟨#[]⟩ : ByteArray).size = 0 from rfl)] at c11s2
            have H' := Aside0.mk H
            clear H
            have p364 : 0 ≤ (x4_1 : Int) := of_decide_eq_true (by first | (with_reducible assumption) | assumption)
            have q364 : x4_1 < (l0.length : Int) := of_decide_eq_true (by first | (with_reducible assumption) | assumption)
            obtain ⟨ad364, e364, hx364_0, hx364_1, hx364_2⟩ := at_T38 HR0.out x4_1 p364 q364
            cases e364
            replace p364 := eq_true p364
            replace q364 := eq_true q364
            have p365 : 0 ≤ (x4_1 : Int) := of_decide_eq_true (by first | (with_reducible assumption) | assumption)
            have q365 : x4_1 < (l0.length : Int) := of_decide_eq_true (by first | (with_reducible assumption) | assumption)
            obtain ⟨ad365, e365, hx365_0, hx365_1, hx365_2⟩ := at_T38 HR0.out x4_1 p365 q365
            obtain rfl : ad364 = ad365 := (by injection e365)
            replace p365 := eq_true p365
            replace q365 := eq_true q365
            have p366 : 0 ≤ (x4_1 : Int) := of_decide_eq_true (by first | (with_reducible assumption) | assumption)
            have q366 : x4_1 < (l0.length : Int) := of_decide_eq_true (by first | (with_reducible assumption) | assumption)
            obtain ⟨ad366, e366, hx366_0, hx366_1, hx366_2⟩ := at_T38 HR0.out x4_1 p366 q366
            obtain rfl : ad364 = ad366 := (by injection e366)
            replace p366 := eq_true p366
            replace q366 := eq_true q366
            go_wp2
            repeat (go_quiet (fail); try go_wp2)
            go_roundg kj2
            case measure => have := HK1.out; have := HJ2.out; omega
            case rel => exact ⟨(((x3_2 ++ ((rd_T38 l0 x4_1).f1)) ++ (⟨#[61]⟩ : ByteArray)) ++ ((rd_T38 l0 x4_1).f2)), (wrap64 (x4_1 + 1)), fs_, fs_, H', ⟨by have := HK1.out; have := HJ2.out; omega⟩, by repeat (first | exact Drawn0.refl _ | apply Drawn0.step)⟩
           ·rw [if_neg c11] at H
            exact absurd H (by simp)
          ·rw [if_neg c10] at H
           exact absurd H (by simp)
         ·rw [if_neg c9] at H
          exact absurd H (by simp)
        ·rw [if_neg c8] at H
         have c8b0 : (((rd_T38 l0 x4_1).f0) == 1) = false := beq_eq_false_iff_ne.mpr c8
         have c8b1 : (((rd_T38 l0 x4_1).f0) != 1) = true := bne_iff_ne.mpr c8
         by_cases c12 : ((rd_T38 l0 x4_1).f0) = 2
         ·rw [if_pos c12] at H
          have c12b0 : (((rd_T38 l0 x4_1).f0) == 2) = true := beq_iff_eq.mpr c12
          have c12b1 : (((rd_T38 l0 x4_1).f0) != 2) = false := bne_eq_false_iff_eq.mpr c12
          clear c12
          by_cases c13 : x3_2.size + ((rd_T38 l0 x4_1).f1).size ≤ 9223372036854775807
          ·rw [if_pos c13] at H
           have c13b0 := eq_true c13
           have c13b1 : decide (x3_2.size + ((rd_T38 l0 x4_1).f1).size ≤ 9223372036854775807) = true := decide_eq_true c13
           try have c13b2 : (9223372036854775807 < x3_2.size + ((rd_T38 l0 x4_1).f1).size) = False := eq_false (Nat.not_lt.2 c13)
           by_cases c14 : (x3_2 ++ ((rd_T38 l0 x4_1).f1)).size + 2 ≤ 9223372036854775807
           ·rw [if_pos c14] at H
            have c14b0 := eq_true c14
            have c14b1 : decide ((x3_2 ++ ((rd_T38 l0 x4_1).f1)).size + 2 ≤ 9223372036854775807) = true := decide_eq_true c14
            try have c14b2 : (9223372036854775807 < (x3_2 ++ ((rd_T38 l0 x4_1).f1)).size + 2) = False := eq_false (Nat.not_lt.2 c14)
            have c14q0 := c14b2
            try rw [ByteArray.size_append] at c14q0
            have c14r0 := c14b2
            try simp only [ByteArray.size_append] at c14r0
            have c14s0 := c14b2
            try simp only [ByteArray.size_append, (show (⟨#[33, 61]⟩ : ByteArray).size = 2 from rfl), (show (⟨#[33]⟩ : ByteArray).size = 1 from rfl), (show (⟨#[44]⟩ : ByteArray).size = 1 from rfl), (show (⟨#[61]⟩ : ByteArray).size = 1 from rfl), (show (⟨#[]⟩ : ByteArray).size = 0 from rfl)] at c14s0
            have c14q1 := c14b0
            try rw [ByteArray.size_append] at c14q1
            have c14r1 := c14b0
            try simp only [ByteArray.size_append] at c14r1
            have c14s1 := c14b0
            try simp only [ByteArray.size_append, (show (⟨#[33, 61]⟩ : ByteArray).size = 2 from rfl), (show (⟨#[33]⟩ : ByteArray).size = 1 from rfl), (show (⟨#[44]⟩ : ByteArray).size = 1 from rfl), (show (⟨#[61]⟩ : ByteArray).size = 1 from rfl), (show (⟨#[]⟩ : ByteArray).size = 0 from rfl)] at c14s1
            have c14q2 := c14b1
            try rw [ByteArray.size_append] at c14q2
            have c14r2 := c14b1
            try simp only [ByteArray.size_append] at c14r2
            have c14s2 := c14b1
            try simp only [ByteArray.size_append, (show (⟨#[33, 61]⟩ : ByteArray).size = 2 from rfl), (show (⟨#[33]⟩ : ByteArray).size = 1 from rfl), (show (⟨#[44]⟩ : ByteArray).size = 1 from rfl), (show (⟨#[61]⟩ : ByteArray).size = 1 from rfl), (show (⟨#[]⟩ : ByteArray).size = 0 from rfl)] at c14s2
            by_cases c15 : ((x3_2 ++ ((rd_T38 l0 x4_1).f1)) ++ (⟨#[33, 61]⟩ : ByteArray)).size + ((rd_T38 l0 x4_1).f2).size ≤ 9223372036854775807
            ·rw [if_pos c15] at H
             have c15b0 := eq_true c15
             have c15b1 : decide (((x3_2 ++ ((rd_T38 l0 x4_1).f1)) ++ (⟨#[33, 61]⟩ : ByteArray)).size + ((rd_T38 l0 x4_1).f2).size ≤ 9223372036854775807) = true := decide_eq_true c15
             try have c15b2 : (9223372036854775807 < ((x3_2 ++ ((rd_T38 l0 x4_1).f1)) ++ (⟨#[33, 61]⟩ : ByteArray)).size + ((rd_T38 l0 x4_1).f2).size) = False := eq_false (Nat.not_lt.2 c15)
             have c15q0 := c15b2
             try rw [ByteArray.size_append] at c15q0
             have c15r0 := c15b2
             try simp only [ByteArray.size_append] at c15r0
             have c15s0 := c15b2
             try simp only [ByteArray.size_append, (show (⟨#[33, 61]⟩ : ByteArray).size = 2 from rfl), (show (⟨#[33]⟩ : ByteArray).size = 1 from rfl), (show (⟨#[44]⟩ : ByteArray).size = 1 from rfl), (show (⟨#[61]⟩ : ByteArray).size = 1 from rfl), (show (⟨#[]⟩ : ByteArray).size = 0 from rfl)] at c15s0
             have c15q1 := c15b0
             try rw [ByteArray.size_append] at c15q1
             have c15r1 := c15b0
             try simp only [ByteArray.size_append] at c15r1
             have c15s1 := c15b0
             try simp only [ByteArray.size_append, (show (⟨#[33, 61]⟩ : ByteArray).size = 2 from rfl), (show (⟨#[33]⟩ : ByteArray).size = 1 from rfl), (show (⟨#[44]⟩ : ByteArray).size = 1 from rfl), (show (⟨#[61]⟩ : ByteArray).size = 1 from rfl), (show (⟨#[]⟩ : ByteArray).size = 0 from rfl)] at c15s1
             have c15q2 := c15b1
             try rw [ByteArray.size_append] at c15q2
             have c15r2 := c15b1
             try simp only [ByteArray.size_append] at c15r2
             have c15s2 := c15b1
             try simp only [ByteArray.size_append, (show (⟨#[33, 61]⟩ : ByteArray).size = 2 from rfl), (show (⟨#[33]⟩ : ByteArray).size = 1 from rfl), (show (⟨#[44]⟩ : ByteArray).size = 1 from rfl), (show (⟨#[61]⟩ : ByteArray).size = 1 from rfl), (show (⟨#[]⟩ : ByteArray).size = 0 from rfl)] at c15s2
             have H' := Aside0.mk H
             clear H
             have p364 : 0 ≤ (x4_1 : Int) := of_decide_eq_true (by first | (with_reducible assumption) | assumption)
             have q364 : x4_1 < (l0.length : Int) := of_decide_eq_true (by first | (with_reducible assumption) | assumption)
             obtain ⟨ad364, e364, hx364_0, hx364_1, hx364_2⟩ := at_T38 HR0.out x4_1 p364 q364
             cases e364
             replace p364 := eq_true p364
             replace q364 := eq_true q364
             have p367 : 0 ≤ (x4_1 : Int) := of_decide_eq_true (by first | (with_reducible assumption) | assumption)
             have q367 : x4_1 < (l0.length : Int) := of_decide_eq_true (by first | (with_reducible assumption) | assumption)
             obtain ⟨ad367, e367, hx367_0, hx367_1, hx367_2⟩ := at_T38 HR0.out x4_1 p367 q367
             obtain rfl : ad364 = ad367 := (by injection e367)
             replace p367 := eq_true p367
             replace q367 := eq_true q367
             have p368 : 0 ≤ (x4_1 : Int) := of_decide_eq_true (by first | (with_reducible assumption) | assumption)
             have q368 : x4_1 < (l0.length : Int) := of_decide_eq_true (by first | (with_reducible assumption) | assumption)
             obtain ⟨ad368, e368, hx368_0, hx368_1, hx368_2⟩ := at_T38 HR0.out x4_1 p368 q368
             obtain rfl : ad364 = ad368 := (by injection e368)
             replace p368 := eq_true p368
             replace q368 := eq_true q368
             go_wp2
             repeat (go_quiet (fail); try go_wp2)
             go_roundg kj2
             case measure => have := HK1.out; have := HJ2.out; omega
             case rel => exact ⟨(((x3_2 ++ ((rd_T38 l0 x4_1).f1)) ++ (⟨#[33, 61]⟩ : ByteArray)) ++ ((rd_T38 l0 x4_1).f2)), (wrap64 (x4_1 + 1)), fs_, fs_, H', ⟨by have := HK1.out; have := HJ2.out; omega⟩, by repeat (first | exact Drawn0.refl _ | apply Drawn0.step)⟩
            ·rw [if_neg c15] at H
             exact absurd H (by simp)
           ·rw [if_neg c14] at H
            exact absurd H (by simp)
          ·rw [if_neg c13] at H
           exact absurd H (by simp)
         ·rw [if_neg c12] at H
          have c12b0 : (((rd_T38 l0 x4_1).f0) == 2) = false := beq_eq_false_iff_ne.mpr c12
          have c12b1 : (((rd_T38 l0 x4_1).f0) != 2) = true := bne_iff_ne.mpr c12
          by_cases c16 : ((rd_T38 l0 x4_1).f0) = 3
          ·rw [if_pos c16] at H
           have c16b0 : (((rd_T38 l0 x4_1).f0) == 3) = true := beq_iff_eq.mpr c16
           have c16b1 : (((rd_T38 l0 x4_1).f0) != 3) = false := bne_eq_false_iff_eq.mpr c16
           clear c16
           by_cases c17 : x3_2.size + ((rd_T38 l0 x4_1).f1).size ≤ 9223372036854775807
           ·rw [if_pos c17] at H
            have c17b0 := eq_true c17
            have c17b1 : decide (x3_2.size + ((rd_T38 l0 x4_1).f1).size ≤ 9223372036854775807) = true := decide_eq_true c17
            try have c17b2 : (9223372036854775807 < x3_2.size + ((rd_T38 l0 x4_1).f1).size) = False := eq_false (Nat.not_lt.2 c17)
            have H' := Aside0.mk H
            clear H
            have p364 : 0 ≤ (x4_1 : Int) := of_decide_eq_true (by first | (with_reducible assumption) | assumption)
            have q364 : x4_1 < (l0.length : Int) := of_decide_eq_true (by first | (with_reducible assumption) | assumption)
            obtain ⟨ad364, e364, hx364_0, hx364_1, hx364_2⟩ := at_T38 HR0.out x4_1 p364 q364
            cases e364
            replace p364 := eq_true p364
            replace q364 := eq_true q364
            have p369 : 0 ≤ (x4_1 : Int) := of_decide_eq_true (by first | (with_reducible assumption) | assumption)
            have q369 : x4_1 < (l0.length : Int) := of_decide_eq_true (by first | (with_reducible assumption) | assumption)
            obtain ⟨ad369, e369, hx369_0, hx369_1, hx369_2⟩ := at_T38 HR0.out x4_1 p369 q369
            obtain rfl : ad364 = ad369 := (by injection e369)
            replace p369 := eq_true p369
            replace q369 := eq_true q369
            go_wp2
            repeat (go_quiet (fail); try go_wp2)
            go_roundg kj2
            case measure => have := HK1.out; have := HJ2.out; omega
            case rel => exact ⟨(x3_2 ++ ((rd_T38 l0 x4_1).f1)), (wrap64 (x4_1 + 1)), fs_, fs_, H', ⟨by have := HK1.out; have := HJ2.out; omega⟩, by repeat (first | exact Drawn0.refl _ | apply Drawn0.step)⟩
           ·rw [if_neg c17] at H
            exact absurd H (by simp)
          ·rw [if_neg c16] at H
           have c16b0 : (((rd_T38 l0 x4_1).f0) == 3) = false := beq_eq_false_iff_ne.mpr c16
           have c16b1 : (((rd_T38 l0 x4_1).f0) != 3) = true := bne_iff_ne.mpr c16
           by_cases c18 : ((rd_T38 l0 x4_1).f0) = 4
           ·rw [if_pos c18] at H
            have c18b0 : (((rd_T38 l0 x4_1).f0) == 4) = true := beq_iff_eq.mpr c18
            have c18b1 : (((rd_T38 l0 x4_1).f0) != 4) = false := bne_eq_false_iff_eq.mpr c18
            clear c18
            by_cases c19 : x3_2.size + 1 ≤ 9223372036854775807
            ·rw [if_pos c19] at H
             have c19b0 := eq_true c19
             have c19b1 : decide (x3_2.size + 1 ≤ 9223372036854775807) = true := decide_eq_true c19
             try have c19b2 : (9223372036854775807 < x3_2.size + 1) = False := eq_false (Nat.not_lt.2 c19)
             by_cases c20 : (x3_2 ++ (⟨#[33]⟩ : ByteArray)).size + ((rd_T38 l0 x4_1).f1).size ≤ 9223372036854775807
             ·rw [if_pos c20] at H
              have c20b0 := eq_true c20
              have c20b1 : decide ((x3_2 ++ (⟨#[33]⟩ : ByteArray)).size + ((rd_T38 l0 x4_1).f1).size ≤ 9223372036854775807) = true := decide_eq_true c20
              try have c20b2 : (9223372036854775807 < (x3_2 ++ (⟨#[33]⟩ : ByteArray)).size + ((rd_T38 l0 x4_1).f1).size) = False := eq_false (Nat.not_lt.2 c20)
              have c20q0 := c20b2
              try rw [ByteArray.size_append] at c20q0
              have c20r0 := c20b2
              try simp only [ByteArray.size_append] at c20r0
              have c20s0 := c20b2
              try simp only [ByteArray.size_append, (show (⟨#[33, 61]⟩ : ByteArray).size = 2 from rfl), (show (⟨#[33]⟩ : ByteArray).size = 1 from rfl), (show (⟨#[44]⟩ : ByteArray).size = 1 from rfl), (show (⟨#[61]⟩ : ByteArray).size = 1 from rfl), (show (⟨#[]⟩ : ByteArray).size = 0 from rfl)] at c20s0
              have c20q1 := c20b0
              try rw [ByteArray.size_append] at c20q1
              have c20r1 := c20b0
              try simp only [ByteArray.size_append] at c20r1
              have c20s1 := c20b0
              try simp only [ByteArray.size_append, (show (⟨#[33, 61]⟩ : ByteArray).size = 2 from rfl), (show (⟨#[33]⟩ : ByteArray).size = 1 from rfl), (show (⟨#[44]⟩ : ByteArray).size = 1 from rfl), (show (⟨#[61]⟩ : ByteArray).size = 1 from rfl), (show (⟨#[]⟩ : ByteArray).size = 0 from rfl)] at c20s1
              have c20q2 := c20b1
              try rw [ByteArray.size_append] at c20q2
              have c20r2 := c20b1
              try simp only [ByteArray.size_append] at c20r2
              have c20s2 := c20b1
              try simp only [ByteArray.size_append, (show (⟨#[33, 61]⟩ : ByteArray).size = 2 from rfl), (show (⟨#[33]⟩ : ByteArray).size = 1 from rfl), (show (⟨#[44]⟩ : ByteArray).size = 1 from rfl), (show (⟨#[61]⟩ : ByteArray).size = 1 from rfl), (show (⟨#[]⟩ : ByteArray).size = 0 from rfl)] at c20s2
              have H' := Aside0.mk H
              clear H
              have p364 : 0 ≤ (x4_1 : Int) := of_decide_eq_true (by first | (with_reducible assumption) | assumption)
              have q364 : x4_1 < (l0.length : Int) := of_decide_eq_true (by first | (with_reducible assumption) | assumption)
              obtain ⟨ad364, e364, hx364_0, hx364_1, hx364_2⟩ := at_T38 HR0.out x4_1 p364 q364
              cases e364
              replace p364 := eq_true p364
              replace q364 := eq_true q364
              have p370 : 0 ≤ (x4_1 : Int) := of_decide_eq_true (by first | (with_reducible assumption) | assumption)
              have q370 : x4_1 < (l0.length : Int) := of_decide_eq_true (by first | (with_reducible assumption) | assumption)
              obtain ⟨ad370, e370, hx370_0, hx370_1, hx370_2⟩ := at_T38 HR0.out x4_1 p370 q370
              obtain rfl : ad364 = ad370 := (by injection e370)
              replace p370 := eq_true p370
              replace q370 := eq_true q370
              go_wp2
              repeat (go_quiet (fail); try go_wp2)
              go_roundg kj2
              case measure => have := HK1.out; have := HJ2.out; omega
              case rel => exact ⟨((x3_2 ++ (⟨#[33]⟩ : ByteArray)) ++ ((rd_T38 l0 x4_1).f1)), (wrap64 (x4_1 + 1)), fs_, fs_, H', ⟨by have := HK1.out; have := HJ2.out; omega⟩, by repeat (first | exact Drawn0.refl _ | apply Drawn0.step)⟩
             ·rw [if_neg c20] at H
              exact absurd H (by simp)
            ·rw [if_neg c19] at H
             exact absurd H (by simp)
           ·rw [if_neg c18] at H
            have c18b0 : (((rd_T38 l0 x4_1).f0) == 4) = false := beq_eq_false_iff_ne.mpr c18
            have c18b1 : (((rd_T38 l0 x4_1).f0) != 4) = true := bne_iff_ne.mpr c18
            have H' := Aside0.mk H
            clear H
            have p364 : 0 ≤ (x4_1 : Int) := of_decide_eq_true (by first | (with_reducible assumption) | assumption)
            have q364 : x4_1 < (l0.length : Int) := of_decide_eq_true (by first | (with_reducible assumption) | assumption)
            obtain ⟨ad364, e364, hx364_0, hx364_1, hx364_2⟩ := at_T38 HR0.out x4_1 p364 q364
            cases e364
            replace p364 := eq_true p364
            replace q364 := eq_true q364
            go_wp2
            repeat (go_quiet (fail); try go_wp2)
            go_roundg kj2
            case measure => have := HK1.out; have := HJ2.out; omega
            case rel => exact ⟨(x3_2), (wrap64 (x4_1 + 1)), fs_, fs_, H', ⟨by have := HK1.out; have := HJ2.out; omega⟩, by repeat (first | exact Drawn0.refl _ | apply Drawn0.step)⟩
       ·rw [if_neg c7] at H
        exact absurd H (by simp)
      ·rw [if_neg c6] at H
       exact absurd H (by simp)
   ·rw [if_neg c2] at H
    have c2b0 : decide (x4_1 < (l0.length : Int)) = false := decide_eq_false c2
    clear c2
    obtain rfl := Option.some.inj H
    go_wp2
    repeat (go_quiet (fail); try go_wp2)
    go_ret
    exact ⟨by first | rfl | (simp; done) | (simp [*]; done), by repeat (first | exact Drawn0.refl _ | apply Drawn0.step)⟩

end Go.Proofs.Ytfnfjkddlnnolaa.P
