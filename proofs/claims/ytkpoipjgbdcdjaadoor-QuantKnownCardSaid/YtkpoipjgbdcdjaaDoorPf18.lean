import Derived.Test.YtkpoipjgbdcdjaaDoorP0
import Derived.Test.YtkpoipjgbdcdjaaDoorHlib
namespace Go.Proofs.YtkpoipjgbdcdjaaDoor.P
open Go.RowKit Go.Proofs.YtkpoipjgbdcdjaaDoorW.PrintWords Go.Proofs.YtkpoipjgbdcdjaaDoorW.PrintLast Go.Proofs.YtkpoipjgbdcdjaaDoorW.PrintMore
attribute [local go_sem] max2_int min2_int max_two min_two max_three min_three max_four min_four   -- for this text's walks alone
set_option linter.unusedVariables false
set_option linter.unusedSimpArgs false

def quant_PrintPercent.j0 : Nat → Int → Bool → Option (ByteArray × Int)
 | 0, _, _ => none
 | k + 1, x0, x10 => if x10 = true then (some ((⟨#[]⟩ : ByteArray), 2)) else ((strconv_Itoa_22.f (wrap64 (Int.tdiv x0 10))).bind fun t143 => (if (Int.tmod x0 10) = 0 then (if t143.size + 1 ≤ 9223372036854775807 then (some (t143 ++ (⟨#[37]⟩ : ByteArray), 0)) else (none)) else ((strconv_Itoa_22.f (Int.tmod x0 10)).bind fun t144 => (if 1 + t144.size ≤ 9223372036854775807 then (if t143.size + ((⟨#[46]⟩ : ByteArray) ++ t144).size ≤ 9223372036854775807 then (if (t143 ++ ((⟨#[46]⟩ : ByteArray) ++ t144)).size + 1 ≤ 9223372036854775807 then (some ((t143 ++ ((⟨#[46]⟩ : ByteArray) ++ t144)) ++ (⟨#[37]⟩ : ByteArray), 0)) else (none)) else (none)) else (none)))))
def quant_PrintPercent.f (k : Nat) (a0 : Int) : Option (ByteArray × Int) := if a0 < 0 then (quant_PrintPercent.j0 k a0 true) else (quant_PrintPercent.j0 k a0 (decide (a0 > 1000)))
theorem quant_PrintPercent.mono_l : ∀ k, (∀ y0 y1, LeO (quant_PrintPercent.j0 k y0 y1) (quant_PrintPercent.j0 (k + 1) y0 y1))
 | 0 => fun _ _ r h => by simp [quant_PrintPercent.j0] at h
 | k + 1 => by
  have ih0 := quant_PrintPercent.mono_l k
  ·intro y0 y1
   unfold quant_PrintPercent.j0
   repeat' first
   | (with_reducible exact ih0 _ _)
   | (with_reducible exact LeO.refl _)
   | (with_reducible exact LeO.none _)
   | (with_reducible refine LeO.ite ?_ ?_)
   | (with_reducible refine LeO.bind ?_ (fun _ => ?_))
   | exact ih0 _ _
   | exact LeO.none _
   | refine LeO.ite ?_ ?_
   | refine LeO.bind ?_ (fun _ => ?_)
theorem quant_PrintPercent.mono : ∀ a0 k, LeO (quant_PrintPercent.f k a0) (quant_PrintPercent.f (k + 1) a0) := by
 intro a0 k
 have ih0 := quant_PrintPercent.mono_l k
 unfold quant_PrintPercent.f
 repeat' first
   | (with_reducible exact ih0 _ _)
   | (with_reducible exact LeO.refl _)
   | (with_reducible exact LeO.none _)
   | (with_reducible refine LeO.ite ?_ ?_)
   | (with_reducible refine LeO.bind ?_ (fun _ => ?_))
   | exact ih0 _ _
   | exact LeO.none _
   | refine LeO.ite ?_ ?_
   | refine LeO.bind ?_ (fun _ => ?_)
set_option maxHeartbeats 8000000 in
set_option maxRecDepth 100000 in
theorem quant_PrintPercent.calls (k : Nat) (a0 : Int) (r1 : ByteArray) (r2 : Int) (w : World) (h : quant_PrintPercent.f k a0 = some (r1, r2)) (hT0 : Tb w) :
  Calls Tryd.prog 18 #[.int .i64 a0] w fun e w' => e = .returned (.tuple #[.string r1, .int .i64 r2]) ∧ Below w.heap.size w w' := by
 have hT_ := Aside0.mk hT0
 clear hT0
 have HB := Aside0.mk (Below.refl w.heap.size w)
 have H : (if a0 < 0 then (quant_PrintPercent.j0 k a0 true) else (quant_PrintPercent.j0 k a0 (decide (a0 > 1000)))) = some (r1, r2) := h
 clear h
 have HC2 := Aside0.mk H
 clear H
 go_enter Tryd.func18, Tryd.ntmps18
 go_upto_region 1 with (fail)
 go_cut [10] (fun v10 wc => ∃ (kq : Nat) (x10_1 : Bool), v10 = .bool x10_1 ∧ Aside0 (quant_PrintPercent.j0 kq a0 x10_1 = some (r1, r2)) ∧ Aside0 (kq ≤ k) ∧ Aside0 (Below w.heap.size w wc))
 case first =>
  have H := HC2.out
  clear HC2
  by_cases c3 : a0 < 0
  ·rw [if_pos c3] at H
   have c3b0 : decide (a0 < 0) = true := decide_eq_true c3
   clear c3
   (first | rw [c3b0] | (simp only [i64_w, i32_w]; rw [c3b0]) | skip)
   have H' := Aside0.mk H
   clear H
   go_wp2
   go_meet
   case rel => exact ⟨_, (true), fs_, H', ⟨by first | omega | exact Nat.le_refl _⟩, ⟨bw_⟩⟩
  ·rw [if_neg c3] at H
   have c3b0 : decide (a0 < 0) = false := decide_eq_false c3
   clear c3
   (first | rw [c3b0] | (simp only [i64_w, i32_w]; rw [c3b0]) | skip)
   have H' := Aside0.mk H
   clear H
   go_wp2
   go_meet
   case rel => exact ⟨_, (decide (a0 > 1000)), fs_, H', ⟨by first | omega | exact Nat.le_refl _⟩, ⟨bw_⟩⟩
 case rest =>
  clear HC2
  (try clear c1); (try clear p2); (try clear c3); (try clear c3b0)
  obtain ⟨kq, x10_1, rfl, HA, HJ1, HB⟩ := hcut
  cases kq with
  | zero => exact absurd HA.out (by simp [quant_PrintPercent.j0])
  | succ kj1 =>
   have H := HA.out
   clear HA
   simp only [quant_PrintPercent.j0] at H
   by_cases c4 : x10_1 = true
   ·subst c4
    rw [if_pos rfl] at H
    simp only [Option.some.injEq, Prod.mk.injEq] at H
    obtain ⟨rfl, rfl⟩ := H
    go_wp2
    go_ret2
    exact ⟨fi_, bw_⟩
   ·replace c4 := Bool.eq_false_iff.mpr c4
    subst c4
    have H1 : ((strconv_Itoa_22.f (wrap64 (Int.tdiv a0 10))).bind fun t143 => (if (Int.tmod a0 10) = 0 then (if t143.size + 1 ≤ 9223372036854775807 then (some (t143 ++ (⟨#[37]⟩ : ByteArray), 0)) else (none)) else ((strconv_Itoa_22.f (Int.tmod a0 10)).bind fun t144 => (if 1 + t144.size ≤ 9223372036854775807 then (if t143.size + ((⟨#[46]⟩ : ByteArray) ++ t144).size ≤ 9223372036854775807 then (if (t143 ++ ((⟨#[46]⟩ : ByteArray) ++ t144)).size + 1 ≤ 9223372036854775807 then (some ((t143 ++ ((⟨#[46]⟩ : ByteArray) ++ t144)) ++ (⟨#[37]⟩ : ByteArray), 0)) else (none)) else (none)) else (none))))) = some (r1, r2) := by rw [if_neg (show ¬ (false = true) by decide)] at H; exact H
    clear H
    have H := H1
    clear H1
    replace H := Option.bind_eq_some_iff.mp H
    obtain ⟨t143, A50, H⟩ := H
    try dsimp only at H
    have A5 := Aside0.mk A50
    clear A50
    by_cases c6 : (Int.tmod a0 10) = 0
    ·rw [if_pos c6] at H
     have c6b0 : ((Int.tmod a0 10) == 0) = true := beq_iff_eq.mpr c6
     have c6b1 : ((Int.tmod a0 10) != 0) = false := bne_eq_false_iff_eq.mpr c6
     clear c6
     by_cases c7 : t143.size + 1 ≤ 9223372036854775807
     ·rw [if_pos c7] at H
      have c7b0 := eq_true c7
      have c7b1 : decide (t143.size + 1 ≤ 9223372036854775807) = true := decide_eq_true c7
      try have c7b2 : (9223372036854775807 < t143.size + 1) = False := eq_false (Nat.not_lt.2 c7)
      simp only [Option.some.injEq, Prod.mk.injEq] at H
      obtain ⟨rfl, rfl⟩ := H
      go_wp2_with (first | ((with_reducible refine gate_callee (f := 22) rfl ?_); refine goesL_ (some 13) rfl rfl Tryd.func22 (by kernel_rfl) rfl #[.int .i64 (wrap64 (Int.tdiv a0 10))] rfl ca_ ?_; (with_reducible refine (strconv_Itoa_22.calls (wrap64 (Int.tdiv a0 10)) t143 _ A5.out ?sideT_).mono ?_); (case sideT_ => first | exact hT_.out | exact hT_.out.up bw_); rintro e w8 ⟨rfl, hb⟩; refine ⟨_, rfl, ?_⟩; replace HB := Aside0.mk (below_step bw_ hb); (try clear hb); (try clear hb2); (try clear hk); (try clear hi)))
      go_ret2
      exact ⟨fi_, bw_⟩
     ·rw [if_neg c7] at H
      exact absurd H (by simp)
    ·rw [if_neg c6] at H
     have c6b0 : ((Int.tmod a0 10) == 0) = false := beq_eq_false_iff_ne.mpr c6
     have c6b1 : ((Int.tmod a0 10) != 0) = true := bne_iff_ne.mpr c6
     replace H := Option.bind_eq_some_iff.mp H
     obtain ⟨t144, A90, H⟩ := H
     try dsimp only at H
     have A9 := Aside0.mk A90
     clear A90
     by_cases c10 : 1 + t144.size ≤ 9223372036854775807
     ·rw [if_pos c10] at H
      have c10b0 := eq_true c10
      have c10b1 : decide (1 + t144.size ≤ 9223372036854775807) = true := decide_eq_true c10
      try have c10b2 : (9223372036854775807 < 1 + t144.size) = False := eq_false (Nat.not_lt.2 c10)
      by_cases c11 : t143.size + ((⟨#[46]⟩ : ByteArray) ++ t144).size ≤ 9223372036854775807
      ·rw [if_pos c11] at H
       have c11b0 := eq_true c11
       have c11b1 : decide (t143.size + ((⟨#[46]⟩ : ByteArray) ++ t144).size ≤ 9223372036854775807) = true := decide_eq_true c11
       try have c11b2 : (9223372036854775807 < t143.size + ((⟨#[46]⟩ : ByteArray) ++ t144).size) = False := eq_false (Nat.not_lt.2 c11)
       have c11q0 := c11b2
       try rw [ByteArray.size_append] at c11q0
       have c11r0 := c11b2
       try simp only [ByteArray.size_append] at c11r0
       have c11s0 := c11b2
       try simp only [ByteArray.size_append, (show (⟨#[37]⟩ : ByteArray).size = 1 from rfl), (show (⟨#[46]⟩ : ByteArray).size = 1 from rfl), (show (⟨#[]⟩ : ByteArray).size = 0 from rfl)] at c11s0
       have c11q1 := c11b0
       try rw [ByteArray.size_append] at c11q1
       have c11r1 := c11b0
       try simp only [ByteArray.size_append] at c11r1
       have c11s1 := c11b0
       try simp only [ByteArray.size_append, (show (⟨#[37]⟩ : ByteArray).size = 1 from rfl), (show (⟨#[46]⟩ : ByteArray).size = 1 from rfl), (show (⟨#[]⟩ : ByteArray).size = 0 from rfl)] at c11s1
       have c11q2 := c11b1
       try rw [ByteArray.size_append] at c11q2
       have c11r2 := c11b1
       try simp only [ByteArray.size_append] at c11r2
       have c11s2 := c11b1
       try simp only [ByteArray.size_append, (show (⟨#[37]⟩ : ByteArray).size = 1 from rfl), (show (⟨#[46]⟩ : ByteArray).size = 1 from rfl), (show (⟨#[]⟩ : ByteArray).size = 0 from rfl)] at c11s2
       by_cases c12 : (t143 ++ ((⟨#[46]⟩ : ByteArray) ++ t144)).size + 1 ≤ 9223372036854775807
       ·rw [if_pos c12] at H
        have c12b0 := eq_true c12
        have c12b1 : decide ((t143 ++ ((⟨#[46]⟩ : ByteArray) ++ t144)).size + 1 ≤ 9223372036854775807) = true := decide_eq_true c12
        try have c12b2 : (9223372036854775807 < (t143 ++ ((⟨#[46]⟩ : ByteArray) ++ t144)).size + 1) = False := eq_false (Nat.not_lt.2 c12)
        have c12q0 := c12b2
        try rw [ByteArray.size_append] at c12q0
        have c12r0 := c12b2
        try simp only [ByteArray.size_append] at c12r0
        have c12s0 := c12b2
        try simp only [ByteArray.size_append, (show (⟨#[37]⟩ : ByteArray).size = 1 from rfl), (show (⟨#[46]⟩ : ByteArray).size = 1 from rfl), (show (⟨#[]⟩ : ByteArray).size = 0 from rfl)] at c12s0
        have c12q1 := c12b0
        try rw [ByteArray.size_append] at c12q1
        have c12r1 := c12b0
        try simp only [ByteArray.size_append] at c12r1
        have c12s1 := c12b0
        try simp only [ByteArray.size_append, (show (⟨#[37]⟩ : ByteArray).size = 1 from rfl), (show (⟨#[46]⟩ : ByteArray).size = 1 from rfl), (show (⟨#[]⟩ : ByteArray).size = 0 from rfl)] at c12s1
        have c12q2 := c12b1
        try rw [ByteArray.size_append] at c12q2
        have c12r2 := c12b1
        try simp only [ByteArray.size_append] at c12r2
        have c12s2 := c12b1
        try simp only [ByteArray.size_append, (show (⟨#[37]⟩ : ByteArray).size = 1 from rfl), (show (⟨#[46]⟩ : ByteArray).size = 1 from rfl), (show (⟨#[]⟩ : ByteArray).size = 0 from rfl)] at c12s2
        simp only [Option.some.injEq, Prod.mk.injEq] at H
        obtain ⟨rfl, rfl⟩ := H
        go_wp2_with (first | ((with_reducible refine gate_callee (f := 22) rfl ?_); refine goesL_ (some 13) rfl rfl Tryd.func22 (by kernel_rfl) rfl #[.int .i64 (wrap64 (Int.tdiv a0 10))] rfl ca_ ?_; (with_reducible refine (strconv_Itoa_22.calls (wrap64 (Int.tdiv a0 10)) t143 _ A5.out ?sideT_).mono ?_); (case sideT_ => first | exact hT_.out | exact hT_.out.up bw_); rintro e w13 ⟨rfl, hb⟩; refine ⟨_, rfl, ?_⟩; replace HB := Aside0.mk (below_step bw_ hb); (try clear hb); (try clear hb2); (try clear hk); (try clear hi)) | ((with_reducible refine gate_callee (f := 22) rfl ?_); refine goesL_ (some 20) rfl rfl Tryd.func22 (by kernel_rfl) rfl #[.int .i64 (Int.tmod a0 10)] rfl ca_ ?_; (with_reducible refine (strconv_Itoa_22.calls (Int.tmod a0 10) t144 _ A9.out ?sideT_).mono ?_); (case sideT_ => first | exact hT_.out | exact hT_.out.up bw_); rintro e w14 ⟨rfl, hb⟩; refine ⟨_, rfl, ?_⟩; replace HB := Aside0.mk (below_step bw_ hb); (try clear hb); (try clear hb2); (try clear hk); (try clear hi)))
        go_ret2
        exact ⟨fi_, bw_⟩
       ·rw [if_neg c12] at H
        exact absurd H (by simp)
      ·rw [if_neg c11] at H
       exact absurd H (by simp)
     ·rw [if_neg c10] at H
      exact absurd H (by simp)

end Go.Proofs.YtkpoipjgbdcdjaaDoor.P
