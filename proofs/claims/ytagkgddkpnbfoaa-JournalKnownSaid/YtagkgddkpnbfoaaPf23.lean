import Derived.Test.YtagkgddkpnbfoaaP0
import Derived.Test.YtagkgddkpnbfoaaHread
import Derived.Test.YtagkgddkpnbfoaaPf38
namespace Go.Proofs.Ytagkgddkpnbfoaa.P
open Go.RowKit Go.Proofs.YtagkgddkpnbfoaaW.PrintWords Go.Proofs.YtagkgddkpnbfoaaW.PrintLast Go.Proofs.YtagkgddkpnbfoaaW.PrintMore
attribute [local go_sem] max2_int min2_int max_two min_two max_three min_three max_four min_four   -- for this text's walks alone
set_option linter.unusedVariables false
set_option linter.unusedSimpArgs false

mutual
def drayagelaw20_tells.j0 : Nat → List (S25) → Int → List (S25) → Int → Int → Option (Bool)
 | 0, _, _, _, _, _ => none
 | k + 1, x1, x3, x9, x10, x11 => if (x9.length : Int) = x3 then (drayagelaw20_tells.j1 k x1 x3 x9 (x10 != x11)) else (drayagelaw20_tells.j1 k x1 x3 x9 true)
def drayagelaw20_tells.j1 : Nat → List (S25) → Int → List (S25) → Bool → Option (Bool)
 | 0, _, _, _, _ => none
 | k + 1, x1, x3, x9, x33 => if x33 = true then (some false) else (drayagelaw20_tells.l0 k x1 x3 x9 0)
def drayagelaw20_tells.l0 : Nat → List (S25) → Int → List (S25) → Int → Option (Bool)
 | 0, _, _, _, _ => none
 | k + 1, x1, x3, x9, x12 => if x12 < x3 then (if 0 ≤ x12 then (if x12 < (x9.length : Int) then (if x12 < (x1.length : Int) then ((drayagelaw20_same.f k ((rd_T25 x9 x12).f0) ((rd_T25 x9 x12).f1) ((rd_T25 x9 x12).f2) ((rd_T25 x9 x12).f3) ((rd_T25 x9 x12).f4) ((rd_T25 x1 x12).f0) ((rd_T25 x1 x12).f1) ((rd_T25 x1 x12).f2) ((rd_T25 x1 x12).f3) ((rd_T25 x1 x12).f4)).bind fun t349 => (if t349 = true then (drayagelaw20_tells.l0 k x1 x3 x9 (wrap64 (x12 + 1))) else (some false))) else (none)) else (none)) else (none)) else (some true)
end
def drayagelaw20_tells.f (k : Nat) (l0 : List Int) (l1 : List (S25)) (l2 : List Int) (a3 : Int) : Option (Bool) := (journal_Read.f l0).bind fun bt342 => (if a3 > 0 then (if 0 ≤ (wrap64 (a3 - 1)) then (if (wrap64 (a3 - 1)) < (l2.length : Int) then (drayagelaw20_tells.j0 k l1 a3 bt342.1 bt342.2 (rd l2 (wrap64 (a3 - 1)))) else (none)) else (none)) else (drayagelaw20_tells.j0 k l1 a3 bt342.1 bt342.2 0))
def drayagelaw20_tells.T10 : Bool × List (List Nat × List Nat) := (true, [([], []), ([], []), ([0, 1], [0, 1]), ([2], [2]), ([], []), ([], []), ([4, 5], [4, 5]), ([6], [6]), ([3, 7], [3, 7]), ([8], [8])])
def drayagelaw20_tells.B10 : List Nat := [0, 0, 3, 7, 0, 0, 48, 112, 255, 511]
theorem drayagelaw20_tells.tab10 : rtab .any (opsOf Try.f23 10) = drayagelaw20_tells.T10 := by kernel_rfl
theorem drayagelaw20_tells.bits10 : waitsOk drayagelaw20_tells.T10.2 drayagelaw20_tells.B10 = true := by kernel_rfl
set_option maxHeartbeats 8000000 in
set_option maxRecDepth 100000 in
theorem drayagelaw20_tells.calls (k : Nat) (A0 : Option Addr) (c0 : Nat) (l0 : List Int) (A1 : Option Addr) (c1 : Nat) (l1 : List (S25)) (A2 : Option Addr) (c2 : Nat) (l2 : List Int) (a3 : Int) (r : Bool) (w : World) (hr0 : Kd.C (Kd.int .u8) w A0 l0.length l0) (hc0 : l0.length ≤ c0) (hr1 : Kd.C k25 w A1 l1.length l1) (hc1 : l1.length ≤ c1) (hr2 : Kd.C (Kd.int .i64) w A2 l2.length l2) (hc2 : l2.length ≤ c2) (h : drayagelaw20_tells.f k l0 l1 l2 a3 = some r) :
  Calls Try.prog 23 #[.slice A0 l0.length c0, .slice A1 l1.length c1, .slice A2 l2.length c2, .int .i64 a3] w fun e w' => e = .returned (.bool r) ∧ Below w.heap.size w w' := by
 have hu25 := Try.underlying25
 have HR0 := Aside0.mk hr0
 have HC0 := Aside0.mk hc0
 clear hr0 hc0
 have HR1 := Aside0.mk hr1
 have HC1 := Aside0.mk hc1
 clear hr1 hc1
 have HR2 := Aside0.mk hr2
 have HC2 := Aside0.mk hc2
 clear hr2 hc2
 have HB := Aside0.mk (Below.refl w.heap.size w)
 have H : ((journal_Read.f l0).bind fun bt342 => (if a3 > 0 then (if 0 ≤ (wrap64 (a3 - 1)) then (if (wrap64 (a3 - 1)) < (l2.length : Int) then (drayagelaw20_tells.j0 k l1 a3 bt342.1 bt342.2 (rd l2 (wrap64 (a3 - 1)))) else (none)) else (none)) else (drayagelaw20_tells.j0 k l1 a3 bt342.1 bt342.2 0))) = some r := h
 clear h
 replace H := Option.bind_eq_some_iff.mp H
 obtain ⟨⟨t342, t343⟩, A50, H⟩ := H
 try dsimp only at H
 have A5 := Aside0.mk A50
 clear A50
 have HC6 := Aside0.mk H
 clear H
 go_enter Try.func23, Try.ntmps23
 go_upto_if 19 with (first | ((with_reducible refine gate_callee (f := 19) rfl ?_); refine goesL_ (some 15) rfl rfl Try.func19 (by kernel_rfl) rfl #[.slice A0 l0.length c0] rfl ca_ ?_; (with_reducible refine (journal_Read.calls _ _ l0 t342 t343 _ ?side1 ?side2 A5.out).mono ?_); (case side1 => repeat (first | exact HR0.out | (with_reducible refine Kd.C_alloc ?_ _) | (with_reducible refine Kd.C_drewN ?_ _) | (with_reducible refine Kd.C_drew ?_))); (case side2 => exact HC0.out); rintro e w7 ⟨v344, rfl, ho0, hb⟩; refine ⟨_, rfl, ?_⟩; have HO345 := Aside0.mk (Kd.S_lower ho0 (below_size bw_)); replace HB := Aside0.mk (below_step bw_ hb); (try clear hb); (try clear hb2); (try clear hk); (try clear hi); (try clear ho0)))
 (try simp only [Act.put, List.setIfInBounds_toArray, List.set_cons_zero, List.set_cons_succ])
 go_cut [11] (fun v11 wc => ∃ (kq : Nat) (x11_5 : Int), v11 = .int .i64 x11_5 ∧ Aside0 (drayagelaw20_tells.j0 kq l1 a3 t342 t343 x11_5 = some r) ∧ Aside0 (kq ≤ k) ∧ Aside0 (Kd.S k25 25 wc w.heap.size (fun _ => True) v344 t342) ∧ Aside0 (Below w.heap.size w wc))
 case first =>
  have H := HC6.out
  clear HC6
  by_cases c8 : a3 > 0
  ·rw [if_pos c8] at H
   have c8b0 : decide (0 < a3) = true := decide_eq_true c8
   clear c8
   (first | rw [c8b0] | (simp only [i64_w, i32_w]; rw [c8b0]) | skip)
   obtain ⟨ji9, hji9⟩ : ∃ j_ : Int, (wrap64 (a3 - 1)) = j_ := ⟨_, rfl⟩
   replace H : (if 0 ≤ (ji9) then (if (ji9) < (l2.length : Int) then (drayagelaw20_tells.j0 k l1 a3 t342 t343 (rd l2 (ji9))) else (none)) else (none)) = some r := by first | (rw [hji9] at H; exact H) | (simp only [hji9] at H ⊢; exact H)
   have hji9w : (IntKind.i64.wrap (a3 - 1)) = ji9 := (i64_w _).trans hji9
   by_cases c10 : 0 ≤ (ji9)
   ·rw [if_pos c10] at H
    have c10b0 : decide (0 ≤ (ji9)) = true := decide_eq_true c10
    clear c10
    by_cases c11 : (ji9) < (l2.length : Int)
    ·rw [if_pos c11] at H
     have c11b0 : decide ((ji9) < (l2.length : Int)) = true := decide_eq_true c11
     clear c11
     have H' := Aside0.mk H
     clear H
     have p346 : 0 ≤ ((ji9) : Int) := of_decide_eq_true (by first | (with_reducible assumption) | assumption)
     have q346 : (ji9) < (l2.length : Int) := of_decide_eq_true (by first | (with_reducible assumption) | assumption)
     obtain ⟨ad346, e346, hx346_0⟩ := Kd.at_int HR2.out (ji9) p346 q346
     cases e346
     replace hx346_0 := (HB.out.cell (World.block_lt_of_cell? w _ hx346_0)).trans hx346_0
     replace p346 := eq_true p346
     replace q346 := eq_true q346
     go_wp2
     go_meet
     case rel => exact ⟨_, (rd l2 (ji9)), (by first | rfl | (simp; done) | (simp only [← hji9] <;> (first | rfl | simp)) | (simp [*]; done)), H', ⟨by first | omega | exact Nat.le_refl _⟩, ⟨by (with_reducible repeat (first | apply Kd.S_alloc | apply Kd.S_drewN | apply Kd.S_drew)); exact HO345.out⟩, ⟨bw_⟩⟩
    ·rw [if_neg c11] at H
     exact absurd H (by simp)
   ·rw [if_neg c10] at H
    exact absurd H (by simp)
  ·rw [if_neg c8] at H
   have c8b0 : decide (0 < a3) = false := decide_eq_false c8
   clear c8
   (first | rw [c8b0] | (simp only [i64_w, i32_w]; rw [c8b0]) | skip)
   have H' := Aside0.mk H
   clear H
   go_wp2
   go_meet
   case rel => exact ⟨_, (0), fs_, H', ⟨by first | omega | exact Nat.le_refl _⟩, ⟨by (with_reducible repeat (first | apply Kd.S_alloc | apply Kd.S_drewN | apply Kd.S_drew)); exact HO345.out⟩, ⟨bw_⟩⟩
 case rest =>
  clear HC6
  (try clear c1); (try clear c2); (try clear p2); (try clear p3); (try clear q3); (try clear hx3); (try clear p6); (try clear c8); (try clear c8b0); (try clear c10); (try clear c10b0); (try clear c11); (try clear c11b0); (try clear hx346_0); (try clear p346); (try clear q346)
  obtain ⟨kq, x11_5, rfl, HA, HJ5, HO_9, HB⟩ := hcut
  cases kq with
  | zero => exact absurd HA.out (by simp [drayagelaw20_tells.j0])
  | succ kj5 =>
   have H := HA.out
   clear HA
   simp only [drayagelaw20_tells.j0] at H
   have HC12 := Aside0.mk H
   clear H
   go_upto_region 5 with (fail)
   go_cut [33] (fun v33 wc => ∃ (kq : Nat) (x33_11 : Bool), v33 = .bool x33_11 ∧ Aside0 (drayagelaw20_tells.j1 kq l1 a3 t342 x33_11 = some r) ∧ Aside0 (kq ≤ kj5) ∧ Aside0 (Kd.S k25 25 wc w.heap.size (fun _ => True) v344 t342) ∧ Aside0 (Below w.heap.size w wc))
   case first =>
    have H := HC12.out
    clear HC12
    by_cases c13 : (t342.length : Int) = a3
    ·rw [if_pos c13] at H
     have c13b0 : ((t342.length : Int) == a3) = true := beq_iff_eq.mpr c13
     have c13b1 : ((t342.length : Int) != a3) = false := bne_eq_false_iff_eq.mpr c13
     clear c13
     (first | rw [c13b0] | (simp only [i64_w, i32_w]; rw [c13b0]) | skip)
     have H' := Aside0.mk H
     clear H
     obtain ⟨Ao14, co14, eo14⟩ := Kd.S_slice HO_9.out
     subst eo14
     go_wp2
     go_meet
     case rel => exact ⟨_, ((t343 != x11_5)), fs_, H', ⟨by have := HJ5.out; first | omega | exact Nat.le_refl _⟩, ⟨by (with_reducible repeat (first | apply Kd.S_alloc | apply Kd.S_drewN | apply Kd.S_drew)); exact HO_9.out⟩, ⟨bw_⟩⟩
    ·rw [if_neg c13] at H
     have c13b0 : ((t342.length : Int) == a3) = false := beq_eq_false_iff_ne.mpr c13
     have c13b1 : ((t342.length : Int) != a3) = true := bne_iff_ne.mpr c13
     (first | rw [c13b0] | (simp only [i64_w, i32_w]; rw [c13b0]) | skip)
     have H' := Aside0.mk H
     clear H
     obtain ⟨Ao15, co15, eo15⟩ := Kd.S_slice HO_9.out
     subst eo15
     go_wp2
     go_meet
     case rel => exact ⟨_, (true), fs_, H', ⟨by have := HJ5.out; first | omega | exact Nat.le_refl _⟩, ⟨by (with_reducible repeat (first | apply Kd.S_alloc | apply Kd.S_drewN | apply Kd.S_drew)); exact HO_9.out⟩, ⟨bw_⟩⟩
   case rest =>
    clear HC12
    (try clear c1); (try clear c2); (try clear p2); (try clear p3); (try clear q3); (try clear hx3); (try clear p6); (try clear c8); (try clear c8b0); (try clear c10); (try clear c10b0); (try clear c11); (try clear c11b0); (try clear c13); (try clear c13b0); (try clear c13b1); (try clear hx346_0); (try clear p2); (try clear p3); (try clear p346); (try clear p6); (try clear q3); (try clear q346)
    obtain ⟨kq, x33_11, rfl, HA, HJ11, HO_9, HB⟩ := hcut
    cases kq with
    | zero => exact absurd HA.out (by simp [drayagelaw20_tells.j1])
    | succ kj11 =>
     have H := HA.out
     clear HA
     simp only [drayagelaw20_tells.j1] at H
     by_cases c16 : x33_11 = true
     ·subst c16
      rw [if_pos rfl] at H
      obtain rfl := Option.some.inj H
      go_wp2
      go_ret
      exact ⟨fi_, bw_⟩
     ·replace c16 := Bool.eq_false_iff.mpr c16
      subst c16
      have H1 : (drayagelaw20_tells.l0 kj11 l1 a3 t342 0) = some r := by rw [if_neg (show ¬ (false = true) by decide)] at H; exact H
      clear H
      have H := H1
      clear H1
      have H' := Aside0.mk H
      clear H
      go_wp2
      go_loopg [12] kj11 (fun kq v12 w' => ∃ (x12_3 : Int), v12 = .int .i64 x12_3 ∧ Aside0 (drayagelaw20_tells.l0 kq l1 a3 t342 x12_3 = some r) ∧ Aside0 (kq ≤ kj11) ∧ Aside0 (Kd.S k25 25 w' w.heap.size (fun _ => True) v344 t342) ∧ Aside0 (Below w.heap.size w w'))
      case atStart => exact ⟨(0), fs_, H', ⟨Nat.le_refl _⟩, ⟨by (with_reducible repeat (first | apply Kd.S_alloc | apply Kd.S_drewN | apply Kd.S_drew)); exact HO_9.out⟩, ⟨bw_⟩⟩
      case round =>
       clear H'
       (try clear c1); (try clear c2); (try clear p2); (try clear p3); (try clear q3); (try clear hx3); (try clear p6); (try clear c8); (try clear c8b0); (try clear c10); (try clear c10b0); (try clear c11); (try clear c11b0); (try clear c13); (try clear c13b0); (try clear c13b1); (try clear c16); (try clear hx346_0); (try clear p2); (try clear p3); (try clear p346); (try clear p6); (try clear q3); (try clear q346)
       obtain ⟨x12_3, rfl, HA, HK3, HO_9, HB⟩ := hrel
       cases gk with
       | zero => exact absurd HA.out (by simp [drayagelaw20_tells.l0])
       | succ k3 =>
        have H := HA.out
        clear HA
        simp only [drayagelaw20_tells.l0] at H
        by_cases c17 : x12_3 < a3
        ·rw [if_pos c17] at H
         have c17b0 : decide (x12_3 < a3) = true := decide_eq_true c17
         clear c17
         by_cases c18 : 0 ≤ x12_3
         ·rw [if_pos c18] at H
          have c18b0 : decide (0 ≤ x12_3) = true := decide_eq_true c18
          clear c18
          by_cases c19 : x12_3 < (t342.length : Int)
          ·rw [if_pos c19] at H
           have c19b0 : decide (x12_3 < (t342.length : Int)) = true := decide_eq_true c19
           clear c19
           by_cases c20 : x12_3 < (l1.length : Int)
           ·rw [if_pos c20] at H
            have c20b0 : decide (x12_3 < (l1.length : Int)) = true := decide_eq_true c20
            clear c20
            replace H := Option.bind_eq_some_iff.mp H
            obtain ⟨t349, A210, H⟩ := H
            try dsimp only at H
            have A21 := Aside0.mk A210
            clear A210
            by_cases c22 : t349 = true
            ·subst c22
             rw [if_pos rfl] at H
             have H' := Aside0.mk H
             clear H
             try go_wp2
             replace HO_9 := Aside0.mk (Kd.S_drew HO_9.out)
             replace HB := Aside0.mk (below_drew1 HB.out)
             obtain ⟨Ao24, co24, eo24⟩ := Kd.S_slice HO_9.out
             (first | subst eo24 | (injection eo24 with f1_ f2_ f3_; have f4_ := f1_.symm; have f5_ := f3_.symm; clear f1_ f2_ f3_; subst f4_; subst f5_))
             have p347 : 0 ≤ (x12_3 : Int) := of_decide_eq_true (by first | (with_reducible assumption) | assumption)
             have q347 : x12_3 < (t342.length : Int) := of_decide_eq_true (by first | (with_reducible assumption) | assumption)
             obtain ⟨ad347, A347_3, c347_3, A347_4, c347_4, e347, hx347_0, hx347_1, hx347_2, hx347_3, hx347_4, hl347_3, hi347_3, hl347_4, hi347_4⟩ := at_T25 (Kd.S_reads' HO_9.out).2.2 x12_3 p347 q347
             cases e347
             obtain ⟨ce347, hce347, hMe347, hcc347⟩ := Kd.S_get HO_9.out z25 x12_3 p347 (by first | exact q347 | exact of_decide_eq_true (by first | (with_reducible assumption) | assumption) | (have e_ := (Kd.S_reads' HO_9.out).1; omega))
             obtain ⟨ve347_3, ve347_4, rfl, ge347_3, ge347_4⟩ := k25_openM hMe347
             have hv347_3 := hcc347 3 _ rfl
             rw [add_field _ _ 3 (by omega)] at hv347_3
             replace hv347_3 := Option.some.inj (hv347_3.symm.trans hx347_3)
             rw [hv347_3] at ge347_3
             have HL347_3 := Aside0.mk (show Kd.R (Kd.int .i64) 3 _ _ _ _ ((rd_T25 t342 x12_3).f3) from ge347_3)
             clear hv347_3 ge347_3
             have hv347_4 := hcc347 4 _ rfl
             rw [add_field _ _ 4 (by omega)] at hv347_4
             replace hv347_4 := Option.some.inj (hv347_4.symm.trans hx347_4)
             rw [hv347_4] at ge347_4
             have HL347_4 := Aside0.mk (show Kd.R k49 49 _ _ _ _ ((rd_T25 t342 x12_3).f4) from ge347_4)
             clear hv347_4 ge347_4
             clear hcc347 hce347
             have HR347_3 := Aside0.mk hi347_3
             have HC347_3 := Aside0.mk hl347_3
             clear hi347_3 hl347_3
             have HR347_4 := Aside0.mk hi347_4
             have HC347_4 := Aside0.mk hl347_4
             clear hi347_4 hl347_4
             replace p347 := eq_true p347
             replace q347 := eq_true q347
             have p348 : 0 ≤ (x12_3 : Int) := of_decide_eq_true (by first | (with_reducible assumption) | assumption)
             have q348 : x12_3 < (l1.length : Int) := of_decide_eq_true (by first | (with_reducible assumption) | assumption)
             obtain ⟨ad348, A348_3, c348_3, A348_4, c348_4, e348, hx348_0, hx348_1, hx348_2, hx348_3, hx348_4, hl348_3, hi348_3, hl348_4, hi348_4⟩ := at_T25 HR1.out x12_3 p348 q348
             have hw348_4 := hx348_4
             have hw348_3 := hx348_3
             have hw348_2 := hx348_2
             have hw348_1 := hx348_1
             have hw348_0 := hx348_0
             cases e348
             replace hx348_0 := (HB.out.cell (World.block_lt_of_cell? w _ hx348_0)).trans hx348_0
             replace hx348_1 := (HB.out.cell (World.block_lt_of_cell? w _ hx348_1)).trans hx348_1
             replace hx348_2 := (HB.out.cell (World.block_lt_of_cell? w _ hx348_2)).trans hx348_2
             replace hx348_3 := (HB.out.cell (World.block_lt_of_cell? w _ hx348_3)).trans hx348_3
             replace hx348_4 := (HB.out.cell (World.block_lt_of_cell? w _ hx348_4)).trans hx348_4
             have HR348_3 := Aside0.mk hi348_3
             have HC348_3 := Aside0.mk hl348_3
             clear hi348_3 hl348_3
             have HR348_4 := Aside0.mk hi348_4
             have HC348_4 := Aside0.mk hl348_4
             clear hi348_4 hl348_4
             replace p348 := eq_true p348
             replace q348 := eq_true q348
             refine start_ (n := 10) (S := fun w' => w'.cell? (ad347.add ((x12_3).toNat * 5)) = some (.int .i64 ((rd_T25 t342 x12_3).f0)) ∧ w'.cell? ⟨(ad347.add ((x12_3).toNat * 5)).block, (ad347.add ((x12_3).toNat * 5)).off + 1, none⟩ = some (.int .i64 ((rd_T25 t342 x12_3).f1)) ∧ w'.cell? ⟨(ad347.add ((x12_3).toNat * 5)).block, (ad347.add ((x12_3).toNat * 5)).off + 2, none⟩ = some (.int .i64 ((rd_T25 t342 x12_3).f2)) ∧ w'.cell? ⟨(ad347.add ((x12_3).toNat * 5)).block, (ad347.add ((x12_3).toNat * 5)).off + 3, none⟩ = some (.slice A347_3 ((rd_T25 t342 x12_3).f3).length c347_3) ∧ w'.cell? ⟨(ad347.add ((x12_3).toNat * 5)).block, (ad347.add ((x12_3).toNat * 5)).off + 4, none⟩ = some (.slice A347_4 ((rd_T25 t342 x12_3).f4).length c347_4) ∧ w'.cell? (ad348.add ((x12_3).toNat * 5)) = some (.int .i64 ((rd_T25 l1 x12_3).f0)) ∧ w'.cell? ⟨(ad348.add ((x12_3).toNat * 5)).block, (ad348.add ((x12_3).toNat * 5)).off + 1, none⟩ = some (.int .i64 ((rd_T25 l1 x12_3).f1)) ∧ w'.cell? ⟨(ad348.add ((x12_3).toNat * 5)).block, (ad348.add ((x12_3).toNat * 5)).off + 2, none⟩ = some (.int .i64 ((rd_T25 l1 x12_3).f2)) ∧ w'.cell? ⟨(ad348.add ((x12_3).toNat * 5)).block, (ad348.add ((x12_3).toNat * 5)).off + 3, none⟩ = some (.slice A348_3 ((rd_T25 l1 x12_3).f3).length c348_3) ∧ w'.cell? ⟨(ad348.add ((x12_3).toNat * 5)).block, (ad348.add ((x12_3).toNat * 5)).off + 4, none⟩ = some (.slice A348_4 ((rd_T25 l1 x12_3).f4).length c348_4)) (ds := []) #[false, false, false, false, false, false, false, false, false, false] (by kernel_rfl) rfl rfl ⟨hx347_0, hx347_1, hx347_2, hx347_3, hx347_4, ((HB.out.cell (World.block_lt_of_cell? w _ hw348_0)).trans hw348_0), ((HB.out.cell (World.block_lt_of_cell? w _ hw348_1)).trans hw348_1), ((HB.out.cell (World.block_lt_of_cell? w _ hw348_2)).trans hw348_2), ((HB.out.cell (World.block_lt_of_cell? w _ hw348_3)).trans hw348_3), ((HB.out.cell (World.block_lt_of_cell? w _ hw348_4)).trans hw348_4)⟩ (fun hHeld => ?_); refine with_tabW drayagelaw20_tells.tab10 drayagelaw20_tells.bits10 (fun HT_ HW_ => ?_)
             generalize wr.drew = w23 at HO_9 HB HL347_3 HL347_4 HR347_3 HR347_4 HR348_3 HR348_4 hx347_0 hx347_1 hx347_2 hx347_3 hx347_4 hx348_0 hx348_1 hx348_2 hx348_3 hx348_4 hHeld ⊢
             refine pureS_ (i := 0) (N := some 39) (v := ?_) (a' := ?_) rfl rfl (any_of HT_.out (by kernel_rfl)) (fun _ _ _ h => h) (Or.inl ⟨by rfl, ?_⟩) ?_ ?_
             rotate_left; (· intro w'; go_simp; with_reducible rfl); rotate_left; (· simp only [Act.put, List.setIfInBounds_toArray, List.set_cons_zero, List.set_cons_succ, i64_w, i32_w]; rfl)
             refine pureS_ (i := 1) (N := some 40) (v := ?_) (a' := ?_) rfl rfl (any_of HT_.out (by kernel_rfl)) (fun _ _ _ h => h) (Or.inl ⟨by rfl, ?_⟩) ?_ ?_
             rotate_left; (· intro w'; go_simp; with_reducible rfl); rotate_left; (· simp only [Act.put, List.setIfInBounds_toArray, List.set_cons_zero, List.set_cons_succ, i64_w, i32_w]; rfl)
             refine pureS_ (i := 2) (N := some 41) (v := ?_) (a' := ?_) rfl rfl (any_of HT_.out (by kernel_rfl)) (fun _ _ _ h => h) (Or.inl ⟨by rfl, ?_⟩) ?_ ?_
             rotate_left; (· intro w'; go_simp; with_reducible rfl); rotate_left; (· simp only [Act.put, List.setIfInBounds_toArray, List.set_cons_zero, List.set_cons_succ, i64_w, i32_w]; rfl)
             refine pureS_ (i := 4) (N := some 43) (v := ?_) (a' := ?_) rfl rfl (any_of HT_.out (by kernel_rfl)) (fun _ _ _ h => h) (Or.inl ⟨by rfl, ?_⟩) ?_ ?_
             rotate_left; (· intro w'; go_simp; with_reducible rfl); rotate_left; (· simp only [Act.put, List.setIfInBounds_toArray, List.set_cons_zero, List.set_cons_succ, i64_w, i32_w]; rfl)
             refine pureS_ (i := 5) (N := some 44) (v := ?_) (a' := ?_) rfl rfl (any_of HT_.out (by kernel_rfl)) (fun _ _ _ h => h) (Or.inl ⟨by rfl, ?_⟩) ?_ ?_
             rotate_left; (· intro w'; go_simp; with_reducible rfl); rotate_left; (· simp only [Act.put, List.setIfInBounds_toArray, List.set_cons_zero, List.set_cons_succ, i64_w, i32_w]; rfl)
             refine pureS_ (i := 6) (N := some 45) (v := ?_) (a' := ?_) rfl rfl (any_of HT_.out (by kernel_rfl)) (fun _ _ _ h => h) (Or.inl ⟨by rfl, ?_⟩) ?_ ?_
             rotate_left; (· intro w'; go_simp; with_reducible rfl); rotate_left; (· simp only [Act.put, List.setIfInBounds_toArray, List.set_cons_zero, List.set_cons_succ, i64_w, i32_w]; rfl)
             refine takeS_ (i := 3) (N := some 42) (v := ?_) (a' := ?_) rfl rfl (take_ofW HT_.out HW_.out (by kernel_rfl)) (fun _ _ _ h => h) (Or.inl ⟨by rfl, ?_⟩) hHeld ?_ ?_
             rotate_left; (· rintro w' ⟨s0, s1, s2, s3, s4, s5, s6, s7, s8, s9⟩; go_simp; with_reducible rfl); rotate_left; (· simp only [Act.put, List.setIfInBounds_toArray, List.set_cons_zero, List.set_cons_succ, i64_w, i32_w]; rfl)
             refine takeS_ (i := 7) (N := some 46) (v := ?_) (a' := ?_) rfl rfl (take_ofW HT_.out HW_.out (by kernel_rfl)) (fun _ _ _ h => h) (Or.inl ⟨by rfl, ?_⟩) hHeld ?_ ?_
             rotate_left; (· rintro w' ⟨s0, s1, s2, s3, s4, s5, s6, s7, s8, s9⟩; go_simp; with_reducible rfl); rotate_left; (· simp only [Act.put, List.setIfInBounds_toArray, List.set_cons_zero, List.set_cons_succ, i64_w, i32_w]; rfl)
             refine oneS_ (i := 8) (N := some 47) rfl rfl (one_of HT_.out (by kernel_rfl)) (by decide) (fun K hK => ?_)
             refine goes_ Try.func38 (by kernel_rfl) rfl #[.agg #[.int .i64 ((rd_T25 t342 x12_3).f0), .int .i64 ((rd_T25 t342 x12_3).f1), .int .i64 ((rd_T25 t342 x12_3).f2), .slice A347_3 ((rd_T25 t342 x12_3).f3).length c347_3, .slice A347_4 ((rd_T25 t342 x12_3).f4).length c347_4], .agg #[.int .i64 ((rd_T25 l1 x12_3).f0), .int .i64 ((rd_T25 l1 x12_3).f1), .int .i64 ((rd_T25 l1 x12_3).f2), .slice A348_3 ((rd_T25 l1 x12_3).f3).length c348_3, .slice A348_4 ((rd_T25 l1 x12_3).f4).length c348_4]] (by rfl) rfl rfl ca_ ?_
             with_reducible refine (drayagelaw20_same.calls k3 ((rd_T25 t342 x12_3).f0) ((rd_T25 t342 x12_3).f1) ((rd_T25 t342 x12_3).f2) _ _ ((rd_T25 t342 x12_3).f3) _ _ ((rd_T25 t342 x12_3).f4) ((rd_T25 l1 x12_3).f0) ((rd_T25 l1 x12_3).f1) ((rd_T25 l1 x12_3).f2) _ _ ((rd_T25 l1 x12_3).f3) _ _ ((rd_T25 l1 x12_3).f4) true _ ?side1 ?side2 ?side3 ?side4 ?side5 ?side6 ?side7 ?side8 A21.out).mono ?_
             (case side1 => repeat (first | exact (by repeat (first | (with_reducible exact HR347_3.out) | (with_reducible refine Kd.C_alloc ?_ _) | (with_reducible refine Kd.C_drewN ?_ _) | (with_reducible refine Kd.C_drew ?_) | exact HR347_3.out)) | (with_reducible refine Kd.C_alloc ?_ _) | (with_reducible refine Kd.C_drewN ?_ _) | (with_reducible refine Kd.C_drew ?_)))
             (case side2 => exact HC347_3.out)
             (case side3 => repeat (first | exact (by repeat (first | (with_reducible exact HR347_4.out) | (with_reducible refine Kd.C_alloc ?_ _) | (with_reducible refine Kd.C_drewN ?_ _) | (with_reducible refine Kd.C_drew ?_) | exact HR347_4.out)) | (with_reducible refine Kd.C_alloc ?_ _) | (with_reducible refine Kd.C_drewN ?_ _) | (with_reducible refine Kd.C_drew ?_)))
             (case side4 => exact HC347_4.out)
             (case side5 => repeat (first | exact (Kd.C_below HR348_3.out HB.out) | (with_reducible refine Kd.C_alloc ?_ _) | (with_reducible refine Kd.C_drewN ?_ _) | (with_reducible refine Kd.C_drew ?_)))
             (case side6 => exact HC348_3.out)
             (case side7 => repeat (first | exact (Kd.C_below HR348_4.out HB.out) | (with_reducible refine Kd.C_alloc ?_ _) | (with_reducible refine Kd.C_drewN ?_ _) | (with_reducible refine Kd.C_drew ?_)))
             (case side8 => exact HC348_4.out)
             rintro e w25 ⟨rfl, hb⟩
             have HS0_ := (hb.cell (World.block_lt_of_cell? _ _ (hHeld.1))).trans (hHeld.1)
             have HS1_ := (hb.cell (World.block_lt_of_cell? _ _ (hHeld.2.1))).trans (hHeld.2.1)
             have HS2_ := (hb.cell (World.block_lt_of_cell? _ _ (hHeld.2.2.1))).trans (hHeld.2.2.1)
             have HS3_ := (hb.cell (World.block_lt_of_cell? _ _ (hHeld.2.2.2.1))).trans (hHeld.2.2.2.1)
             have HS4_ := (hb.cell (World.block_lt_of_cell? _ _ (hHeld.2.2.2.2.1))).trans (hHeld.2.2.2.2.1)
             refine ⟨_, rfl, ?_⟩
             replace HO_9 := Aside0.mk (Kd.S_below (by (with_reducible repeat (first | apply Kd.S_alloc | apply Kd.S_drewN | apply Kd.S_drew)); exact HO_9.out) hb)
             replace HL347_3 := Aside0.mk (Kd.R_below (ra_ HL347_3.out) hb)
             replace HL347_4 := Aside0.mk (Kd.R_below (ra_ HL347_4.out) hb)
             replace HR347_3 := Aside0.mk (Kd.C_below (by repeat (first | (with_reducible exact HR347_3.out) | (with_reducible refine Kd.C_alloc ?_ _) | (with_reducible refine Kd.C_drewN ?_ _) | (with_reducible refine Kd.C_drew ?_) | exact HR347_3.out)) hb)
             replace HR347_4 := Aside0.mk (Kd.C_below (by repeat (first | (with_reducible exact HR347_4.out) | (with_reducible refine Kd.C_alloc ?_ _) | (with_reducible refine Kd.C_drewN ?_ _) | (with_reducible refine Kd.C_drew ?_) | exact HR347_4.out)) hb)
             replace HB := Aside0.mk (below_step bw_ hb)
             (try clear hb)
             (try clear hb2)
             (try clear hk)
             (try clear hi)
             refine hK.out _ _ ⟨HS0_, HS1_, HS2_, HS3_, HS4_, ((HB.out.cell (World.block_lt_of_cell? w _ hw348_0)).trans hw348_0), ((HB.out.cell (World.block_lt_of_cell? w _ hw348_1)).trans hw348_1), ((HB.out.cell (World.block_lt_of_cell? w _ hw348_2)).trans hw348_2), ((HB.out.cell (World.block_lt_of_cell? w _ hw348_3)).trans hw348_3), ((HB.out.cell (World.block_lt_of_cell? w _ hw348_4)).trans hw348_4)⟩ (fun hHeld => ?_)
             clear hK K
             refine norm_ (a' := ?_) ?_ ?_
             rotate_left
             ·show Act.put _ (some 47) _ = _
              simp only [Act.put, List.setIfInBounds_toArray, List.set_cons_zero, List.set_cons_succ, i64_w, i32_w]
              rfl
             refine pureS_ (i := 9) (N := some 48) (v := ?_) (a' := ?_) rfl rfl (any_of HT_.out (by kernel_rfl)) (fun _ _ _ h => h) (Or.inl ⟨by rfl, ?_⟩) ?_ ?_
             rotate_left; (· intro w'; go_simp; with_reducible rfl); rotate_left; (· simp only [Act.put, List.setIfInBounds_toArray, List.set_cons_zero, List.set_cons_succ, i64_w, i32_w]; rfl)
             refine done_ (done_of HT_.out (by kernel_rfl)) ?_
             try go_wp2
             go_roundg k3
             case measure => have := HJ5.out; have := HJ11.out; have := HK3.out; omega
             case rel => exact ⟨(wrap64 (x12_3 + 1)), fs_, H', ⟨by have := HJ5.out; have := HJ11.out; have := HK3.out; omega⟩, ⟨by (with_reducible repeat (first | apply Kd.S_alloc | apply Kd.S_drewN | apply Kd.S_drew)); exact HO_9.out⟩, ⟨bw_⟩⟩
            ·replace c22 := Bool.eq_false_iff.mpr c22
             subst c22
             have H1 : (some false) = some r := by rw [if_neg (show ¬ (false = true) by decide)] at H; exact H
             clear H
             have H := H1
             clear H1
             obtain rfl := Option.some.inj H
             try go_wp2
             replace HO_9 := Aside0.mk (Kd.S_drew HO_9.out)
             replace HB := Aside0.mk (below_drew1 HB.out)
             obtain ⟨Ao27, co27, eo27⟩ := Kd.S_slice HO_9.out
             (first | subst eo27 | (injection eo27 with f1_ f2_ f3_; have f4_ := f1_.symm; have f5_ := f3_.symm; clear f1_ f2_ f3_; subst f4_; subst f5_))
             have p347 : 0 ≤ (x12_3 : Int) := of_decide_eq_true (by first | (with_reducible assumption) | assumption)
             have q347 : x12_3 < (t342.length : Int) := of_decide_eq_true (by first | (with_reducible assumption) | assumption)
             obtain ⟨ad347, A347_3, c347_3, A347_4, c347_4, e347, hx347_0, hx347_1, hx347_2, hx347_3, hx347_4, hl347_3, hi347_3, hl347_4, hi347_4⟩ := at_T25 (Kd.S_reads' HO_9.out).2.2 x12_3 p347 q347
             cases e347
             obtain ⟨ce347, hce347, hMe347, hcc347⟩ := Kd.S_get HO_9.out z25 x12_3 p347 (by first | exact q347 | exact of_decide_eq_true (by first | (with_reducible assumption) | assumption) | (have e_ := (Kd.S_reads' HO_9.out).1; omega))
             obtain ⟨ve347_3, ve347_4, rfl, ge347_3, ge347_4⟩ := k25_openM hMe347
             have hv347_3 := hcc347 3 _ rfl
             rw [add_field _ _ 3 (by omega)] at hv347_3
             replace hv347_3 := Option.some.inj (hv347_3.symm.trans hx347_3)
             rw [hv347_3] at ge347_3
             have HL347_3 := Aside0.mk (show Kd.R (Kd.int .i64) 3 _ _ _ _ ((rd_T25 t342 x12_3).f3) from ge347_3)
             clear hv347_3 ge347_3
             have hv347_4 := hcc347 4 _ rfl
             rw [add_field _ _ 4 (by omega)] at hv347_4
             replace hv347_4 := Option.some.inj (hv347_4.symm.trans hx347_4)
             rw [hv347_4] at ge347_4
             have HL347_4 := Aside0.mk (show Kd.R k49 49 _ _ _ _ ((rd_T25 t342 x12_3).f4) from ge347_4)
             clear hv347_4 ge347_4
             clear hcc347 hce347
             have HR347_3 := Aside0.mk hi347_3
             have HC347_3 := Aside0.mk hl347_3
             clear hi347_3 hl347_3
             have HR347_4 := Aside0.mk hi347_4
             have HC347_4 := Aside0.mk hl347_4
             clear hi347_4 hl347_4
             replace p347 := eq_true p347
             replace q347 := eq_true q347
             have p348 : 0 ≤ (x12_3 : Int) := of_decide_eq_true (by first | (with_reducible assumption) | assumption)
             have q348 : x12_3 < (l1.length : Int) := of_decide_eq_true (by first | (with_reducible assumption) | assumption)
             obtain ⟨ad348, A348_3, c348_3, A348_4, c348_4, e348, hx348_0, hx348_1, hx348_2, hx348_3, hx348_4, hl348_3, hi348_3, hl348_4, hi348_4⟩ := at_T25 HR1.out x12_3 p348 q348
             have hw348_4 := hx348_4
             have hw348_3 := hx348_3
             have hw348_2 := hx348_2
             have hw348_1 := hx348_1
             have hw348_0 := hx348_0
             cases e348
             replace hx348_0 := (HB.out.cell (World.block_lt_of_cell? w _ hx348_0)).trans hx348_0
             replace hx348_1 := (HB.out.cell (World.block_lt_of_cell? w _ hx348_1)).trans hx348_1
             replace hx348_2 := (HB.out.cell (World.block_lt_of_cell? w _ hx348_2)).trans hx348_2
             replace hx348_3 := (HB.out.cell (World.block_lt_of_cell? w _ hx348_3)).trans hx348_3
             replace hx348_4 := (HB.out.cell (World.block_lt_of_cell? w _ hx348_4)).trans hx348_4
             have HR348_3 := Aside0.mk hi348_3
             have HC348_3 := Aside0.mk hl348_3
             clear hi348_3 hl348_3
             have HR348_4 := Aside0.mk hi348_4
             have HC348_4 := Aside0.mk hl348_4
             clear hi348_4 hl348_4
             replace p348 := eq_true p348
             replace q348 := eq_true q348
             refine start_ (n := 10) (S := fun w' => w'.cell? (ad347.add ((x12_3).toNat * 5)) = some (.int .i64 ((rd_T25 t342 x12_3).f0)) ∧ w'.cell? ⟨(ad347.add ((x12_3).toNat * 5)).block, (ad347.add ((x12_3).toNat * 5)).off + 1, none⟩ = some (.int .i64 ((rd_T25 t342 x12_3).f1)) ∧ w'.cell? ⟨(ad347.add ((x12_3).toNat * 5)).block, (ad347.add ((x12_3).toNat * 5)).off + 2, none⟩ = some (.int .i64 ((rd_T25 t342 x12_3).f2)) ∧ w'.cell? ⟨(ad347.add ((x12_3).toNat * 5)).block, (ad347.add ((x12_3).toNat * 5)).off + 3, none⟩ = some (.slice A347_3 ((rd_T25 t342 x12_3).f3).length c347_3) ∧ w'.cell? ⟨(ad347.add ((x12_3).toNat * 5)).block, (ad347.add ((x12_3).toNat * 5)).off + 4, none⟩ = some (.slice A347_4 ((rd_T25 t342 x12_3).f4).length c347_4) ∧ w'.cell? (ad348.add ((x12_3).toNat * 5)) = some (.int .i64 ((rd_T25 l1 x12_3).f0)) ∧ w'.cell? ⟨(ad348.add ((x12_3).toNat * 5)).block, (ad348.add ((x12_3).toNat * 5)).off + 1, none⟩ = some (.int .i64 ((rd_T25 l1 x12_3).f1)) ∧ w'.cell? ⟨(ad348.add ((x12_3).toNat * 5)).block, (ad348.add ((x12_3).toNat * 5)).off + 2, none⟩ = some (.int .i64 ((rd_T25 l1 x12_3).f2)) ∧ w'.cell? ⟨(ad348.add ((x12_3).toNat * 5)).block, (ad348.add ((x12_3).toNat * 5)).off + 3, none⟩ = some (.slice A348_3 ((rd_T25 l1 x12_3).f3).length c348_3) ∧ w'.cell? ⟨(ad348.add ((x12_3).toNat * 5)).block, (ad348.add ((x12_3).toNat * 5)).off + 4, none⟩ = some (.slice A348_4 ((rd_T25 l1 x12_3).f4).length c348_4)) (ds := []) #[false, false, false, false, false, false, false, false, false, false] (by kernel_rfl) rfl rfl ⟨hx347_0, hx347_1, hx347_2, hx347_3, hx347_4, ((HB.out.cell (World.block_lt_of_cell? w _ hw348_0)).trans hw348_0), ((HB.out.cell (World.block_lt_of_cell? w _ hw348_1)).trans hw348_1), ((HB.out.cell (World.block_lt_of_cell? w _ hw348_2)).trans hw348_2), ((HB.out.cell (World.block_lt_of_cell? w _ hw348_3)).trans hw348_3), ((HB.out.cell (World.block_lt_of_cell? w _ hw348_4)).trans hw348_4)⟩ (fun hHeld => ?_); refine with_tabW drayagelaw20_tells.tab10 drayagelaw20_tells.bits10 (fun HT_ HW_ => ?_)
             generalize wr.drew = w26 at HO_9 HB HL347_3 HL347_4 HR347_3 HR347_4 HR348_3 HR348_4 hx347_0 hx347_1 hx347_2 hx347_3 hx347_4 hx348_0 hx348_1 hx348_2 hx348_3 hx348_4 hHeld ⊢
             refine pureS_ (i := 0) (N := some 39) (v := ?_) (a' := ?_) rfl rfl (any_of HT_.out (by kernel_rfl)) (fun _ _ _ h => h) (Or.inl ⟨by rfl, ?_⟩) ?_ ?_
             rotate_left; (· intro w'; go_simp; with_reducible rfl); rotate_left; (· simp only [Act.put, List.setIfInBounds_toArray, List.set_cons_zero, List.set_cons_succ, i64_w, i32_w]; rfl)
             refine pureS_ (i := 1) (N := some 40) (v := ?_) (a' := ?_) rfl rfl (any_of HT_.out (by kernel_rfl)) (fun _ _ _ h => h) (Or.inl ⟨by rfl, ?_⟩) ?_ ?_
             rotate_left; (· intro w'; go_simp; with_reducible rfl); rotate_left; (· simp only [Act.put, List.setIfInBounds_toArray, List.set_cons_zero, List.set_cons_succ, i64_w, i32_w]; rfl)
             refine pureS_ (i := 2) (N := some 41) (v := ?_) (a' := ?_) rfl rfl (any_of HT_.out (by kernel_rfl)) (fun _ _ _ h => h) (Or.inl ⟨by rfl, ?_⟩) ?_ ?_
             rotate_left; (· intro w'; go_simp; with_reducible rfl); rotate_left; (· simp only [Act.put, List.setIfInBounds_toArray, List.set_cons_zero, List.set_cons_succ, i64_w, i32_w]; rfl)
             refine pureS_ (i := 4) (N := some 43) (v := ?_) (a' := ?_) rfl rfl (any_of HT_.out (by kernel_rfl)) (fun _ _ _ h => h) (Or.inl ⟨by rfl, ?_⟩) ?_ ?_
             rotate_left; (· intro w'; go_simp; with_reducible rfl); rotate_left; (· simp only [Act.put, List.setIfInBounds_toArray, List.set_cons_zero, List.set_cons_succ, i64_w, i32_w]; rfl)
             refine pureS_ (i := 5) (N := some 44) (v := ?_) (a' := ?_) rfl rfl (any_of HT_.out (by kernel_rfl)) (fun _ _ _ h => h) (Or.inl ⟨by rfl, ?_⟩) ?_ ?_
             rotate_left; (· intro w'; go_simp; with_reducible rfl); rotate_left; (· simp only [Act.put, List.setIfInBounds_toArray, List.set_cons_zero, List.set_cons_succ, i64_w, i32_w]; rfl)
             refine pureS_ (i := 6) (N := some 45) (v := ?_) (a' := ?_) rfl rfl (any_of HT_.out (by kernel_rfl)) (fun _ _ _ h => h) (Or.inl ⟨by rfl, ?_⟩) ?_ ?_
             rotate_left; (· intro w'; go_simp; with_reducible rfl); rotate_left; (· simp only [Act.put, List.setIfInBounds_toArray, List.set_cons_zero, List.set_cons_succ, i64_w, i32_w]; rfl)
             refine takeS_ (i := 3) (N := some 42) (v := ?_) (a' := ?_) rfl rfl (take_ofW HT_.out HW_.out (by kernel_rfl)) (fun _ _ _ h => h) (Or.inl ⟨by rfl, ?_⟩) hHeld ?_ ?_
             rotate_left; (· rintro w' ⟨s0, s1, s2, s3, s4, s5, s6, s7, s8, s9⟩; go_simp; with_reducible rfl); rotate_left; (· simp only [Act.put, List.setIfInBounds_toArray, List.set_cons_zero, List.set_cons_succ, i64_w, i32_w]; rfl)
             refine takeS_ (i := 7) (N := some 46) (v := ?_) (a' := ?_) rfl rfl (take_ofW HT_.out HW_.out (by kernel_rfl)) (fun _ _ _ h => h) (Or.inl ⟨by rfl, ?_⟩) hHeld ?_ ?_
             rotate_left; (· rintro w' ⟨s0, s1, s2, s3, s4, s5, s6, s7, s8, s9⟩; go_simp; with_reducible rfl); rotate_left; (· simp only [Act.put, List.setIfInBounds_toArray, List.set_cons_zero, List.set_cons_succ, i64_w, i32_w]; rfl)
             refine oneS_ (i := 8) (N := some 47) rfl rfl (one_of HT_.out (by kernel_rfl)) (by decide) (fun K hK => ?_)
             refine goes_ Try.func38 (by kernel_rfl) rfl #[.agg #[.int .i64 ((rd_T25 t342 x12_3).f0), .int .i64 ((rd_T25 t342 x12_3).f1), .int .i64 ((rd_T25 t342 x12_3).f2), .slice A347_3 ((rd_T25 t342 x12_3).f3).length c347_3, .slice A347_4 ((rd_T25 t342 x12_3).f4).length c347_4], .agg #[.int .i64 ((rd_T25 l1 x12_3).f0), .int .i64 ((rd_T25 l1 x12_3).f1), .int .i64 ((rd_T25 l1 x12_3).f2), .slice A348_3 ((rd_T25 l1 x12_3).f3).length c348_3, .slice A348_4 ((rd_T25 l1 x12_3).f4).length c348_4]] (by rfl) rfl rfl ca_ ?_
             with_reducible refine (drayagelaw20_same.calls k3 ((rd_T25 t342 x12_3).f0) ((rd_T25 t342 x12_3).f1) ((rd_T25 t342 x12_3).f2) _ _ ((rd_T25 t342 x12_3).f3) _ _ ((rd_T25 t342 x12_3).f4) ((rd_T25 l1 x12_3).f0) ((rd_T25 l1 x12_3).f1) ((rd_T25 l1 x12_3).f2) _ _ ((rd_T25 l1 x12_3).f3) _ _ ((rd_T25 l1 x12_3).f4) false _ ?side1 ?side2 ?side3 ?side4 ?side5 ?side6 ?side7 ?side8 A21.out).mono ?_
             (case side1 => repeat (first | exact (by repeat (first | (with_reducible exact HR347_3.out) | (with_reducible refine Kd.C_alloc ?_ _) | (with_reducible refine Kd.C_drewN ?_ _) | (with_reducible refine Kd.C_drew ?_) | exact HR347_3.out)) | (with_reducible refine Kd.C_alloc ?_ _) | (with_reducible refine Kd.C_drewN ?_ _) | (with_reducible refine Kd.C_drew ?_)))
             (case side2 => exact HC347_3.out)
             (case side3 => repeat (first | exact (by repeat (first | (with_reducible exact HR347_4.out) | (with_reducible refine Kd.C_alloc ?_ _) | (with_reducible refine Kd.C_drewN ?_ _) | (with_reducible refine Kd.C_drew ?_) | exact HR347_4.out)) | (with_reducible refine Kd.C_alloc ?_ _) | (with_reducible refine Kd.C_drewN ?_ _) | (with_reducible refine Kd.C_drew ?_)))
             (case side4 => exact HC347_4.out)
             (case side5 => repeat (first | exact (Kd.C_below HR348_3.out HB.out) | (with_reducible refine Kd.C_alloc ?_ _) | (with_reducible refine Kd.C_drewN ?_ _) | (with_reducible refine Kd.C_drew ?_)))
             (case side6 => exact HC348_3.out)
             (case side7 => repeat (first | exact (Kd.C_below HR348_4.out HB.out) | (with_reducible refine Kd.C_alloc ?_ _) | (with_reducible refine Kd.C_drewN ?_ _) | (with_reducible refine Kd.C_drew ?_)))
             (case side8 => exact HC348_4.out)
             rintro e w28 ⟨rfl, hb⟩
             have HS0_ := (hb.cell (World.block_lt_of_cell? _ _ (hHeld.1))).trans (hHeld.1)
             have HS1_ := (hb.cell (World.block_lt_of_cell? _ _ (hHeld.2.1))).trans (hHeld.2.1)
             have HS2_ := (hb.cell (World.block_lt_of_cell? _ _ (hHeld.2.2.1))).trans (hHeld.2.2.1)
             have HS3_ := (hb.cell (World.block_lt_of_cell? _ _ (hHeld.2.2.2.1))).trans (hHeld.2.2.2.1)
             have HS4_ := (hb.cell (World.block_lt_of_cell? _ _ (hHeld.2.2.2.2.1))).trans (hHeld.2.2.2.2.1)
             refine ⟨_, rfl, ?_⟩
             replace HO_9 := Aside0.mk (Kd.S_below (by (with_reducible repeat (first | apply Kd.S_alloc | apply Kd.S_drewN | apply Kd.S_drew)); exact HO_9.out) hb)
             replace HL347_3 := Aside0.mk (Kd.R_below (ra_ HL347_3.out) hb)
             replace HL347_4 := Aside0.mk (Kd.R_below (ra_ HL347_4.out) hb)
             replace HR347_3 := Aside0.mk (Kd.C_below (by repeat (first | (with_reducible exact HR347_3.out) | (with_reducible refine Kd.C_alloc ?_ _) | (with_reducible refine Kd.C_drewN ?_ _) | (with_reducible refine Kd.C_drew ?_) | exact HR347_3.out)) hb)
             replace HR347_4 := Aside0.mk (Kd.C_below (by repeat (first | (with_reducible exact HR347_4.out) | (with_reducible refine Kd.C_alloc ?_ _) | (with_reducible refine Kd.C_drewN ?_ _) | (with_reducible refine Kd.C_drew ?_) | exact HR347_4.out)) hb)
             replace HB := Aside0.mk (below_step bw_ hb)
             (try clear hb)
             (try clear hb2)
             (try clear hk)
             (try clear hi)
             refine hK.out _ _ ⟨HS0_, HS1_, HS2_, HS3_, HS4_, ((HB.out.cell (World.block_lt_of_cell? w _ hw348_0)).trans hw348_0), ((HB.out.cell (World.block_lt_of_cell? w _ hw348_1)).trans hw348_1), ((HB.out.cell (World.block_lt_of_cell? w _ hw348_2)).trans hw348_2), ((HB.out.cell (World.block_lt_of_cell? w _ hw348_3)).trans hw348_3), ((HB.out.cell (World.block_lt_of_cell? w _ hw348_4)).trans hw348_4)⟩ (fun hHeld => ?_)
             clear hK K
             refine norm_ (a' := ?_) ?_ ?_
             rotate_left
             ·show Act.put _ (some 47) _ = _
              simp only [Act.put, List.setIfInBounds_toArray, List.set_cons_zero, List.set_cons_succ, i64_w, i32_w]
              rfl
             refine pureS_ (i := 9) (N := some 48) (v := ?_) (a' := ?_) rfl rfl (any_of HT_.out (by kernel_rfl)) (fun _ _ _ h => h) (Or.inl ⟨by rfl, ?_⟩) ?_ ?_
             rotate_left; (· intro w'; go_simp; with_reducible rfl); rotate_left; (· simp only [Act.put, List.setIfInBounds_toArray, List.set_cons_zero, List.set_cons_succ, i64_w, i32_w]; rfl)
             refine done_ (done_of HT_.out (by kernel_rfl)) ?_
             try go_wp2
             go_ret
             exact ⟨fi_, bw_⟩
           ·rw [if_neg c20] at H
            exact absurd H (by simp)
          ·rw [if_neg c19] at H
           exact absurd H (by simp)
         ·rw [if_neg c18] at H
          exact absurd H (by simp)
        ·rw [if_neg c17] at H
         have c17b0 : decide (x12_3 < a3) = false := decide_eq_false c17
         clear c17
         obtain rfl := Option.some.inj H
         go_wp2
         go_ret
         exact ⟨fi_, bw_⟩

end Go.Proofs.Ytagkgddkpnbfoaa.P
