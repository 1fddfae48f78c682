import Derived.Test.YtagkgddkpnbfoaaP0
import Derived.Test.YtagkgddkpnbfoaaPf17
import Derived.Test.YtagkgddkpnbfoaaPf22
import Derived.Test.YtagkgddkpnbfoaaPf23
import Derived.Test.YtagkgddkpnbfoaaPf24
namespace Go.Proofs.Ytagkgddkpnbfoaa.P
open Go.RowKit Go.Proofs.YtagkgddkpnbfoaaW.PrintWords Go.Proofs.YtagkgddkpnbfoaaW.PrintLast Go.Proofs.YtagkgddkpnbfoaaW.PrintMore
attribute [local go_sem] max2_int min2_int max_two min_two max_three min_three max_four min_four   -- for this text's walks alone
set_option linter.unusedVariables false
set_option linter.unusedSimpArgs false

mutual
def drayagelaw20_JournalTorn.j0 : Nat → Int → List (S25) → List Int → List Int → Bool → Option (Bool)
 | 0, _, _, _, _, _ => none
 | k + 1, x1, x5, x6, x7, x30 => if x30 = true then (some false) else ((drayageref00_Bring.f x1 (wrap64 ((x6.length : Int) + 1))).bind fun t362 => (drayagelaw20_JournalTorn.l0 k x5 x6 x7 t362 0))
def drayagelaw20_JournalTorn.l0 : Nat → List (S25) → List Int → List Int → Int → Int → Option (Bool)
 | 0, _, _, _, _, _ => none
 | k + 1, x5, x6, x7, x9, x10 => if x10 < (x7.length : Int) then (if 0 ≤ x10 then (if (rd x7 x10) ≤ x9 then (drayagelaw20_JournalTorn.l0 k x5 x6 x7 x9 (wrap64 (x10 + 1))) else (if 0 ≤ x9 then (if x9 ≤ (x6.length : Int) then ((drayagelaw20_tells.f k (x6.take (x9 : Int).toNat) x5 x7 x10).bind fun t368 => (some t368)) else (none)) else (none))) else (none)) else (if 0 ≤ x9 then (if x9 ≤ (x6.length : Int) then ((drayagelaw20_tells.f k (x6.take (x9 : Int).toNat) x5 x7 x10).bind fun t373 => (some t373)) else (none)) else (none))
end
def drayagelaw20_JournalTorn.f (k : Nat) (l0 : List (S25)) (a1 : Int) : Option (Bool) := (drayagelaw20_works.f).bind fun t350 => (if t350 = true then ((drayagelaw20_row.f k l0).bind fun bt351 => (if bt351.2.2.2 = true then ((drayagelaw20_tells.f k bt351.2.1 bt351.1 bt351.2.2.1 (bt351.1.length : Int)).bind fun t361 => (drayagelaw20_JournalTorn.j0 k a1 bt351.1 bt351.2.1 bt351.2.2.1 (!t361))) else (drayagelaw20_JournalTorn.j0 k a1 bt351.1 bt351.2.1 bt351.2.2.1 true))) else (some false))
set_option maxHeartbeats 8000000 in
set_option maxRecDepth 100000 in
theorem drayagelaw20_JournalTorn.calls (k : Nat) (A0 : Option Addr) (c0 : Nat) (l0 : List (S25)) (a1 : Int) (r : Bool) (w : World) (hr0 : Kd.C k25 w A0 l0.length l0) (hc0 : l0.length ≤ c0) (h : drayagelaw20_JournalTorn.f k l0 a1 = some r) :
  Calls Try.prog 5 #[.slice A0 l0.length c0, .int .i64 a1] w fun e w' => e = .returned (.bool r) ∧ Below w.heap.size w w' := by
 have HR0 := Aside0.mk hr0
 have HC0 := Aside0.mk hc0
 clear hr0 hc0
 have HB := Aside0.mk (Below.refl w.heap.size w)
 have H : ((drayagelaw20_works.f).bind fun t350 => (if t350 = true then ((drayagelaw20_row.f k l0).bind fun bt351 => (if bt351.2.2.2 = true then ((drayagelaw20_tells.f k bt351.2.1 bt351.1 bt351.2.2.1 (bt351.1.length : Int)).bind fun t361 => (drayagelaw20_JournalTorn.j0 k a1 bt351.1 bt351.2.1 bt351.2.2.1 (!t361))) else (drayagelaw20_JournalTorn.j0 k a1 bt351.1 bt351.2.1 bt351.2.2.1 true))) else (some false))) = some r := h
 clear h
 replace H := Option.bind_eq_some_iff.mp H
 obtain ⟨t350, A30, H⟩ := H
 try dsimp only at H
 have A3 := Aside0.mk A30
 clear A30
 by_cases c4 : t350 = true
 ·subst c4
  rw [if_pos rfl] at H
  replace H := Option.bind_eq_some_iff.mp H
  obtain ⟨⟨t351, t352, t353, t354⟩, A50, H⟩ := H
  try dsimp only at H
  have A5 := Aside0.mk A50
  clear A50
  have HC6 := Aside0.mk H
  clear H
  go_enter Try.func5, Try.ntmps5
  go_upto_region 4 with (first | ((with_reducible refine gate_callee (f := 17) rfl ?_); refine goesL_ (some 11) rfl rfl Try.func17 (by kernel_rfl) rfl #[] rfl ca_ ?_; (with_reducible refine (drayagelaw20_works.calls  true _ A3.out).mono ?_); rintro e w7 ⟨rfl, hb⟩; refine ⟨_, rfl, ?_⟩; replace HB := Aside0.mk (below_step bw_ hb); (try clear hb); (try clear hb2); (try clear hk); (try clear hi)) | ((with_reducible refine gate_callee (f := 22) rfl ?_); refine goesL_ (some 15) rfl rfl Try.func22 (by kernel_rfl) rfl #[.slice A0 l0.length c0] rfl ca_ ?_; (with_reducible refine (drayagelaw20_row.calls k _ _ l0 t351 t352 t353 t354 _ ?side1 ?side2 A5.out).mono ?_); (case side1 => repeat (first | exact (Kd.C_below HR0.out HB.out) | (with_reducible refine Kd.C_alloc ?_ _) | (with_reducible refine Kd.C_drewN ?_ _) | (with_reducible refine Kd.C_drew ?_))); (case side2 => exact HC0.out); rintro e w8 ⟨v355, v357, v359, rfl, ho0, ho1, ho2, hb⟩; refine ⟨_, rfl, ?_⟩; have HO356 := Aside0.mk (Kd.S_lower ho0 (below_size bw_)); have HO358 := Aside0.mk (Kd.R_lower ho1 (below_size bw_)); have HO360 := Aside0.mk (Kd.R_lower ho2 (below_size bw_)); replace HB := Aside0.mk (below_step bw_ hb); (try clear hb); (try clear hb2); (try clear hk); (try clear hi); (try clear ho0); (try clear ho1); (try clear ho2)))
  (try simp only [Act.put, List.setIfInBounds_toArray, List.set_cons_zero, List.set_cons_succ])
  go_cut [30] (fun v30 wc => ∃ (kq : Nat) (x30_5 : Bool), v30 = .bool x30_5 ∧ Aside0 (drayagelaw20_JournalTorn.j0 kq a1 t351 t352 t353 x30_5 = some r) ∧ Aside0 (kq ≤ k) ∧ Aside0 (Kd.S k25 25 wc w.heap.size (fun k_ => some k_ ≠ (v359 : Value).ownBlock) v355 t351) ∧ Aside0 (Kd.R (Kd.int .u8) 5 wc w.heap.size (fun _ => True) v357 t352) ∧ Aside0 (Kd.R (Kd.int .i64) 3 wc w.heap.size (fun _ => True) v359 t353) ∧ Aside0 (Below w.heap.size w wc))
  case first =>
   have H := HC6.out
   clear HC6
   by_cases c9 : t354 = true
   ·subst c9
    rw [if_pos rfl] at H
    replace H := Option.bind_eq_some_iff.mp H
    obtain ⟨t361, A100, H⟩ := H
    try dsimp only at H
    have A10 := Aside0.mk A100
    clear A100
    have H' := Aside0.mk H
    clear H
    obtain ⟨Ao11, co11, eo11⟩ := Kd.S_slice HO356.out
    subst eo11
    obtain ⟨Ao12, co12, eo12⟩ := Kd.R_slice HO358.out
    subst eo12
    obtain ⟨Ao13, co13, eo13⟩ := Kd.R_slice HO360.out
    subst eo13
    go_wp2_with (first | (go_at_call 23; (with_reducible refine (drayagelaw20_tells.calls k _ _ t352 _ _ t351 _ _ t353 (t351.length : Int) t361 _ ?side1 ?side2 ?side3 ?side4 ?side5 ?side6 A10.out).mono ?_); (case side1 => repeat (first | exact (Kd.R_reads' HO358.out).2.2 | (with_reducible refine Kd.C_alloc ?_ _) | (with_reducible refine Kd.C_drewN ?_ _) | (with_reducible refine Kd.C_drew ?_))); (case side2 => exact (Kd.R_reads' HO358.out).2.1); (case side3 => repeat (first | exact (Kd.S_reads' HO356.out).2.2 | (with_reducible refine Kd.C_alloc ?_ _) | (with_reducible refine Kd.C_drewN ?_ _) | (with_reducible refine Kd.C_drew ?_))); (case side4 => exact (Kd.S_reads' HO356.out).2.1); (case side5 => repeat (first | exact (Kd.R_reads' HO360.out).2.2 | (with_reducible refine Kd.C_alloc ?_ _) | (with_reducible refine Kd.C_drewN ?_ _) | (with_reducible refine Kd.C_drew ?_))); (case side6 => exact (Kd.R_reads' HO360.out).2.1); rintro e w14 ⟨rfl, hb⟩; replace HO356 := Aside0.mk (Kd.S_below (by (with_reducible repeat (first | apply Kd.S_alloc | apply Kd.S_drewN | apply Kd.S_drew)); exact HO356.out) hb); replace HO358 := Aside0.mk (Kd.R_below (ra_ HO358.out) hb); replace HO360 := Aside0.mk (Kd.R_below (ra_ HO360.out) hb); replace HB := Aside0.mk (below_step bw_ hb); (try clear hb); (try clear hb2); (try clear hk); (try clear hi)))
    go_meet
    case rel => exact ⟨_, (!t361), fs_, H', ⟨by first | omega | exact Nat.le_refl _⟩, ⟨by (with_reducible repeat (first | apply Kd.S_alloc | apply Kd.S_drewN | apply Kd.S_drew)); exact HO356.out⟩, ⟨by (with_reducible repeat (first | apply Kd.R_alloc | apply Kd.R_drewN | apply Kd.R_drew)); exact HO358.out⟩, ⟨by (with_reducible repeat (first | apply Kd.R_alloc | apply Kd.R_drewN | apply Kd.R_drew)); exact HO360.out⟩, ⟨bw_⟩⟩
   ·replace c9 := Bool.eq_false_iff.mpr c9
    subst c9
    have H1 : (drayagelaw20_JournalTorn.j0 k a1 t351 t352 t353 true) = some r := by rw [if_neg (show ¬ (false = true) by decide)] at H; exact H
    clear H
    have H := H1
    clear H1
    have H' := Aside0.mk H
    clear H
    go_wp2
    go_meet
    case rel => exact ⟨_, (true), fs_, H', ⟨by first | omega | exact Nat.le_refl _⟩, ⟨by (with_reducible repeat (first | apply Kd.S_alloc | apply Kd.S_drewN | apply Kd.S_drew)); exact HO356.out⟩, ⟨by (with_reducible repeat (first | apply Kd.R_alloc | apply Kd.R_drewN | apply Kd.R_drew)); exact HO358.out⟩, ⟨by (with_reducible repeat (first | apply Kd.R_alloc | apply Kd.R_drewN | apply Kd.R_drew)); exact HO360.out⟩, ⟨bw_⟩⟩
  case rest =>
   clear HC6
   (try clear c1); (try clear c2); (try clear p2); (try clear c4); (try clear c5); (try clear c9)
   obtain ⟨kq, x30_5, rfl, HA, HJ5, HO_5, HO_6, HO_7, HB⟩ := hcut
   cases kq with
   | zero => exact absurd HA.out (by simp [drayagelaw20_JournalTorn.j0])
   | succ kj5 =>
    have H := HA.out
    clear HA
    simp only [drayagelaw20_JournalTorn.j0] at H
    by_cases c15 : x30_5 = true
    ·subst c15
     rw [if_pos rfl] at H
     obtain rfl := Option.some.inj H
     go_wp2
     go_ret
     exact ⟨fi_, bw_⟩
    ·replace c15 := Bool.eq_false_iff.mpr c15
     subst c15
     have H1 : ((drayageref00_Bring.f a1 (wrap64 ((t352.length : Int) + 1))).bind fun t362 => (drayagelaw20_JournalTorn.l0 kj5 t351 t352 t353 t362 0)) = some r := by rw [if_neg (show ¬ (false = true) by decide)] at H; exact H
     clear H
     have H := H1
     clear H1
     replace H := Option.bind_eq_some_iff.mp H
     obtain ⟨t362, A160, H⟩ := H
     try dsimp only at H
     have A16 := Aside0.mk A160
     clear A160
     have H' := Aside0.mk H
     clear H
     obtain ⟨Ao17, co17, eo17⟩ := Kd.R_slice HO_6.out
     subst eo17
     go_wp2_with (first | ((with_reducible refine gate_callee (f := 24) rfl ?_); refine goesL_ (some 35) rfl rfl Try.func24 (by kernel_rfl) rfl #[.int .i64 a1, .int .i64 (wrap64 ((t352.length : Int) + 1))] rfl ca_ ?_; (with_reducible refine (drayageref00_Bring.calls a1 (wrap64 ((t352.length : Int) + 1)) t362 _ A16.out).mono ?_); rintro e w' ⟨rfl, ⟨nd, rfl⟩⟩; refine ⟨_, rfl, ?_⟩))
     go_loopg [10] kj5 (fun kq v10 w' => ∃ (x10_2 : Int), v10 = .int .i64 x10_2 ∧ Aside0 (drayagelaw20_JournalTorn.l0 kq t351 t352 t353 t362 x10_2 = some r) ∧ Aside0 (kq ≤ kj5) ∧ Aside0 (Kd.S k25 25 w' w.heap.size (fun k_ => some k_ ≠ (v359 : Value).ownBlock) v355 t351) ∧ Aside0 (Kd.R (Kd.int .u8) 5 w' w.heap.size (fun _ => True) (.slice Ao17 t352.length co17) t352) ∧ Aside0 (Kd.R (Kd.int .i64) 3 w' w.heap.size (fun _ => True) v359 t353) ∧ Aside0 (Below w.heap.size w w'))
     case atStart => exact ⟨(0), fs_, H', ⟨Nat.le_refl _⟩, ⟨by (with_reducible repeat (first | apply Kd.S_alloc | apply Kd.S_drewN | apply Kd.S_drew)); exact HO_5.out⟩, ⟨by (with_reducible repeat (first | apply Kd.R_alloc | apply Kd.R_drewN | apply Kd.R_drew)); exact HO_6.out⟩, ⟨by (with_reducible repeat (first | apply Kd.R_alloc | apply Kd.R_drewN | apply Kd.R_drew)); exact HO_7.out⟩, ⟨bw_⟩⟩
     case round =>
      clear H'
      (try clear c1); (try clear c2); (try clear p2); (try clear c4); (try clear c5); (try clear p6); (try clear c9); (try clear c15); (try clear c17); (try clear p2)
      obtain ⟨x10_2, rfl, HA, HK2, HO_5, HO_6, HO_7, HB⟩ := hrel
      cases gk with
      | zero => exact absurd HA.out (by simp [drayagelaw20_JournalTorn.l0])
      | succ k2 =>
       have H := HA.out
       clear HA
       simp only [drayagelaw20_JournalTorn.l0] at H
       by_cases c18 : x10_2 < (t353.length : Int)
       ·rw [if_pos c18] at H
        have c18b0 : decide (x10_2 < (t353.length : Int)) = true := decide_eq_true c18
        clear c18
        by_cases c19 : 0 ≤ x10_2
        ·rw [if_pos c19] at H
         have c19b0 : decide (0 ≤ x10_2) = true := decide_eq_true c19
         clear c19
         by_cases c20 : (rd t353 x10_2) ≤ t362
         ·rw [if_pos c20] at H
          have c20b0 : decide ((rd t353 x10_2) ≤ t362) = true := decide_eq_true c20
          clear c20
          have H' := Aside0.mk H
          clear H
          obtain ⟨Ao21, co21, eo21⟩ := Kd.R_slice HO_7.out
          subst eo21
          have p363 : 0 ≤ (x10_2 : Int) := of_decide_eq_true (by first | (with_reducible assumption) | assumption)
          have q363 : x10_2 < (t353.length : Int) := of_decide_eq_true (by first | (with_reducible assumption) | assumption)
          obtain ⟨ad363, e363, hx363_0⟩ := Kd.at_int (Kd.R_reads' HO_7.out).2.2 x10_2 p363 q363
          cases e363
          replace p363 := eq_true p363
          replace q363 := eq_true q363
          go_wp2
          go_roundg k2
          case measure => have := HJ5.out; have := HK2.out; omega
          case rel => exact ⟨(wrap64 (x10_2 + 1)), fs_, H', ⟨by have := HJ5.out; have := HK2.out; omega⟩, ⟨by (with_reducible repeat (first | apply Kd.S_alloc | apply Kd.S_drewN | apply Kd.S_drew)); exact HO_5.out⟩, ⟨by (with_reducible repeat (first | apply Kd.R_alloc | apply Kd.R_drewN | apply Kd.R_drew)); exact HO_6.out⟩, ⟨by (with_reducible repeat (first | apply Kd.R_alloc | apply Kd.R_drewN | apply Kd.R_drew)); exact HO_7.out⟩, ⟨bw_⟩⟩
         ·rw [if_neg c20] at H
          have c20b0 : decide ((rd t353 x10_2) ≤ t362) = false := decide_eq_false c20
          clear c20
          by_cases c22 : 0 ≤ t362
          ·rw [if_pos c22] at H
           have c22b0 := eq_true c22
           have c22b1 : decide (0 ≤ t362) = true := decide_eq_true c22
           clear c22
           by_cases c23 : t362 ≤ (t352.length : Int)
           ·rw [if_pos c23] at H
            have c23b0 := eq_true c23
            have c23b1 : decide (t362 ≤ (t352.length : Int)) = true := decide_eq_true c23
            clear c23
            obtain ⟨y364, hy364⟩ : ∃ y_ : List Int, y_ = (t352.take (t362 : Int).toNat) := ⟨_, rfl⟩
            replace H : ((drayagelaw20_tells.f k2 y364 t351 t353 x10_2).bind fun t368 => (some t368)) = some r := by first | (rw [hy364]; with_reducible exact H) | (have H2_ := (Option.bind_some _ _).symm.trans H; rw [hy364]; with_reducible exact H2_) | (have H2_ := (Option.bind_some _ _).symm.trans H; with_reducible exact H2_) | with_reducible exact H | (rw [hy364]; exact H) | exact H
            have Ny364 := Aside0.mk hy364
            clear hy364
            replace H := Option.bind_eq_some_iff.mp H
            obtain ⟨t368, A240, H⟩ := H
            try dsimp only at H
            have A24 := Aside0.mk A240
            clear A240
            obtain rfl := Option.some.inj H
            obtain ⟨Ao25, co25, eo25⟩ := Kd.R_slice HO_7.out
            subst eo25
            have p363 : 0 ≤ (x10_2 : Int) := of_decide_eq_true (by first | (with_reducible assumption) | assumption)
            have q363 : x10_2 < (t353.length : Int) := of_decide_eq_true (by first | (with_reducible assumption) | assumption)
            obtain ⟨ad363, e363, hx363_0⟩ := Kd.at_int (Kd.R_reads' HO_7.out).2.2 x10_2 p363 q363
            cases e363
            replace p363 := eq_true p363
            replace q363 := eq_true q363
            have q26 : (t362 : Int) ≤ ((t352.length : Int) : Int) := of_decide_eq_true (by first | (with_reducible assumption) | assumption)
            obtain ⟨i026, hi026, _, hsz26, _⟩ := info_parts info5
            have hroom26 : t352.length ≤ co17 := (Kd.R_reads' HO_6.out).2.1
            have hC26 : Kd.C (Kd.int .u8) _ Ao17 t352.length t352 := (Kd.R_reads' HO_6.out).2.2
            have hcut26 := cut_to (P := Try.prog) 26 5 .i64 Try.underlying26 hi026 Ao17 t352.length co17 t362 (of_decide_eq_true (by first | (with_reducible assumption) | assumption)) q26 hroom26
            have hr26 := Kd.C_take (m := (t362 : Int).toNat) hC26 (by omega)
            have hy26 : y364.length = (t362 : Int).toNat := (by rw [Ny364.out, List.length_take]; omega)
            rw [← Ny364.out] at hr26
            rw [← hy26] at hcut26
            have HR367 := Aside0.mk hr26
            have HC367 := Aside0.mk (show y364.length ≤ co17 from by omega)
            clear hr26 hC26 hroom26 hi026 hsz26
            have KY26 := Aside0.mk hy26
            clear hy26
            have KL26 := Aside0.mk (show (t362 : Int).toNat ≤ t352.length from by omega)
            replace q26 := eq_true q26
            obtain ⟨Ao27, co27, eo27⟩ := Kd.S_slice HO_5.out
            subst eo27
            go_wp2_with (first | ((with_reducible refine gate_callee (f := 23) rfl ?_); refine goesL_ (some 56) rfl rfl Try.func23 (by kernel_rfl) rfl #[.slice Ao17 y364.length co17, .slice Ao27 t351.length co27, .slice (some ad363) t353.length co25, .int .i64 x10_2] rfl ca_ ?_; (with_reducible refine (drayagelaw20_tells.calls k2 _ _ y364 _ _ t351 _ _ t353 x10_2 t368 _ ?side1 ?side2 ?side3 ?side4 ?side5 ?side6 A24.out).mono ?_); (case side1 => repeat (first | exact (by repeat (first | (with_reducible exact HR367.out) | (with_reducible refine Kd.C_alloc ?_ _) | (with_reducible refine Kd.C_drewN ?_ _) | (with_reducible refine Kd.C_drew ?_) | exact HR367.out)) | (with_reducible refine Kd.C_alloc ?_ _) | (with_reducible refine Kd.C_drewN ?_ _) | (with_reducible refine Kd.C_drew ?_))); (case side2 => exact HC367.out); (case side3 => repeat (first | exact (Kd.S_reads' HO_5.out).2.2 | (with_reducible refine Kd.C_alloc ?_ _) | (with_reducible refine Kd.C_drewN ?_ _) | (with_reducible refine Kd.C_drew ?_))); (case side4 => exact (Kd.S_reads' HO_5.out).2.1); (case side5 => repeat (first | exact (Kd.R_reads' HO_7.out).2.2 | (with_reducible refine Kd.C_alloc ?_ _) | (with_reducible refine Kd.C_drewN ?_ _) | (with_reducible refine Kd.C_drew ?_))); (case side6 => exact (Kd.R_reads' HO_7.out).2.1); rintro e w28 ⟨rfl, hb⟩; refine ⟨_, rfl, ?_⟩; replace HO_5 := Aside0.mk (Kd.S_below (by (with_reducible repeat (first | apply Kd.S_alloc | apply Kd.S_drewN | apply Kd.S_drew)); exact HO_5.out) hb); replace HO_6 := Aside0.mk (Kd.R_below (ra_ HO_6.out) hb); replace HO_7 := Aside0.mk (Kd.R_below (ra_ HO_7.out) hb); replace HR367 := Aside0.mk (Kd.C_below (by repeat (first | (with_reducible exact HR367.out) | (with_reducible refine Kd.C_alloc ?_ _) | (with_reducible refine Kd.C_drewN ?_ _) | (with_reducible refine Kd.C_drew ?_) | exact HR367.out)) hb); replace HB := Aside0.mk (below_step bw_ hb); (try clear hb); (try clear hb2); (try clear hk); (try clear hi)))
            go_ret
            exact ⟨fi_, bw_⟩
           ·rw [if_neg c23] at H
            exact absurd H (by simp)
          ·rw [if_neg c22] at H
           exact absurd H (by simp)
        ·rw [if_neg c19] at H
         exact absurd H (by simp)
       ·rw [if_neg c18] at H
        have c18b0 : decide (x10_2 < (t353.length : Int)) = false := decide_eq_false c18
        clear c18
        by_cases c29 : 0 ≤ t362
        ·rw [if_pos c29] at H
         have c29b0 := eq_true c29
         have c29b1 : decide (0 ≤ t362) = true := decide_eq_true c29
         clear c29
         by_cases c30 : t362 ≤ (t352.length : Int)
         ·rw [if_pos c30] at H
          have c30b0 := eq_true c30
          have c30b1 : decide (t362 ≤ (t352.length : Int)) = true := decide_eq_true c30
          clear c30
          obtain ⟨y369, hy369⟩ : ∃ y_ : List Int, y_ = (t352.take (t362 : Int).toNat) := ⟨_, rfl⟩
          replace H : ((drayagelaw20_tells.f k2 y369 t351 t353 x10_2).bind fun t373 => (some t373)) = some r := by first | (rw [hy369]; with_reducible exact H) | (have H2_ := (Option.bind_some _ _).symm.trans H; rw [hy369]; with_reducible exact H2_) | (have H2_ := (Option.bind_some _ _).symm.trans H; with_reducible exact H2_) | with_reducible exact H | (rw [hy369]; exact H) | exact H
          have Ny369 := Aside0.mk hy369
          clear hy369
          replace H := Option.bind_eq_some_iff.mp H
          obtain ⟨t373, A310, H⟩ := H
          try dsimp only at H
          have A31 := Aside0.mk A310
          clear A310
          obtain rfl := Option.some.inj H
          obtain ⟨Ao32, co32, eo32⟩ := Kd.R_slice HO_7.out
          subst eo32
          have q33 : (t362 : Int) ≤ ((t352.length : Int) : Int) := of_decide_eq_true (by first | (with_reducible assumption) | assumption)
          obtain ⟨i033, hi033, _, hsz33, _⟩ := info_parts info5
          have hroom33 : t352.length ≤ co17 := (Kd.R_reads' HO_6.out).2.1
          have hC33 : Kd.C (Kd.int .u8) _ Ao17 t352.length t352 := (Kd.R_reads' HO_6.out).2.2
          have hcut33 := cut_to (P := Try.prog) 26 5 .i64 Try.underlying26 hi033 Ao17 t352.length co17 t362 (of_decide_eq_true (by first | (with_reducible assumption) | assumption)) q33 hroom33
          have hr33 := Kd.C_take (m := (t362 : Int).toNat) hC33 (by omega)
          have hy33 : y369.length = (t362 : Int).toNat := (by rw [Ny369.out, List.length_take]; omega)
          rw [← Ny369.out] at hr33
          rw [← hy33] at hcut33
          have HR372 := Aside0.mk hr33
          have HC372 := Aside0.mk (show y369.length ≤ co17 from by omega)
          clear hr33 hC33 hroom33 hi033 hsz33
          have KY33 := Aside0.mk hy33
          clear hy33
          have KL33 := Aside0.mk (show (t362 : Int).toNat ≤ t352.length from by omega)
          replace q33 := eq_true q33
          obtain ⟨Ao34, co34, eo34⟩ := Kd.S_slice HO_5.out
          subst eo34
          go_wp2_with (first | ((with_reducible refine gate_callee (f := 23) rfl ?_); refine goesL_ (some 56) rfl rfl Try.func23 (by kernel_rfl) rfl #[.slice Ao17 y369.length co17, .slice Ao34 t351.length co34, .slice Ao32 t353.length co32, .int .i64 x10_2] rfl ca_ ?_; (with_reducible refine (drayagelaw20_tells.calls k2 _ _ y369 _ _ t351 _ _ t353 x10_2 t373 _ ?side1 ?side2 ?side3 ?side4 ?side5 ?side6 A31.out).mono ?_); (case side1 => repeat (first | exact (by repeat (first | (with_reducible exact HR372.out) | (with_reducible refine Kd.C_alloc ?_ _) | (with_reducible refine Kd.C_drewN ?_ _) | (with_reducible refine Kd.C_drew ?_) | exact HR372.out)) | (with_reducible refine Kd.C_alloc ?_ _) | (with_reducible refine Kd.C_drewN ?_ _) | (with_reducible refine Kd.C_drew ?_))); (case side2 => exact HC372.out); (case side3 => repeat (first | exact (Kd.S_reads' HO_5.out).2.2 | (with_reducible refine Kd.C_alloc ?_ _) | (with_reducible refine Kd.C_drewN ?_ _) | (with_reducible refine Kd.C_drew ?_))); (case side4 => exact (Kd.S_reads' HO_5.out).2.1); (case side5 => repeat (first | exact (Kd.R_reads' HO_7.out).2.2 | (with_reducible refine Kd.C_alloc ?_ _) | (with_reducible refine Kd.C_drewN ?_ _) | (with_reducible refine Kd.C_drew ?_))); (case side6 => exact (Kd.R_reads' HO_7.out).2.1); rintro e w35 ⟨rfl, hb⟩; refine ⟨_, rfl, ?_⟩; replace HO_5 := Aside0.mk (Kd.S_below (by (with_reducible repeat (first | apply Kd.S_alloc | apply Kd.S_drewN | apply Kd.S_drew)); exact HO_5.out) hb); replace HO_6 := Aside0.mk (Kd.R_below (ra_ HO_6.out) hb); replace HO_7 := Aside0.mk (Kd.R_below (ra_ HO_7.out) hb); replace HR372 := Aside0.mk (Kd.C_below (by repeat (first | (with_reducible exact HR372.out) | (with_reducible refine Kd.C_alloc ?_ _) | (with_reducible refine Kd.C_drewN ?_ _) | (with_reducible refine Kd.C_drew ?_) | exact HR372.out)) hb); replace HB := Aside0.mk (below_step bw_ hb); (try clear hb); (try clear hb2); (try clear hk); (try clear hi)))
          go_ret
          exact ⟨fi_, bw_⟩
         ·rw [if_neg c30] at H
          exact absurd H (by simp)
        ·rw [if_neg c29] at H
         exact absurd H (by simp)
 ·replace c4 := Bool.eq_false_iff.mpr c4
  subst c4
  have H1 : (some false) = some r := by rw [if_neg (show ¬ (false = true) by decide)] at H; exact H
  clear H
  have H := H1
  clear H1
  obtain rfl := Option.some.inj H
  go_enter Try.func5, Try.ntmps5
  go_wp2_with (first | ((with_reducible refine gate_callee (f := 17) rfl ?_); refine goesL_ (some 11) rfl rfl Try.func17 (by kernel_rfl) rfl #[] rfl ca_ ?_; (with_reducible refine (drayagelaw20_works.calls  false _ A3.out).mono ?_); rintro e w36 ⟨rfl, hb⟩; refine ⟨_, rfl, ?_⟩; replace HB := Aside0.mk (below_step bw_ hb); (try clear hb); (try clear hb2); (try clear hk); (try clear hi)))
  go_ret
  exact ⟨fi_, bw_⟩

end Go.Proofs.Ytagkgddkpnbfoaa.P
