import Derived.Test.YtagkgddkpnbfoaaP0
import Derived.Test.YtagkgddkpnbfoaaHplaw
import Derived.Test.YtagkgddkpnbfoaaHbytes
import Derived.Test.YtagkgddkpnbfoaaHread
import Derived.Test.YtagkgddkpnbfoaaPf14
import Derived.Test.YtagkgddkpnbfoaaPf18
namespace Go.Proofs.Ytagkgddkpnbfoaa.P
open Go.RowKit Go.Proofs.YtagkgddkpnbfoaaW.PrintWords Go.Proofs.YtagkgddkpnbfoaaW.PrintLast Go.Proofs.YtagkgddkpnbfoaaW.PrintMore
attribute [local go_sem] max2_int min2_int max_two min_two max_three min_three max_four min_four   -- for this text's walks alone
set_option linter.unusedVariables false
set_option linter.unusedSimpArgs false

def drayagelaw20_works.f  : Option (Bool) := (journal_Bytes.f 3 1 2 ([] : List Int) ([] : List (S49))).bind fun bt213 => ((some (([0, 11, 255, 244, 3, 0, 1, 0, 2, 7, 56] : List Int) : List Int)).bind fun y217 => ((drayageref00_CopyBytes.f y217).bind fun t220 => (if 10 ≤ (y217.length : Int) then ((some (y217.take 10 : List Int)).bind fun y223 => (if t220.length + y223.length < 140737488355328 then ((journal_Read.f (t220 ++ y223)).bind fun bt230 => (if bt213.2 = 0 then ((drayageref00_EqBytes.f bt213.1 y217).bind fun t234 => (if t234 = true then (if (bt230.1.length : Int) = 1 then (if bt230.2 = 11 then (if 0 < (bt230.1.length : Int) then (if ((rd_T25 bt230.1 0).f0) = 3 then (if ((rd_T25 bt230.1 0).f1) = 1 then (some (((rd_T25 bt230.1 0).f2) == 2)) else (some false)) else (some false)) else (none)) else (some false)) else (some false)) else (some false))) else (some false))) else (none))) else (none))))
theorem eqBytes_self (l : List Int) : drayageref00_EqBytes.f l l = some true := by simp [drayageref00_EqBytes.f]
theorem copyBytes_f {l : List Int} (h : l.length < 140737488355328) : drayageref00_CopyBytes.f l = some l := by
 unfold drayageref00_CopyBytes.f
 rw [if_pos (by simpa using h)]
 rfl
def works21 : List Int := [0, 11, 255, 244, 3, 0, 1, 0, 2, 7, 56, 0, 11, 255, 244, 3, 0, 1, 0, 2, 7]
theorem works_read : readAll works21 = ([⟨3, 1, 2, [], []⟩], 11) := by
 have h1 : firstOk works21 = true := by decide +kernel
 rw [readAll_yes h1]
 have h2 : firstOk (works21.drop (fN works21)) = false := by decide +kernel
 rw [readAll_no h2]
 rfl
theorem works_ok : bytesOk works21 = true := by decide +kernel
theorem works_f : drayagelaw20_works.f = some true := by
 unfold drayagelaw20_works.f
 have e1 : journal_Bytes.f 3 1 2 ([] : List Int) ([] : List S49) = some ([0, 11, 255, 244, 3, 0, 1, 0, 2, 7, 56], 0) := by
  unfold journal_Bytes.f
  decide +kernel
 rw [e1]
 simp only [Option.bind_some]
 rw [copyBytes_f (by simp)]
 simp only [Option.bind_some]
 rw [if_pos (by simp), if_pos (by simp)]
 have e2 : journal_Read.f ([0, 11, 255, 244, 3, 0, 1, 0, 2, 7, 56] ++ ([0, 11, 255, 244, 3, 0, 1, 0, 2, 7, 56] : List Int).take 10) = some ([⟨3, 1, 2, [], []⟩], 11) := by
  show journal_Read.f works21 = _
  unfold journal_Read.f
  rw [works_ok, if_pos rfl, works_read]
  rfl
 rw [e2]
 simp only [Option.bind_some]
 rw [eqBytes_self]
 simp [rd_T25]
def drayagelaw20_works.T3 : Bool × List (List Nat × List Nat) := (true, [([], []), ([0], [0]), ([], []), ([2], [2]), ([1, 3, 1], [1, 3]), ([4, 4], [4]), ([5], [5]), ([6], [6]), ([6], [6]), ([7, 5, 0, 1, 2, 3, 4, 5, 6, 7], [7]), ([8, 9, 0, 1, 2, 3, 4, 5, 6, 7, 8, 9], [8])])
def drayagelaw20_works.B3 : List Nat := [0, 1, 0, 4, 15, 31, 63, 127, 127, 255, 1023]
theorem drayagelaw20_works.tab3 : rtab .any (opsOf Try.f17 3) = drayagelaw20_works.T3 := by kernel_rfl
theorem drayagelaw20_works.bits3 : waitsOk drayagelaw20_works.T3.2 drayagelaw20_works.B3 = true := by kernel_rfl
set_option maxHeartbeats 8000000 in
set_option maxRecDepth 100000 in
theorem drayagelaw20_works.calls  (r : Bool) (w : World) (h : drayagelaw20_works.f  = some r) :
  Calls Try.prog 17 #[] w fun e w' => e = .returned (.bool r) ∧ Below w.heap.size w w' := by
 have hu25 := Try.underlying25
 obtain rfl : r = true := Option.some.inj (h.symm.trans works_f)
 have HB := Aside0.mk (Below.refl w.heap.size w)
 have H : ((journal_Bytes.f 3 1 2 ([] : List Int) ([] : List (S49))).bind fun bt213 => ((some (([0, 11, 255, 244, 3, 0, 1, 0, 2, 7, 56] : List Int) : List Int)).bind fun y217 => ((drayageref00_CopyBytes.f y217).bind fun t220 => (if 10 ≤ (y217.length : Int) then ((some (y217.take 10 : List Int)).bind fun y223 => (if t220.length + y223.length < 140737488355328 then ((journal_Read.f (t220 ++ y223)).bind fun bt230 => (if bt213.2 = 0 then ((drayageref00_EqBytes.f bt213.1 y217).bind fun t234 => (if t234 = true then (if (bt230.1.length : Int) = 1 then (if bt230.2 = 11 then (if 0 < (bt230.1.length : Int) then (if ((rd_T25 bt230.1 0).f0) = 3 then (if ((rd_T25 bt230.1 0).f1) = 1 then (some (((rd_T25 bt230.1 0).f2) == 2)) else (some false)) else (some false)) else (none)) else (some false)) else (some false)) else (some false))) else (some false))) else (none))) else (none))))) = some true := h
 clear h
 replace H := Option.bind_eq_some_iff.mp H
 obtain ⟨⟨t213, t216⟩, A10, H⟩ := H
 try dsimp only at H
 have A1 := Aside0.mk A10
 clear A10
 obtain ⟨y217, hy217⟩ : ∃ y_ : List Int, y_ = (([0, 11, 255, 244, 3, 0, 1, 0, 2, 7, 56] : List Int)) := ⟨_, rfl⟩
 replace H : ((drayageref00_CopyBytes.f y217).bind fun t220 => (if 10 ≤ (y217.length : Int) then ((some (y217.take 10 : List Int)).bind fun y223 => (if t220.length + y223.length < 140737488355328 then ((journal_Read.f (t220 ++ y223)).bind fun bt230 => (if t216 = 0 then ((drayageref00_EqBytes.f t213 y217).bind fun t234 => (if t234 = true then (if (bt230.1.length : Int) = 1 then (if bt230.2 = 11 then (if 0 < (bt230.1.length : Int) then (if ((rd_T25 bt230.1 0).f0) = 3 then (if ((rd_T25 bt230.1 0).f1) = 1 then (some (((rd_T25 bt230.1 0).f2) == 2)) else (some false)) else (some false)) else (none)) else (some false)) else (some false)) else (some false))) else (some false))) else (none))) else (none))) = some true := by first | (rw [hy217]; with_reducible exact H) | (have H2_ := (Option.bind_some _ _).symm.trans H; rw [hy217]; with_reducible exact H2_) | (have H2_ := (Option.bind_some _ _).symm.trans H; with_reducible exact H2_) | with_reducible exact H | (rw [hy217]; exact H) | exact H
 have Ny217 := Aside0.mk hy217
 clear hy217
 replace H := Option.bind_eq_some_iff.mp H
 obtain ⟨t220, A20, H⟩ := H
 try dsimp only at H
 have A2 := Aside0.mk A20
 clear A20
 by_cases c3 : 10 ≤ (y217.length : Int)
 ·rw [if_pos c3] at H
  have c3b0 := eq_true c3
  have c3b1 : decide (10 ≤ (y217.length : Int)) = true := decide_eq_true c3
  clear c3
  obtain ⟨y223, hy223⟩ : ∃ y_ : List Int, y_ = (y217.take 10) := ⟨_, rfl⟩
  replace H : (if t220.length + y223.length < 140737488355328 then ((journal_Read.f (t220 ++ y223)).bind fun bt230 => (if t216 = 0 then ((drayageref00_EqBytes.f t213 y217).bind fun t234 => (if t234 = true then (if (bt230.1.length : Int) = 1 then (if bt230.2 = 11 then (if 0 < (bt230.1.length : Int) then (if ((rd_T25 bt230.1 0).f0) = 3 then (if ((rd_T25 bt230.1 0).f1) = 1 then (some (((rd_T25 bt230.1 0).f2) == 2)) else (some false)) else (some false)) else (none)) else (some false)) else (some false)) else (some false))) else (some false))) else (none)) = some true := by first | (rw [hy223]; with_reducible exact H) | (have H2_ := (Option.bind_some _ _).symm.trans H; rw [hy223]; with_reducible exact H2_) | (have H2_ := (Option.bind_some _ _).symm.trans H; with_reducible exact H2_) | with_reducible exact H | (rw [hy223]; exact H) | exact H
  have Ny223 := Aside0.mk hy223
  clear hy223
  by_cases c4 : t220.length + y223.length < 140737488355328
  ·rw [if_pos c4] at H
   have LMc4 := Aside0.mk c4
   clear c4
   obtain ⟨y227, hy227⟩ : ∃ y_ : List Int, y_ = (t220 ++ y223) := ⟨_, rfl⟩
   replace H : ((journal_Read.f y227).bind fun bt230 => (if t216 = 0 then ((drayageref00_EqBytes.f t213 y217).bind fun t234 => (if t234 = true then (if (bt230.1.length : Int) = 1 then (if bt230.2 = 11 then (if 0 < (bt230.1.length : Int) then (if ((rd_T25 bt230.1 0).f0) = 3 then (if ((rd_T25 bt230.1 0).f1) = 1 then (some (((rd_T25 bt230.1 0).f2) == 2)) else (some false)) else (some false)) else (none)) else (some false)) else (some false)) else (some false))) else (some false))) = some true := by first | (rw [hy227]; with_reducible exact H) | (have H2_ := (Option.bind_some _ _).symm.trans H; rw [hy227]; with_reducible exact H2_) | (have H2_ := (Option.bind_some _ _).symm.trans H; with_reducible exact H2_) | with_reducible exact H | (rw [hy227]; exact H) | exact H
   have Ny227 := Aside0.mk hy227
   clear hy227
   replace H := Option.bind_eq_some_iff.mp H
   obtain ⟨⟨t230, t231⟩, A50, H⟩ := H
   try dsimp only at H
   have A5 := Aside0.mk A50
   clear A50
   by_cases c6 : t216 = 0
   ·rw [if_pos c6] at H
    have c6b0 : (t216 == 0) = true := beq_iff_eq.mpr c6
    have c6b1 : (t216 != 0) = false := bne_eq_false_iff_eq.mpr c6
    clear c6
    replace H := Option.bind_eq_some_iff.mp H
    obtain ⟨t234, A70, H⟩ := H
    try dsimp only at H
    have A7 := Aside0.mk A70
    clear A70
    by_cases c8 : t234 = true
    ·subst c8
     rw [if_pos rfl] at H
     by_cases c9 : (t230.length : Int) = 1
     ·rw [if_pos c9] at H
      have c9b0 : ((t230.length : Int) == 1) = true := beq_iff_eq.mpr c9
      have c9b1 : ((t230.length : Int) != 1) = false := bne_eq_false_iff_eq.mpr c9
      clear c9
      by_cases c10 : t231 = 11
      ·rw [if_pos c10] at H
       have c10b0 : (t231 == 11) = true := beq_iff_eq.mpr c10
       have c10b1 : (t231 != 11) = false := bne_eq_false_iff_eq.mpr c10
       clear c10
       by_cases c11 : 0 < (t230.length : Int)
       ·rw [if_pos c11] at H
        have c11b0 : decide (0 < (t230.length : Int)) = true := decide_eq_true c11
        have c11b1 : decide (0 < t230.length) = true := decide_eq_true (by omega)
        clear c11
        by_cases c12 : ((rd_T25 t230 0).f0) = 3
        ·rw [if_pos c12] at H
         have c12b0 : (((rd_T25 t230 0).f0) == 3) = true := beq_iff_eq.mpr c12
         have c12b1 : (((rd_T25 t230 0).f0) != 3) = false := bne_eq_false_iff_eq.mpr c12
         clear c12
         by_cases c13 : ((rd_T25 t230 0).f1) = 1
         ·rw [if_pos c13] at H
          have c13b0 : (((rd_T25 t230 0).f1) == 1) = true := beq_iff_eq.mpr c13
          have c13b1 : (((rd_T25 t230 0).f1) != 1) = false := bne_eq_false_iff_eq.mpr c13
          clear c13
          have HL_ := Option.some.inj H
          go_enter Try.func17, Try.ntmps17
          try go_wp2_with (first | ((with_reducible refine gate_callee (f := 10) rfl ?_); refine goesL_ (some 8) rfl rfl Try.func10 (by kernel_rfl) rfl #[.agg #[.int .i64 3, .int .i64 1, .int .i64 2, .slice none 0 0, .slice none 0 0]] rfl ca_ ?_; (refine (journal_Bytes.calls 3 1 2 _ _ ([] : List Int) _ _ ([] : List (S49)) t213 t216 _ ?side1 ?side2 ?side3 ?side4 A1.out).mono ?_); (case side1 => exact Kd.C_nil _ _); (case side2 => exact Nat.le_refl _); (case side3 => exact Kd.C_nil _ _); (case side4 => exact Nat.le_refl _); rintro e w14 ⟨v214, rfl, ho0, hb⟩; refine ⟨_, rfl, ?_⟩; have HO215 := Aside0.mk (Kd.R_lower ho0 (below_size bw_)); replace HB := Aside0.mk (below_step bw_ hb); (try clear hb); (try clear hb2); (try clear hk); (try clear hi); (try clear ho0)) | ((with_reducible refine gate_dst (N := 11) rfl ?_); (try (refine gate_guard (by rfl) ?_; dsimp only)); refine Kd.R_lit (Kd.int .u8) _ 5 ?hg (N := 11) ?hd (xs := ([0, 11, 255, 244, 3, 0, 1, 0, 2, 7, 56] : List Int)) (inner := [.int .u8 0, .int .u8 11, .int .u8 255, .int .u8 244, .int .u8 3, .int .u8 0, .int .u8 1, .int .u8 0, .int .u8 2, .int .u8 7, .int .u8 56]) (ok := fun _ => True) (okp := fun _ => True) ?hr ?hp (fun _ hk => hk) trivial (Below.refl _ _) (Nat.le_refl _) (by simp) ?_; (case hd => rfl); (case hg => rfl); (case hr => first | (go_simp; done) | (go_simp; rfl)); (case hp => exact (Reps.one (show Kd.M (Kd.int .u8) _ _ _ 0 [.int .u8 0] from rfl) (Reps.one (show Kd.M (Kd.int .u8) _ _ _ 11 [.int .u8 11] from rfl) (Reps.one (show Kd.M (Kd.int .u8) _ _ _ 255 [.int .u8 255] from rfl) (Reps.one (show Kd.M (Kd.int .u8) _ _ _ 244 [.int .u8 244] from rfl) (Reps.one (show Kd.M (Kd.int .u8) _ _ _ 3 [.int .u8 3] from rfl) (Reps.one (show Kd.M (Kd.int .u8) _ _ _ 0 [.int .u8 0] from rfl) (Reps.one (show Kd.M (Kd.int .u8) _ _ _ 1 [.int .u8 1] from rfl) (Reps.one (show Kd.M (Kd.int .u8) _ _ _ 0 [.int .u8 0] from rfl) (Reps.one (show Kd.M (Kd.int .u8) _ _ _ 2 [.int .u8 2] from rfl) (Reps.one (show Kd.M (Kd.int .u8) _ _ _ 7 [.int .u8 7] from rfl) (Reps.one (show Kd.M (Kd.int .u8) _ _ _ 56 [.int .u8 56] from rfl) (Reps.none _ _))))))))))))); intro v218 w15 ho16 hb hg_ hnew_; clear hg_ hnew_; (first | rw [← Ny217.out] at ho16 | (simp only [Int.reduceToNat] at ho16; rw [← Ny217.out] at ho16)); have HO219 := Aside0.mk (Kd.R_lower (Kd.R_new' ho16 (Kd.R_lt (ra_ HO215.out))) (below_size bw_)); replace HO215 := Aside0.mk (Kd.R_elder' (ra_ HO215.out) (Kd.R_base ho16) hb); replace HB := Aside0.mk (below_step bw_ hb); clear hb ho16))
          replace HO215 := Aside0.mk (Kd.R_drew HO215.out)
          replace HO219 := Aside0.mk (Kd.R_drew HO219.out)
          replace HB := Aside0.mk (below_drew1 HB.out)
          obtain ⟨Ao19, co19, eo19⟩ := Kd.R_slice HO219.out
          (first | subst eo19 | (injection eo19 with f1_ f2_ f3_; have f4_ := f1_.symm; have f5_ := f3_.symm; clear f1_ f2_ f3_; subst f4_; subst f5_))
          have q18 : (10 : Int) ≤ ((y217.length : Int) : Int) := of_decide_eq_true (by first | (with_reducible assumption) | assumption)
          obtain ⟨i018, hi018, _, hsz18, _⟩ := info_parts info5
          have hroom18 : y217.length ≤ co19 := (Kd.R_reads' HO219.out).2.1
          have hC18 : Kd.C (Kd.int .u8) _ Ao19 y217.length y217 := (Kd.R_reads' HO219.out).2.2
          have hcut18 := cut_to (P := Try.prog) 26 5 .i64 Try.underlying26 hi018 Ao19 y217.length co19 10 (by omega) q18 hroom18
          have hr18 := Kd.C_take (m := 10) hC18 (by omega)
          have hy18 : y223.length = (10 : Int).toNat := (by rw [Ny223.out, List.length_take]; omega)
          rw [← Ny223.out] at hr18
          rw [← hy18] at hcut18
          have HR226 := Aside0.mk hr18
          have HC226 := Aside0.mk (show y223.length ≤ co19 from by omega)
          clear hr18 hC18 hroom18 hi018 hsz18
          have KY18 := Aside0.mk hy18
          clear hy18
          have KL18 := Aside0.mk (show 10 ≤ y217.length from by omega)
          replace q18 := eq_true q18
          refine start_ (n := 11) (S := fun w' => True) (ds := []) #[false, false, false, false, false, false, false, false, false, false, false] (by kernel_rfl) rfl rfl trivial (fun hHeld => ?_); refine with_tabW drayagelaw20_works.tab3 drayagelaw20_works.bits3 (fun HT_ HW_ => ?_)
          generalize w15.drew = w17 at HO215 HO219 HB HR226 hHeld ⊢
          refine pureS_ (i := 0) (N := some 13) (v := ?_) (a' := ?_) rfl rfl (any_of HT_.out (by kernel_rfl)) (fun _ _ _ h => h) (Or.inl ⟨by rfl, ?_⟩) ?_ ?_
          rotate_left; (· intro w'; go_simp; with_reducible rfl); rotate_left; (· simp only [Act.put, List.setIfInBounds_toArray, List.set_cons_zero, List.set_cons_succ, i64_w, i32_w]; rfl)
          refine pureS_ (i := 2) (N := some 15) (v := ?_) (a' := ?_) rfl rfl (any_of HT_.out (by kernel_rfl)) (fun _ _ _ h => h) (Or.inl ⟨by rfl, ?_⟩) ?_ ?_
          rotate_left; (· intro w'; go_simp; with_reducible rfl); rotate_left; (· simp only [Act.put, List.setIfInBounds_toArray, List.set_cons_zero, List.set_cons_succ, i64_w, i32_w]; rfl)
          refine pureS_ (i := 3) (N := some 16) (v := ?_) (a' := ?_) rfl rfl (any_of HT_.out (by kernel_rfl)) (fun _ _ _ h => h) (Or.inl ⟨by rfl, ?_⟩) ?_ ?_
          rotate_left; (· intro w'; go_simp; with_reducible rfl); rotate_left; (· simp only [Act.put, List.setIfInBounds_toArray, List.set_cons_zero, List.set_cons_succ, i64_w, i32_w]; rfl)
          refine oneS_ (i := 1) (N := some 14) rfl rfl (one_of HT_.out (by kernel_rfl)) (by decide) (fun K hK => ?_)
          refine goes_ Try.func18 (by kernel_rfl) rfl #[.slice Ao19 y217.length co19] (by rfl) rfl rfl ca_ ?_
          with_reducible refine (drayageref00_CopyBytes.calls _ _ y217 t220 _ ?side1 ?side2 A2.out).mono ?_
          (case side1 => repeat (first | exact (Kd.R_reads' HO219.out).2.2 | (with_reducible refine Kd.C_alloc ?_ _) | (with_reducible refine Kd.C_drewN ?_ _) | (with_reducible refine Kd.C_drew ?_)))
          (case side2 => exact (Kd.R_reads' HO219.out).2.1)
          rintro e w20 ⟨v221, rfl, ho0, hb⟩
          refine ⟨_, rfl, ?_⟩
          have HO222 := Aside0.mk (Kd.R_lower (Kd.R_new' (Kd.R_new' ho0 (Kd.R_lt (ra_ HO215.out))) (Kd.R_lt (ra_ HO219.out))) (below_size bw_))
          replace HO215 := Aside0.mk (Kd.R_elder' (ra_ HO215.out) (Kd.R_base ho0) hb)
          replace HO219 := Aside0.mk (Kd.R_elder' (ra_ HO219.out) (Kd.R_base ho0) hb)
          replace HR226 := Aside0.mk (Kd.C_below (by repeat (first | (with_reducible exact HR226.out) | (with_reducible refine Kd.C_alloc ?_ _) | (with_reducible refine Kd.C_drewN ?_ _) | (with_reducible refine Kd.C_drew ?_) | exact HR226.out)) hb)
          replace HB := Aside0.mk (below_step bw_ hb)
          (try clear hb)
          (try clear hb2)
          (try clear hk)
          (try clear hi)
          (try clear ho0)
          refine hK.out _ _ trivial (fun hHeld => ?_)
          clear hK K
          refine norm_ (a' := ?_) ?_ ?_
          rotate_left
          ·show Act.put _ (some 14) _ = _
           simp only [Act.put, List.setIfInBounds_toArray, List.set_cons_zero, List.set_cons_succ, i64_w, i32_w]
           rfl
          refine oneS_ (i := 4) (N := some 17) rfl rfl (one_of HT_.out (by kernel_rfl)) (by decide) (fun K hK => ?_)
          refine Kd.R_append_rows_step (Kd.int .u8) (w0 := w) w.heap.size (by rfl) (.tmp 14) (.tmp 16) 26 5 (.int .u8 0) 1 rfl Try.underlying26 info5 rfl (by decide) (by omega) v221 t220 y223 _ _ _ (fun k_ => some k_ ≠ (v214 : Value).ownBlock ∧ some k_ ≠ (.slice Ao19 y217.length co19 : Value).ownBlock) (fun _ => False) rfl rfl ?aO ?aR (fun _ _ h => h) (fun _ h => h.elim) ?aF ?aB ?aS ?aL ?_
          (case aR => repeat (first | exact (by repeat (first | (with_reducible exact HR226.out) | (with_reducible refine Kd.C_alloc ?_ _) | (with_reducible refine Kd.C_drewN ?_ _) | (with_reducible refine Kd.C_drew ?_) | exact HR226.out)) | (with_reducible refine Kd.C_alloc ?_ _) | (with_reducible refine Kd.C_drewN ?_ _) | (with_reducible refine Kd.C_drew ?_)))
          (case aB => exact bw_)
          (case aF => exact (fun k_ hk => ⟨Kd.fresh' (Kd.R_lt (ra_ HO215.out)) k_ hk, Kd.fresh' (Kd.R_lt (ra_ HO219.out)) k_ hk⟩))
          (case aO => exact (by (with_reducible repeat (first | apply Kd.R_alloc | apply Kd.R_drewN | apply Kd.R_drew)); exact Kd.R_mono HO222.out (fun _ hk => ⟨hk.1.2, hk.2⟩)))
          (case aS => exact (below_size bw_))
          (case aL => have := LMc4.out; omega)
          intro v228 w21 ho hb hg hat
          rw [← Ny227.out] at ho
          replace HO215 := Aside0.mk (Kd.R_after (ok := (fun k_ => some k_ ≠ (.slice Ao19 y217.length co19 : Value).ownBlock)) (by (with_reducible repeat (first | apply Kd.R_alloc | apply Kd.R_drewN | apply Kd.R_drew)); exact Kd.R_mono HO215.out (fun _ hk => ⟨hk.1.2, hk.2⟩)) hg hat)
          replace HB := Aside0.mk (hb)
          replace HR226 := Aside0.mk ((show Kd.C (Kd.int .u8) w21 Ao19 y223.length y223 from by rw [Ny223.out]; exact Kd.C_take (m := 10) ((Kd.R_reads' (Kd.R_after (ok := (fun k_ => some k_ ≠ (v214 : Value).ownBlock)) (by (with_reducible repeat (first | apply Kd.R_alloc | apply Kd.R_drewN | apply Kd.R_drew)); exact Kd.R_mono HO219.out (fun _ hk => ⟨hk.1.2, hk.2⟩)) hg hat)).2.2) KL18.out))
          replace HO219 := Aside0.mk (Kd.R_after (ok := (fun k_ => some k_ ≠ (v214 : Value).ownBlock)) (by (with_reducible repeat (first | apply Kd.R_alloc | apply Kd.R_drewN | apply Kd.R_drew)); exact Kd.R_mono HO219.out (fun _ hk => ⟨hk.1.2, hk.2⟩)) hg hat)
          have HO229 := Aside0.mk (ho)
          clear HO222
          clear ho hb hg hat
          obtain ⟨Ao22, co22, eo22⟩ := Kd.R_slice HO229.out
          (first | subst eo22 | (injection eo22 with f1_ f2_ f3_; have f4_ := f1_.symm; have f5_ := f3_.symm; clear f1_ f2_ f3_; subst f4_; subst f5_))
          refine hK.out _ _ trivial (fun hHeld => ?_)
          clear hK K
          refine norm_ (a' := ?_) ?_ ?_
          rotate_left
          ·show Act.put _ (some 17) _ = _
           simp only [Act.put, List.setIfInBounds_toArray, List.set_cons_zero, List.set_cons_succ, i64_w, i32_w]
           rfl
          refine oneS_ (i := 5) (N := some 18) rfl rfl (one_of HT_.out (by kernel_rfl)) (by decide) (fun K hK => ?_)
          refine goes_ Try.func19 (by kernel_rfl) rfl #[.slice Ao22 y227.length co22] (by rfl) rfl rfl ca_ ?_
          with_reducible refine (journal_Read.calls _ _ y227 t230 t231 _ ?side1 ?side2 A5.out).mono ?_
          (case side1 => repeat (first | exact (Kd.R_reads' HO229.out).2.2 | (with_reducible refine Kd.C_alloc ?_ _) | (with_reducible refine Kd.C_drewN ?_ _) | (with_reducible refine Kd.C_drew ?_)))
          (case side2 => exact (Kd.R_reads' HO229.out).2.1)
          rintro e w23 ⟨v232, rfl, ho0, hb⟩
          refine ⟨_, rfl, ?_⟩
          replace HO215 := Aside0.mk (Kd.R_below (ra_ HO215.out) hb)
          replace HO219 := Aside0.mk (Kd.R_below (ra_ HO219.out) hb)
          replace HO229 := Aside0.mk (Kd.R_below (ra_ HO229.out) hb)
          have HO233 := Aside0.mk (Kd.S_lower ho0 (below_size bw_))
          replace HR226 := Aside0.mk (Kd.C_below (by repeat (first | (with_reducible exact HR226.out) | (with_reducible refine Kd.C_alloc ?_ _) | (with_reducible refine Kd.C_drewN ?_ _) | (with_reducible refine Kd.C_drew ?_) | exact HR226.out)) hb)
          replace HB := Aside0.mk (below_step bw_ hb)
          (try clear hb)
          (try clear hb2)
          (try clear hk)
          (try clear hi)
          (try clear ho0)
          refine hK.out _ _ trivial (fun hHeld => ?_)
          clear hK K
          refine norm_ (a' := ?_) ?_ ?_
          rotate_left
          ·show Act.put _ (some 18) _ = _
           simp only [Act.put, List.setIfInBounds_toArray, List.set_cons_zero, List.set_cons_succ, i64_w, i32_w]
           rfl
          refine pureS_ (i := 6) (N := some 12) (v := ?_) (a' := ?_) rfl rfl (any_of HT_.out (by kernel_rfl)) (fun _ _ _ h => h) (Or.inl ⟨by rfl, ?_⟩) ?_ ?_
          rotate_left; (· intro w'; go_simp; with_reducible rfl); rotate_left; (· simp only [Act.put, List.setIfInBounds_toArray, List.set_cons_zero, List.set_cons_succ, i64_w, i32_w]; rfl)
          refine pureS_ (i := 7) (N := some 19) (v := ?_) (a' := ?_) rfl rfl (any_of HT_.out (by kernel_rfl)) (fun _ _ _ h => h) (Or.inl ⟨by rfl, ?_⟩) ?_ ?_
          rotate_left; (· intro w'; go_simp; with_reducible rfl); rotate_left; (· simp only [Act.put, List.setIfInBounds_toArray, List.set_cons_zero, List.set_cons_succ, i64_w, i32_w]; rfl)
          refine pureS_ (i := 8) (N := some 20) (v := ?_) (a' := ?_) rfl rfl (any_of HT_.out (by kernel_rfl)) (fun _ _ _ h => h) (Or.inl ⟨by rfl, ?_⟩) ?_ ?_
          rotate_left; (· intro w'; go_simp; with_reducible rfl); rotate_left; (· simp only [Act.put, List.setIfInBounds_toArray, List.set_cons_zero, List.set_cons_succ, i64_w, i32_w]; rfl)
          refine pureS_ (i := 9) (N := some 4) (v := ?_) (a' := ?_) rfl rfl (any_of HT_.out (by kernel_rfl)) (fun _ _ _ h => h) (Or.inl ⟨by rfl, ?_⟩) ?_ ?_
          rotate_left; (· intro w'; go_simp; with_reducible rfl); rotate_left; (· simp only [Act.put, List.setIfInBounds_toArray, List.set_cons_zero, List.set_cons_succ, i64_w, i32_w]; rfl)
          refine pureS_ (i := 10) (N := some 5) (v := ?_) (a' := ?_) rfl rfl (any_of HT_.out (by kernel_rfl)) (fun _ _ _ h => h) (Or.inl ⟨by rfl, ?_⟩) ?_ ?_
          rotate_left; (· intro w'; go_simp; with_reducible rfl); rotate_left; (· simp only [Act.put, List.setIfInBounds_toArray, List.set_cons_zero, List.set_cons_succ, i64_w, i32_w]; rfl)
          refine done_ (done_of HT_.out (by kernel_rfl)) ?_
          obtain ⟨Ao24, co24, eo24⟩ := Kd.R_slice HO215.out
          subst eo24
          try go_wp2_with (first | (go_at_call 14; (with_reducible refine (drayageref00_EqBytes.calls _ _ t213 _ _ y217 true _ ?side1 ?side2 ?side3 ?side4 A7.out).mono ?_); (case side1 => repeat (first | exact (Kd.R_reads' HO215.out).2.2 | (with_reducible refine Kd.C_alloc ?_ _) | (with_reducible refine Kd.C_drewN ?_ _) | (with_reducible refine Kd.C_drew ?_))); (case side2 => exact (Kd.R_reads' HO215.out).2.1); (case side3 => repeat (first | exact (Kd.R_reads' HO219.out).2.2 | (with_reducible refine Kd.C_alloc ?_ _) | (with_reducible refine Kd.C_drewN ?_ _) | (with_reducible refine Kd.C_drew ?_))); (case side4 => exact (Kd.R_reads' HO219.out).2.1); rintro e w' ⟨rfl, ⟨nd, rfl⟩⟩; obtain ⟨Ao25, co25, eo25⟩ := Kd.S_slice HO233.out; subst eo25; have p235 : 0 ≤ (0 : Int) := (by omega); have q235 : 0 < (t230.length : Int) := of_decide_eq_true (by first | (with_reducible assumption) | assumption); obtain ⟨ad235, A235_3, c235_3, A235_4, c235_4, e235, hx235_0, hx235_1, hx235_2, hx235_3, hx235_4, hl235_3, hi235_3, hl235_4, hi235_4⟩ := at_T25 (Kd.S_reads' HO233.out).2.2 0 p235 q235; cases e235; obtain ⟨ce235, hce235, hMe235, hcc235⟩ := Kd.S_get HO233.out z25 0 p235 (by first | exact q235 | exact of_decide_eq_true (by first | (with_reducible assumption) | assumption) | (have e_ := (Kd.S_reads' HO233.out).1; omega)); obtain ⟨ve235_3, ve235_4, rfl, ge235_3, ge235_4⟩ := k25_openM hMe235; have hv235_3 := hcc235 3 _ rfl; rw [add_field _ _ 3 (by omega)] at hv235_3; replace hv235_3 := Option.some.inj (hv235_3.symm.trans hx235_3); rw [hv235_3] at ge235_3; have HL235_3 := Aside0.mk (show Kd.R (Kd.int .i64) 3 _ _ _ _ ((rd_T25 t230 0).f3) from ge235_3); clear hv235_3 ge235_3; have hv235_4 := hcc235 4 _ rfl; rw [add_field _ _ 4 (by omega)] at hv235_4; replace hv235_4 := Option.some.inj (hv235_4.symm.trans hx235_4); rw [hv235_4] at ge235_4; have HL235_4 := Aside0.mk (show Kd.R k49 49 _ _ _ _ ((rd_T25 t230 0).f4) from ge235_4); clear hv235_4 ge235_4; clear hcc235 hce235; have qi235 : (0 < t230.length) = True := eq_true (by omega); (try rw [show ((0 : Int)).toNat = 0 from rfl] at hx235_0); (try rw [show 0 * 5 = 0 from rfl] at hx235_0); (try rw [Addr.add_zero'] at hx235_0); (try rw [show ((0 : Int)).toNat = 0 from rfl] at hx235_1); (try rw [show 0 * 5 = 0 from rfl] at hx235_1); (try rw [Addr.add_zero'] at hx235_1); (try rw [show ((0 : Int)).toNat = 0 from rfl] at hx235_2); (try rw [show 0 * 5 = 0 from rfl] at hx235_2); (try rw [Addr.add_zero'] at hx235_2); (try rw [show ((0 : Int)).toNat = 0 from rfl] at hx235_3); (try rw [show 0 * 5 = 0 from rfl] at hx235_3); (try rw [Addr.add_zero'] at hx235_3); (try rw [show ((0 : Int)).toNat = 0 from rfl] at hx235_4); (try rw [show 0 * 5 = 0 from rfl] at hx235_4); (try rw [Addr.add_zero'] at hx235_4); have HR235_3 := Aside0.mk hi235_3; have HC235_3 := Aside0.mk hl235_3; clear hi235_3 hl235_3; have HR235_4 := Aside0.mk hi235_4; have HC235_4 := Aside0.mk hl235_4; clear hi235_4 hl235_4; replace p235 := eq_true p235; replace q235 := eq_true q235; have p236 : 0 ≤ (0 : Int) := (by omega); have q236 : 0 < (t230.length : Int) := of_decide_eq_true (by first | (with_reducible assumption) | assumption); obtain ⟨ad236, A236_3, c236_3, A236_4, c236_4, e236, hx236_0, hx236_1, hx236_2, hx236_3, hx236_4, hl236_3, hi236_3, hl236_4, hi236_4⟩ := at_T25 (Kd.S_reads' HO233.out).2.2 0 p236 q236; obtain rfl : ad235 = ad236 := (by injection e236); obtain ⟨ce236, hce236, hMe236, hcc236⟩ := Kd.S_get HO233.out z25 0 p236 (by first | exact q236 | exact of_decide_eq_true (by first | (with_reducible assumption) | assumption) | (have e_ := (Kd.S_reads' HO233.out).1; omega)); obtain ⟨ve236_3, ve236_4, rfl, ge236_3, ge236_4⟩ := k25_openM hMe236; have hv236_3 := hcc236 3 _ rfl; rw [add_field _ _ 3 (by omega)] at hv236_3; replace hv236_3 := Option.some.inj (hv236_3.symm.trans hx236_3); rw [hv236_3] at ge236_3; have HL236_3 := Aside0.mk (show Kd.R (Kd.int .i64) 3 _ _ _ _ ((rd_T25 t230 0).f3) from ge236_3); clear hv236_3 ge236_3; have hv236_4 := hcc236 4 _ rfl; rw [add_field _ _ 4 (by omega)] at hv236_4; replace hv236_4 := Option.some.inj (hv236_4.symm.trans hx236_4); rw [hv236_4] at ge236_4; have HL236_4 := Aside0.mk (show Kd.R k49 49 _ _ _ _ ((rd_T25 t230 0).f4) from ge236_4); clear hv236_4 ge236_4; clear hcc236 hce236; have qi236 : (0 < t230.length) = True := eq_true (by omega); (try rw [show ((0 : Int)).toNat = 0 from rfl] at hx236_0); (try rw [show 0 * 5 = 0 from rfl] at hx236_0); (try rw [Addr.add_zero'] at hx236_0); (try rw [show ((0 : Int)).toNat = 0 from rfl] at hx236_1); (try rw [show 0 * 5 = 0 from rfl] at hx236_1); (try rw [Addr.add_zero'] at hx236_1); (try rw [show ((0 : Int)).toNat = 0 from rfl] at hx236_2); (try rw [show 0 * 5 = 0 from rfl] at hx236_2); (try rw [Addr.add_zero'] at hx236_2); (try rw [show ((0 : Int)).toNat = 0 from rfl] at hx236_3); (try rw [show 0 * 5 = 0 from rfl] at hx236_3); (try rw [Addr.add_zero'] at hx236_3); (try rw [show ((0 : Int)).toNat = 0 from rfl] at hx236_4); (try rw [show 0 * 5 = 0 from rfl] at hx236_4); (try rw [Addr.add_zero'] at hx236_4); have HR236_3 := Aside0.mk hi236_3; have HC236_3 := Aside0.mk hl236_3; clear hi236_3 hl236_3; have HR236_4 := Aside0.mk hi236_4; have HC236_4 := Aside0.mk hl236_4; clear hi236_4 hl236_4; replace p236 := eq_true p236; replace q236 := eq_true q236; have ea_ := Option.some.inj (hx235_3.symm.trans hx236_3); injection ea_ with ea_ en_ ec_; subst ea_; subst ec_; clear en_; have ea_ := Option.some.inj (hx235_4.symm.trans hx236_4); injection ea_ with ea_ en_ ec_; subst ea_; subst ec_; clear en_; have p237 : 0 ≤ (0 : Int) := (by omega); have q237 : 0 < (t230.length : Int) := of_decide_eq_true (by first | (with_reducible assumption) | assumption); obtain ⟨ad237, A237_3, c237_3, A237_4, c237_4, e237, hx237_0, hx237_1, hx237_2, hx237_3, hx237_4, hl237_3, hi237_3, hl237_4, hi237_4⟩ := at_T25 (Kd.S_reads' HO233.out).2.2 0 p237 q237; obtain rfl : ad235 = ad237 := (by injection e237); obtain ⟨ce237, hce237, hMe237, hcc237⟩ := Kd.S_get HO233.out z25 0 p237 (by first | exact q237 | exact of_decide_eq_true (by first | (with_reducible assumption) | assumption) | (have e_ := (Kd.S_reads' HO233.out).1; omega)); obtain ⟨ve237_3, ve237_4, rfl, ge237_3, ge237_4⟩ := k25_openM hMe237; have hv237_3 := hcc237 3 _ rfl; rw [add_field _ _ 3 (by omega)] at hv237_3; replace hv237_3 := Option.some.inj (hv237_3.symm.trans hx237_3); rw [hv237_3] at ge237_3; have HL237_3 := Aside0.mk (show Kd.R (Kd.int .i64) 3 _ _ _ _ ((rd_T25 t230 0).f3) from ge237_3); clear hv237_3 ge237_3; have hv237_4 := hcc237 4 _ rfl; rw [add_field _ _ 4 (by omega)] at hv237_4; replace hv237_4 := Option.some.inj (hv237_4.symm.trans hx237_4); rw [hv237_4] at ge237_4; have HL237_4 := Aside0.mk (show Kd.R k49 49 _ _ _ _ ((rd_T25 t230 0).f4) from ge237_4); clear hv237_4 ge237_4; clear hcc237 hce237; have qi237 : (0 < t230.length) = True := eq_true (by omega); (try rw [show ((0 : Int)).toNat = 0 from rfl] at hx237_0); (try rw [show 0 * 5 = 0 from rfl] at hx237_0); (try rw [Addr.add_zero'] at hx237_0); (try rw [show ((0 : Int)).toNat = 0 from rfl] at hx237_1); (try rw [show 0 * 5 = 0 from rfl] at hx237_1); (try rw [Addr.add_zero'] at hx237_1); (try rw [show ((0 : Int)).toNat = 0 from rfl] at hx237_2); (try rw [show 0 * 5 = 0 from rfl] at hx237_2); (try rw [Addr.add_zero'] at hx237_2); (try rw [show ((0 : Int)).toNat = 0 from rfl] at hx237_3); (try rw [show 0 * 5 = 0 from rfl] at hx237_3); (try rw [Addr.add_zero'] at hx237_3); (try rw [show ((0 : Int)).toNat = 0 from rfl] at hx237_4); (try rw [show 0 * 5 = 0 from rfl] at hx237_4); (try rw [Addr.add_zero'] at hx237_4); have HR237_3 := Aside0.mk hi237_3; have HC237_3 := Aside0.mk hl237_3; clear hi237_3 hl237_3; have HR237_4 := Aside0.mk hi237_4; have HC237_4 := Aside0.mk hl237_4; clear hi237_4 hl237_4; replace p237 := eq_true p237; replace q237 := eq_true q237; have ea_ := Option.some.inj (hx235_3.symm.trans hx237_3); injection ea_ with ea_ en_ ec_; subst ea_; subst ec_; clear en_; have ea_ := Option.some.inj (hx235_4.symm.trans hx237_4); injection ea_ with ea_ en_ ec_; subst ea_; subst ec_; clear en_))
          go_ret
          exact ⟨fi_, bw_⟩
         ·rw [if_neg c13] at H
          have c13b0 : (((rd_T25 t230 0).f1) == 1) = false := beq_eq_false_iff_ne.mpr c13
          have c13b1 : (((rd_T25 t230 0).f1) != 1) = true := bne_iff_ne.mpr c13
          exact absurd H (by simp)
        ·rw [if_neg c12] at H
         have c12b0 : (((rd_T25 t230 0).f0) == 3) = false := beq_eq_false_iff_ne.mpr c12
         have c12b1 : (((rd_T25 t230 0).f0) != 3) = true := bne_iff_ne.mpr c12
         exact absurd H (by simp)
       ·rw [if_neg c11] at H
        exact absurd H (by simp)
      ·rw [if_neg c10] at H
       have c10b0 : (t231 == 11) = false := beq_eq_false_iff_ne.mpr c10
       have c10b1 : (t231 != 11) = true := bne_iff_ne.mpr c10
       exact absurd H (by simp)
     ·rw [if_neg c9] at H
      have c9b0 : ((t230.length : Int) == 1) = false := beq_eq_false_iff_ne.mpr c9
      have c9b1 : ((t230.length : Int) != 1) = true := bne_iff_ne.mpr c9
      exact absurd H (by simp)
    ·replace c8 := Bool.eq_false_iff.mpr c8
     subst c8
     have H1 : (some false) = some true := by rw [if_neg (show ¬ (false = true) by decide)] at H; exact H
     clear H
     have H := H1
     clear H1
     exact absurd H (by simp)
   ·rw [if_neg c6] at H
    have c6b0 : (t216 == 0) = false := beq_eq_false_iff_ne.mpr c6
    have c6b1 : (t216 != 0) = true := bne_iff_ne.mpr c6
    exact absurd H (by simp)
  ·rw [if_neg c4] at H
   exact absurd H (by simp)
 ·rw [if_neg c3] at H
  exact absurd H (by simp)

end Go.Proofs.Ytagkgddkpnbfoaa.P
