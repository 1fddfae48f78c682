import Derived.Test.YtfnfjkddlnnolaaP0
import Derived.Test.YtfnfjkddlnnolaaHcheck
import Derived.Test.YtfnfjkddlnnolaaHlabels
import Derived.Test.YtfnfjkddlnnolaaHprint
import Derived.Test.YtfnfjkddlnnolaaHread
import Derived.Test.YtfnfjkddlnnolaaPf16
import Derived.Test.YtfnfjkddlnnolaaPf18
import Derived.Test.YtfnfjkddlnnolaaPf25
import Derived.Test.YtfnfjkddlnnolaaPq38
import Derived.Test.YtfnfjkddlnnolaaPq43
namespace Go.Proofs.Ytfnfjkddlnnolaa.P
open Go.RowKit Go.Proofs.YtfnfjkddlnnolaaW.PrintWords Go.Proofs.YtfnfjkddlnnolaaW.PrintLast Go.Proofs.YtfnfjkddlnnolaaW.PrintMore
attribute [local go_sem] max2_int min2_int max_two min_two max_three min_three max_four min_four   -- for this text's walks alone
set_option linter.unusedVariables false
set_option linter.unusedSimpArgs false

attribute [local go_sem high] eqA38 eqA43
mutual
def drayagelaw03_LabelBack.j0 : Nat → List (S35) → List (S43) → List (S43) → List (S43) → Bool → Option (Bool)
 | 0, _, _, _, _, _ => none
 | k + 1, x0, x3, x4, x7, x67 => if x67 = true then (some false) else (drayagelaw03_LabelBack.l0 k x0 x3 x4 x7 0)
def drayagelaw03_LabelBack.l0 : Nat → List (S35) → List (S43) → List (S43) → List (S43) → Int → Option (Bool)
 | 0, _, _, _, _, _ => none
 | k + 1, x0, x3, x4, x7, x10 => if x10 < (x3.length : Int) then (if 0 ≤ x10 then (if x10 < (x4.length : Int) then (if (!((((rd_T43 x3 x10).f0).toList) == (((rd_T43 x4 x10).f0).toList)) || (!((((rd_T43 x3 x10).f1).toList) == (((rd_T43 x4 x10).f1).toList)))) = true then (some false) else (if x10 < (x7.length : Int) then (if (!((((rd_T43 x3 x10).f0).toList) == (((rd_T43 x7 x10).f0).toList)) || (!((((rd_T43 x3 x10).f1).toList) == (((rd_T43 x7 x10).f1).toList)))) = true then (some false) else (drayagelaw03_LabelBack.l0 k x0 x3 x4 x7 (wrap64 (x10 + 1)))) else (none))) else (none)) else (none)) else (drayagelaw03_LabelBack.l1 k x0 ([] : List (S38)) 0)
def drayagelaw03_LabelBack.j3 : Nat → List (S38) → Option (Bool)
 | 0, _ => none
 | k + 1, x11 => (label_PrintTerms.f x11).bind fun t461 => ((label_Terms.f t461).bind fun bt462 => ((label_CheckTerms.f k x11).bind fun t467 => (if t467 = 0 then (if bt462.2.2 = 0 then (if bt462.2.1 = 0 then (drayagelaw03_LabelBack.j4 k x11 bt462.1 ((x11.length : Int) != (bt462.1.length : Int))) else (drayagelaw03_LabelBack.j4 k x11 bt462.1 true)) else (drayagelaw03_LabelBack.j4 k x11 bt462.1 true)) else (drayagelaw03_LabelBack.j4 k x11 bt462.1 true))))
def drayagelaw03_LabelBack.j4 : Nat → List (S38) → List (S38) → Bool → Option (Bool)
 | 0, _, _, _ => none
 | k + 1, x11, x13, x136 => if x136 = true then (some false) else (drayagelaw03_LabelBack.l2 k x11 x13 0)
def drayagelaw03_LabelBack.l2 : Nat → List (S38) → List (S38) → Int → Option (Bool)
 | 0, _, _, _ => none
 | k + 1, x11, x13, x16 => if x16 < (x11.length : Int) then (if 0 ≤ x16 then (if x16 < (x13.length : Int) then (if (!(((rd_T38 x11 x16).f0) == ((rd_T38 x13 x16).f0)) || (!((((rd_T38 x11 x16).f1).toList) == (((rd_T38 x13 x16).f1).toList)) || (!((((rd_T38 x11 x16).f2).toList) == (((rd_T38 x13 x16).f2).toList))))) = true then (some false) else (drayagelaw03_LabelBack.l2 k x11 x13 (wrap64 (x16 + 1)))) else (none)) else (none)) else (some true)
def drayagelaw03_LabelBack.l1 : Nat → List (S35) → List (S38) → Int → Option (Bool)
 | 0, _, _, _ => none
 | k + 1, x0, x11, x12 => if x12 < (x0.length : Int) then (if x12 < 6 then (if 0 ≤ x12 then ((drayagelaw03_term.f ((rd_T35 x0 x12).f0) ((rd_T35 x0 x12).f1) ((rd_T35 x0 x12).f2)).bind fun bt455 => (if x11.length < 3518437208883 then (drayagelaw03_LabelBack.l1 k x0 (x11 ++ [(⟨bt455.1, bt455.2.1, bt455.2.2⟩ : S38)]) (wrap64 (x12 + 1))) else (none))) else (none)) else (drayagelaw03_LabelBack.j3 k x11)) else (drayagelaw03_LabelBack.j3 k x11)
end
def drayagelaw03_LabelBack.f (k : Nat) (l0 : List (S35)) : Option (Bool) := (drayagelaw03_works.f k).bind fun t433 => (if t433 = true then ((drayagelaw03_labels.f l0).bind fun t434 => ((label_Print.f t434).bind fun t437 => ((label_Labels.f t437).bind fun bt438 => ((label_Print.f t434).bind fun t443 => ((label_Borne.f t443).bind fun bt444 => ((label_Check.f t434).bind fun t449 => (if t449 = 0 then (if bt438.2.2 = 0 then (if bt438.2.1 = 0 then (if bt444.2.2 = 0 then (if bt444.2.1 = 0 then (if (t434.length : Int) = (bt438.1.length : Int) then (drayagelaw03_LabelBack.j0 k l0 t434 bt438.1 bt444.1 ((t434.length : Int) != (bt444.1.length : Int))) else (drayagelaw03_LabelBack.j0 k l0 t434 bt438.1 bt444.1 true)) else (drayagelaw03_LabelBack.j0 k l0 t434 bt438.1 bt444.1 true)) else (drayagelaw03_LabelBack.j0 k l0 t434 bt438.1 bt444.1 true)) else (drayagelaw03_LabelBack.j0 k l0 t434 bt438.1 bt444.1 true)) else (drayagelaw03_LabelBack.j0 k l0 t434 bt438.1 bt444.1 true)) else (drayagelaw03_LabelBack.j0 k l0 t434 bt438.1 bt444.1 true)))))))) else (some false))
set_option maxHeartbeats 8000000 in
set_option maxRecDepth 100000 in
theorem drayagelaw03_LabelBack.calls (k : Nat) (A0 : Option Addr) (c0 : Nat) (l0 : List (S35)) (r : Bool) (w : World) (hr0 : Kd.C k35 w A0 l0.length l0) (hc0 : l0.length ≤ c0) (h : drayagelaw03_LabelBack.f k l0 = some r) :
  Calls Try.prog 5 #[.slice A0 l0.length c0] w fun e w' => e = .returned (.bool r) ∧ Below w.heap.size w w' := by
 have hu43 := Try.underlying43
 have hu35 := Try.underlying35
 have hu38 := Try.underlying38
 have HR0 := Aside0.mk hr0
 have HC0 := Aside0.mk hc0
 clear hr0 hc0
 have HB := Aside0.mk (Below.refl w.heap.size w)
 have H : ((drayagelaw03_works.f k).bind fun t433 => (if t433 = true then ((drayagelaw03_labels.f l0).bind fun t434 => ((label_Print.f t434).bind fun t437 => ((label_Labels.f t437).bind fun bt438 => ((label_Print.f t434).bind fun t443 => ((label_Borne.f t443).bind fun bt444 => ((label_Check.f t434).bind fun t449 => (if t449 = 0 then (if bt438.2.2 = 0 then (if bt438.2.1 = 0 then (if bt444.2.2 = 0 then (if bt444.2.1 = 0 then (if (t434.length : Int) = (bt438.1.length : Int) then (drayagelaw03_LabelBack.j0 k l0 t434 bt438.1 bt444.1 ((t434.length : Int) != (bt444.1.length : Int))) else (drayagelaw03_LabelBack.j0 k l0 t434 bt438.1 bt444.1 true)) else (drayagelaw03_LabelBack.j0 k l0 t434 bt438.1 bt444.1 true)) else (drayagelaw03_LabelBack.j0 k l0 t434 bt438.1 bt444.1 true)) else (drayagelaw03_LabelBack.j0 k l0 t434 bt438.1 bt444.1 true)) else (drayagelaw03_LabelBack.j0 k l0 t434 bt438.1 bt444.1 true)) else (drayagelaw03_LabelBack.j0 k l0 t434 bt438.1 bt444.1 true)))))))) else (some false))) = some r := h
 clear h
 replace H := Option.bind_eq_some_iff.mp H
 obtain ⟨t433, A20, H⟩ := H
 try dsimp only at H
 have A2 := Aside0.mk A20
 clear A20
 by_cases c3 : t433 = true
 ·subst c3
  rw [if_pos rfl] at H
  replace H := Option.bind_eq_some_iff.mp H
  obtain ⟨t434, A40, H⟩ := H
  try dsimp only at H
  have A4 := Aside0.mk A40
  clear A40
  replace H := Option.bind_eq_some_iff.mp H
  obtain ⟨t437, A50, H⟩ := H
  try dsimp only at H
  have A5 := Aside0.mk A50
  clear A50
  replace H := Option.bind_eq_some_iff.mp H
  obtain ⟨⟨t438, t439, t440⟩, A60, H⟩ := H
  try dsimp only at H
  have A6 := Aside0.mk A60
  clear A60
  replace H := Option.bind_eq_some_iff.mp H
  obtain ⟨t443, A70, H⟩ := H
  try dsimp only at H
  have A7 := Aside0.mk A70
  obtain rfl : t437 = t443 := Option.some.inj (A5.out.symm.trans A7.out)
  clear A70
  replace H := Option.bind_eq_some_iff.mp H
  obtain ⟨⟨t444, t445, t446⟩, A80, H⟩ := H
  try dsimp only at H
  have A8 := Aside0.mk A80
  clear A80
  have HC9 := Aside0.mk H
  clear H
  go_enter Try.func5, Try.ntmps5
  go_upto_region 6 with (first | (go_at_call 16; (with_reducible refine (drayagelaw03_works.calls k  true _ A2.out).mono ?_); rintro e w10 ⟨rfl, hb⟩; replace HB := Aside0.mk (below_step bw_ hb); (try clear hb); (try clear hb2); (try clear hk); (try clear hi)) | (go_at_call 17; (with_reducible refine (drayagelaw03_labels.calls _ _ l0 t434 _ ?side1 ?side2 A4.out).mono ?_); (case side1 => repeat (first | exact (Kd.C_below HR0.out HB.out) | (with_reducible refine Kd.C_alloc ?_ _) | (with_reducible refine Kd.C_drewN ?_ _) | (with_reducible refine Kd.C_drew ?_))); (case side2 => exact HC0.out); rintro e w11 ⟨v435, rfl, ho0, hb⟩; have HO436 := Aside0.mk (Kd.R_lower ho0 (below_size bw_)); replace HB := Aside0.mk (below_step bw_ hb); (try clear hb); (try clear hb2); (try clear hk); (try clear hi); (try clear ho0); obtain ⟨Ao12, co12, eo12⟩ := Kd.R_slice HO436.out; subst eo12) | (go_at_call 22; (with_reducible refine (label_Print.calls _ _ t434 t437 _ ?side1 ?side2 A7.out).mono ?_); (case side1 => repeat (first | exact (Kd.R_reads' HO436.out).2.2 | (with_reducible refine Kd.C_alloc ?_ _) | (with_reducible refine Kd.C_drewN ?_ _) | (with_reducible refine Kd.C_drew ?_))); (case side2 => exact (Kd.R_reads' HO436.out).2.1); rintro e w15 ⟨rfl, hb⟩; replace HO436 := Aside0.mk (Kd.R_below (ra_ HO436.out) hb); replace HO442 := Aside0.mk (Kd.R_below (ra_ HO442.out) hb); replace HB := Aside0.mk (below_step bw_ hb); (try clear hb); (try clear hb2); (try clear hk); (try clear hi)) | (go_at_call 22; (with_reducible refine (label_Print.calls _ _ t434 t437 _ ?side1 ?side2 A5.out).mono ?_); (case side1 => repeat (first | exact (Kd.R_reads' HO436.out).2.2 | (with_reducible refine Kd.C_alloc ?_ _) | (with_reducible refine Kd.C_drewN ?_ _) | (with_reducible refine Kd.C_drew ?_))); (case side2 => exact (Kd.R_reads' HO436.out).2.1); rintro e w13 ⟨rfl, hb⟩; replace HO436 := Aside0.mk (Kd.R_below (ra_ HO436.out) hb); replace HB := Aside0.mk (below_step bw_ hb); (try clear hb); (try clear hb2); (try clear hk); (try clear hi)) | (go_at_call 8; (with_reducible refine (label_Labels.calls t437 t438 t439 t440 _ A6.out).mono ?_); rintro e w14 ⟨v441, rfl, ho0, hb⟩; have HO442 := Aside0.mk (Kd.R_lower (Kd.R_new' ho0 (Kd.R_lt (ra_ HO436.out))) (below_size bw_)); replace HO436 := Aside0.mk (Kd.R_elder' (ra_ HO436.out) (Kd.R_base ho0) hb); replace HB := Aside0.mk (below_step bw_ hb); (try clear hb); (try clear hb2); (try clear hk); (try clear hi); (try clear ho0)) | (go_at_call 10; (with_reducible refine (label_Borne.calls t437 t444 t445 t446 _ A8.out).mono ?_); rintro e w16 ⟨v447, rfl, ho0, hb⟩; have HO448 := Aside0.mk (Kd.R_lower (Kd.R_new' (Kd.R_new' ho0 (Kd.R_lt (ra_ HO436.out))) (Kd.R_lt (ra_ HO442.out))) (below_size bw_)); replace HO436 := Aside0.mk (Kd.R_elder' (ra_ HO436.out) (Kd.R_base ho0) hb); replace HO442 := Aside0.mk (Kd.R_elder' (ra_ HO442.out) (Kd.R_base ho0) hb); replace HB := Aside0.mk (below_step bw_ hb); (try clear hb); (try clear hb2); (try clear hk); (try clear hi); (try clear ho0)))
  repeat (go_quiet (first | (go_at_call 16; (with_reducible refine (drayagelaw03_works.calls k  true _ A2.out).mono ?_); rintro e w10 ⟨rfl, hb⟩; replace HB := Aside0.mk (below_step bw_ hb); (try clear hb); (try clear hb2); (try clear hk); (try clear hi)) | (go_at_call 17; (with_reducible refine (drayagelaw03_labels.calls _ _ l0 t434 _ ?side1 ?side2 A4.out).mono ?_); (case side1 => repeat (first | exact (Kd.C_below HR0.out HB.out) | (with_reducible refine Kd.C_alloc ?_ _) | (with_reducible refine Kd.C_drewN ?_ _) | (with_reducible refine Kd.C_drew ?_))); (case side2 => exact HC0.out); rintro e w11 ⟨v435, rfl, ho0, hb⟩; have HO436 := Aside0.mk (Kd.R_lower ho0 (below_size bw_)); replace HB := Aside0.mk (below_step bw_ hb); (try clear hb); (try clear hb2); (try clear hk); (try clear hi); (try clear ho0); obtain ⟨Ao12, co12, eo12⟩ := Kd.R_slice HO436.out; subst eo12) | (go_at_call 22; (with_reducible refine (label_Print.calls _ _ t434 t437 _ ?side1 ?side2 A5.out).mono ?_); (case side1 => repeat (first | exact (Kd.R_reads' HO436.out).2.2 | (with_reducible refine Kd.C_alloc ?_ _) | (with_reducible refine Kd.C_drewN ?_ _) | (with_reducible refine Kd.C_drew ?_))); (case side2 => exact (Kd.R_reads' HO436.out).2.1); rintro e w13 ⟨rfl, hb⟩; replace HO436 := Aside0.mk (Kd.R_below (ra_ HO436.out) hb); replace HB := Aside0.mk (below_step bw_ hb); (try clear hb); (try clear hb2); (try clear hk); (try clear hi)) | (go_at_call 8; (with_reducible refine (label_Labels.calls t437 t438 t439 t440 _ A6.out).mono ?_); rintro e w14 ⟨v441, rfl, ho0, hb⟩; have HO442 := Aside0.mk (Kd.R_lower (Kd.R_new' ho0 (Kd.R_lt (ra_ HO436.out))) (below_size bw_)); replace HO436 := Aside0.mk (Kd.R_elder' (ra_ HO436.out) (Kd.R_base ho0) hb); replace HB := Aside0.mk (below_step bw_ hb); (try clear hb); (try clear hb2); (try clear hk); (try clear hi); (try clear ho0)) | (go_at_call 22; (with_reducible refine (label_Print.calls _ _ t434 t437 _ ?side1 ?side2 A7.out).mono ?_); (case side1 => repeat (first | exact (Kd.R_reads' HO436.out).2.2 | (with_reducible refine Kd.C_alloc ?_ _) | (with_reducible refine Kd.C_drewN ?_ _) | (with_reducible refine Kd.C_drew ?_))); (case side2 => exact (Kd.R_reads' HO436.out).2.1); rintro e w15 ⟨rfl, hb⟩; replace HO436 := Aside0.mk (Kd.R_below (ra_ HO436.out) hb); replace HO442 := Aside0.mk (Kd.R_below (ra_ HO442.out) hb); replace HB := Aside0.mk (below_step bw_ hb); (try clear hb); (try clear hb2); (try clear hk); (try clear hi)) | (go_at_call 10; (with_reducible refine (label_Borne.calls t437 t444 t445 t446 _ A8.out).mono ?_); rintro e w16 ⟨v447, rfl, ho0, hb⟩; have HO448 := Aside0.mk (Kd.R_lower (Kd.R_new' (Kd.R_new' ho0 (Kd.R_lt (ra_ HO436.out))) (Kd.R_lt (ra_ HO442.out))) (below_size bw_)); replace HO436 := Aside0.mk (Kd.R_elder' (ra_ HO436.out) (Kd.R_base ho0) hb); replace HO442 := Aside0.mk (Kd.R_elder' (ra_ HO442.out) (Kd.R_base ho0) hb); replace HB := Aside0.mk (below_step bw_ hb); (try clear hb); (try clear hb2); (try clear hk); (try clear hi); (try clear ho0))); go_upto_region 6 with (first | (go_at_call 16; (with_reducible refine (drayagelaw03_works.calls k  true _ A2.out).mono ?_); rintro e w10 ⟨rfl, hb⟩; replace HB := Aside0.mk (below_step bw_ hb); (try clear hb); (try clear hb2); (try clear hk); (try clear hi)) | (go_at_call 17; (with_reducible refine (drayagelaw03_labels.calls _ _ l0 t434 _ ?side1 ?side2 A4.out).mono ?_); (case side1 => repeat (first | exact (Kd.C_below HR0.out HB.out) | (with_reducible refine Kd.C_alloc ?_ _) | (with_reducible refine Kd.C_drewN ?_ _) | (with_reducible refine Kd.C_drew ?_))); (case side2 => exact HC0.out); rintro e w11 ⟨v435, rfl, ho0, hb⟩; have HO436 := Aside0.mk (Kd.R_lower ho0 (below_size bw_)); replace HB := Aside0.mk (below_step bw_ hb); (try clear hb); (try clear hb2); (try clear hk); (try clear hi); (try clear ho0); obtain ⟨Ao12, co12, eo12⟩ := Kd.R_slice HO436.out; subst eo12) | (go_at_call 22; (with_reducible refine (label_Print.calls _ _ t434 t437 _ ?side1 ?side2 A5.out).mono ?_); (case side1 => repeat (first | exact (Kd.R_reads' HO436.out).2.2 | (with_reducible refine Kd.C_alloc ?_ _) | (with_reducible refine Kd.C_drewN ?_ _) | (with_reducible refine Kd.C_drew ?_))); (case side2 => exact (Kd.R_reads' HO436.out).2.1); rintro e w13 ⟨rfl, hb⟩; replace HO436 := Aside0.mk (Kd.R_below (ra_ HO436.out) hb); replace HB := Aside0.mk (below_step bw_ hb); (try clear hb); (try clear hb2); (try clear hk); (try clear hi)) | (go_at_call 8; (with_reducible refine (label_Labels.calls t437 t438 t439 t440 _ A6.out).mono ?_); rintro e w14 ⟨v441, rfl, ho0, hb⟩; have HO442 := Aside0.mk (Kd.R_lower (Kd.R_new' ho0 (Kd.R_lt (ra_ HO436.out))) (below_size bw_)); replace HO436 := Aside0.mk (Kd.R_elder' (ra_ HO436.out) (Kd.R_base ho0) hb); replace HB := Aside0.mk (below_step bw_ hb); (try clear hb); (try clear hb2); (try clear hk); (try clear hi); (try clear ho0)) | (go_at_call 22; (with_reducible refine (label_Print.calls _ _ t434 t437 _ ?side1 ?side2 A7.out).mono ?_); (case side1 => repeat (first | exact (Kd.R_reads' HO436.out).2.2 | (with_reducible refine Kd.C_alloc ?_ _) | (with_reducible refine Kd.C_drewN ?_ _) | (with_reducible refine Kd.C_drew ?_))); (case side2 => exact (Kd.R_reads' HO436.out).2.1); rintro e w15 ⟨rfl, hb⟩; replace HO436 := Aside0.mk (Kd.R_below (ra_ HO436.out) hb); replace HO442 := Aside0.mk (Kd.R_below (ra_ HO442.out) hb); replace HB := Aside0.mk (below_step bw_ hb); (try clear hb); (try clear hb2); (try clear hk); (try clear hi)) | (go_at_call 10; (with_reducible refine (label_Borne.calls t437 t444 t445 t446 _ A8.out).mono ?_); rintro e w16 ⟨v447, rfl, ho0, hb⟩; have HO448 := Aside0.mk (Kd.R_lower (Kd.R_new' (Kd.R_new' ho0 (Kd.R_lt (ra_ HO436.out))) (Kd.R_lt (ra_ HO442.out))) (below_size bw_)); replace HO436 := Aside0.mk (Kd.R_elder' (ra_ HO436.out) (Kd.R_base ho0) hb); replace HO442 := Aside0.mk (Kd.R_elder' (ra_ HO442.out) (Kd.R_base ho0) hb); replace HB := Aside0.mk (below_step bw_ hb); (try clear hb); (try clear hb2); (try clear hk); (try clear hi); (try clear ho0))))
  (try simp only [Act.put, List.setIfInBounds_toArray, List.set_cons_zero, List.set_cons_succ])
  go_cut [67] (fun v67 wc => ∃ (kq : Nat) (x67_8 : Bool), v67 = .bool x67_8 ∧ Aside0 (drayagelaw03_LabelBack.j0 kq l0 t434 t438 t444 x67_8 = some r) ∧ Aside0 (kq ≤ k) ∧ Aside0 (Kd.R k43 43 wc w.heap.size (fun k_ => some k_ ≠ (v441 : Value).ownBlock ∧ some k_ ≠ (v447 : Value).ownBlock) (.slice Ao12 t434.length co12) t434) ∧ Aside0 (Kd.R k43 43 wc w.heap.size (fun k_ => some k_ ≠ ((.slice Ao12 t434.length co12) : Value).ownBlock ∧ some k_ ≠ (v447 : Value).ownBlock) v441 t438) ∧ Aside0 (Kd.R k43 43 wc w.heap.size (fun k_ => some k_ ≠ ((.slice Ao12 t434.length co12) : Value).ownBlock ∧ some k_ ≠ (v441 : Value).ownBlock) v447 t444) ∧ Aside0 (Below w.heap.size w wc))
  case first =>
   have H := HC9.out
   clear HC9
   replace H := Option.bind_eq_some_iff.mp H
   obtain ⟨t449, A170, H⟩ := H
   try dsimp only at H
   have A17 := Aside0.mk A170
   clear A170
   by_cases c18 : t449 = 0
   ·rw [if_pos c18] at H
    have c18b0 : (t449 == 0) = true := beq_iff_eq.mpr c18
    have c18b1 : (t449 != 0) = false := bne_eq_false_iff_eq.mpr c18
    clear c18
    (first | rw [c18b0] | (simp only [i64_w, i32_w]; rw [c18b0]) | skip)
    by_cases c19 : t440 = 0
    ·rw [if_pos c19] at H
     have c19b0 : (t440 == 0) = true := beq_iff_eq.mpr c19
     have c19b1 : (t440 != 0) = false := bne_eq_false_iff_eq.mpr c19
     clear c19
     by_cases c20 : t439 = 0
     ·rw [if_pos c20] at H
      have c20b0 : (t439 == 0) = true := beq_iff_eq.mpr c20
      have c20b1 : (t439 != 0) = false := bne_eq_false_iff_eq.mpr c20
      clear c20
      by_cases c21 : t446 = 0
      ·rw [if_pos c21] at H
       have c21b0 : (t446 == 0) = true := beq_iff_eq.mpr c21
       have c21b1 : (t446 != 0) = false := bne_eq_false_iff_eq.mpr c21
       clear c21
       by_cases c22 : t445 = 0
       ·rw [if_pos c22] at H
        have c22b0 : (t445 == 0) = true := beq_iff_eq.mpr c22
        have c22b1 : (t445 != 0) = false := bne_eq_false_iff_eq.mpr c22
        clear c22
        by_cases c23 : (t434.length : Int) = (t438.length : Int)
        ·rw [if_pos c23] at H
         have c23b0 : ((t434.length : Int) == (t438.length : Int)) = true := beq_iff_eq.mpr c23
         have c23b1 : ((t434.length : Int) != (t438.length : Int)) = false := bne_eq_false_iff_eq.mpr c23
         have c23b2 : (t434.length == t438.length) = true := by first | simpa using c23 | (simp at c23 ⊢; omega)
         clear c23
         have H' := Aside0.mk H
         clear H
         go_wp2_with (first | (go_at_call 23; (with_reducible refine (label_Check.calls _ _ t434 t449 _ ?side1 ?side2 A17.out).mono ?_); (case side1 => repeat (first | exact (Kd.R_reads' HO436.out).2.2 | (with_reducible refine Kd.C_alloc ?_ _) | (with_reducible refine Kd.C_drewN ?_ _) | (with_reducible refine Kd.C_drew ?_))); (case side2 => exact (Kd.R_reads' HO436.out).2.1); rintro e w24 ⟨rfl, hb⟩; replace HO436 := Aside0.mk (Kd.R_below (ra_ HO436.out) hb); replace HO442 := Aside0.mk (Kd.R_below (ra_ HO442.out) hb); replace HO448 := Aside0.mk (Kd.R_below (ra_ HO448.out) hb); replace HB := Aside0.mk (below_step bw_ hb); (try clear hb); (try clear hb2); (try clear hk); (try clear hi); obtain ⟨Ao25, co25, eo25⟩ := Kd.R_slice HO442.out; subst eo25; obtain ⟨Ao26, co26, eo26⟩ := Kd.R_slice HO448.out; subst eo26))
         repeat (go_quiet (first | (go_at_call 23; (with_reducible refine (label_Check.calls _ _ t434 t449 _ ?side1 ?side2 A17.out).mono ?_); (case side1 => repeat (first | exact (Kd.R_reads' HO436.out).2.2 | (with_reducible refine Kd.C_alloc ?_ _) | (with_reducible refine Kd.C_drewN ?_ _) | (with_reducible refine Kd.C_drew ?_))); (case side2 => exact (Kd.R_reads' HO436.out).2.1); rintro e w24 ⟨rfl, hb⟩; replace HO436 := Aside0.mk (Kd.R_below (ra_ HO436.out) hb); replace HO442 := Aside0.mk (Kd.R_below (ra_ HO442.out) hb); replace HO448 := Aside0.mk (Kd.R_below (ra_ HO448.out) hb); replace HB := Aside0.mk (below_step bw_ hb); (try clear hb); (try clear hb2); (try clear hk); (try clear hi); obtain ⟨Ao25, co25, eo25⟩ := Kd.R_slice HO442.out; subst eo25; obtain ⟨Ao26, co26, eo26⟩ := Kd.R_slice HO448.out; subst eo26)); try go_wp2_with (first | (go_at_call 23; (with_reducible refine (label_Check.calls _ _ t434 t449 _ ?side1 ?side2 A17.out).mono ?_); (case side1 => repeat (first | exact (Kd.R_reads' HO436.out).2.2 | (with_reducible refine Kd.C_alloc ?_ _) | (with_reducible refine Kd.C_drewN ?_ _) | (with_reducible refine Kd.C_drew ?_))); (case side2 => exact (Kd.R_reads' HO436.out).2.1); rintro e w24 ⟨rfl, hb⟩; replace HO436 := Aside0.mk (Kd.R_below (ra_ HO436.out) hb); replace HO442 := Aside0.mk (Kd.R_below (ra_ HO442.out) hb); replace HO448 := Aside0.mk (Kd.R_below (ra_ HO448.out) hb); replace HB := Aside0.mk (below_step bw_ hb); (try clear hb); (try clear hb2); (try clear hk); (try clear hi); obtain ⟨Ao25, co25, eo25⟩ := Kd.R_slice HO442.out; subst eo25; obtain ⟨Ao26, co26, eo26⟩ := Kd.R_slice HO448.out; subst eo26)))
         go_meet
         case rel => exact ⟨_, (((t434.length : Int) != (t444.length : Int))), fs_, H', ⟨by first | omega | exact Nat.le_refl _⟩, ⟨by (with_reducible repeat (first | apply Kd.R_alloc | apply Kd.R_drewN | apply Kd.R_drew)); exact Kd.R_mono HO436.out (fun _ hk => ⟨hk.1.2, hk.2⟩)⟩, ⟨by (with_reducible repeat (first | apply Kd.R_alloc | apply Kd.R_drewN | apply Kd.R_drew)); exact Kd.R_mono HO442.out (fun _ hk => ⟨hk.1.2, hk.2⟩)⟩, ⟨by (with_reducible repeat (first | apply Kd.R_alloc | apply Kd.R_drewN | apply Kd.R_drew)); exact Kd.R_mono HO448.out (fun _ hk => ⟨hk.1.2, hk.2⟩)⟩, ⟨bw_⟩⟩
        ·rw [if_neg c23] at H
         have c23b0 : ((t434.length : Int) == (t438.length : Int)) = false := beq_eq_false_iff_ne.mpr c23
         have c23b1 : ((t434.length : Int) != (t438.length : Int)) = true := bne_iff_ne.mpr c23
         have c23b2 : (t434.length == t438.length) = false := by first | simpa using c23 | (simp at c23 ⊢; omega)
         have H' := Aside0.mk H
         clear H
         go_wp2_with (first | (go_at_call 23; (with_reducible refine (label_Check.calls _ _ t434 t449 _ ?side1 ?side2 A17.out).mono ?_); (case side1 => repeat (first | exact (Kd.R_reads' HO436.out).2.2 | (with_reducible refine Kd.C_alloc ?_ _) | (with_reducible refine Kd.C_drewN ?_ _) | (with_reducible refine Kd.C_drew ?_))); (case side2 => exact (Kd.R_reads' HO436.out).2.1); rintro e w27 ⟨rfl, hb⟩; replace HO436 := Aside0.mk (Kd.R_below (ra_ HO436.out) hb); replace HO442 := Aside0.mk (Kd.R_below (ra_ HO442.out) hb); replace HO448 := Aside0.mk (Kd.R_below (ra_ HO448.out) hb); replace HB := Aside0.mk (below_step bw_ hb); (try clear hb); (try clear hb2); (try clear hk); (try clear hi); obtain ⟨Ao28, co28, eo28⟩ := Kd.R_slice HO442.out; subst eo28))
         repeat (go_quiet (first | (go_at_call 23; (with_reducible refine (label_Check.calls _ _ t434 t449 _ ?side1 ?side2 A17.out).mono ?_); (case side1 => repeat (first | exact (Kd.R_reads' HO436.out).2.2 | (with_reducible refine Kd.C_alloc ?_ _) | (with_reducible refine Kd.C_drewN ?_ _) | (with_reducible refine Kd.C_drew ?_))); (case side2 => exact (Kd.R_reads' HO436.out).2.1); rintro e w27 ⟨rfl, hb⟩; replace HO436 := Aside0.mk (Kd.R_below (ra_ HO436.out) hb); replace HO442 := Aside0.mk (Kd.R_below (ra_ HO442.out) hb); replace HO448 := Aside0.mk (Kd.R_below (ra_ HO448.out) hb); replace HB := Aside0.mk (below_step bw_ hb); (try clear hb); (try clear hb2); (try clear hk); (try clear hi); obtain ⟨Ao28, co28, eo28⟩ := Kd.R_slice HO442.out; subst eo28)); try go_wp2_with (first | (go_at_call 23; (with_reducible refine (label_Check.calls _ _ t434 t449 _ ?side1 ?side2 A17.out).mono ?_); (case side1 => repeat (first | exact (Kd.R_reads' HO436.out).2.2 | (with_reducible refine Kd.C_alloc ?_ _) | (with_reducible refine Kd.C_drewN ?_ _) | (with_reducible refine Kd.C_drew ?_))); (case side2 => exact (Kd.R_reads' HO436.out).2.1); rintro e w27 ⟨rfl, hb⟩; replace HO436 := Aside0.mk (Kd.R_below (ra_ HO436.out) hb); replace HO442 := Aside0.mk (Kd.R_below (ra_ HO442.out) hb); replace HO448 := Aside0.mk (Kd.R_below (ra_ HO448.out) hb); replace HB := Aside0.mk (below_step bw_ hb); (try clear hb); (try clear hb2); (try clear hk); (try clear hi); obtain ⟨Ao28, co28, eo28⟩ := Kd.R_slice HO442.out; subst eo28)))
         go_meet
         case rel => exact ⟨_, (true), fs_, H', ⟨by first | omega | exact Nat.le_refl _⟩, ⟨by (with_reducible repeat (first | apply Kd.R_alloc | apply Kd.R_drewN | apply Kd.R_drew)); exact Kd.R_mono HO436.out (fun _ hk => ⟨hk.1.2, hk.2⟩)⟩, ⟨by (with_reducible repeat (first | apply Kd.R_alloc | apply Kd.R_drewN | apply Kd.R_drew)); exact Kd.R_mono HO442.out (fun _ hk => ⟨hk.1.2, hk.2⟩)⟩, ⟨by (with_reducible repeat (first | apply Kd.R_alloc | apply Kd.R_drewN | apply Kd.R_drew)); exact Kd.R_mono HO448.out (fun _ hk => ⟨hk.1.2, hk.2⟩)⟩, ⟨bw_⟩⟩
       ·rw [if_neg c22] at H
        have c22b0 : (t445 == 0) = false := beq_eq_false_iff_ne.mpr c22
        have c22b1 : (t445 != 0) = true := bne_iff_ne.mpr c22
        have H' := Aside0.mk H
        clear H
        go_wp2_with (first | (go_at_call 23; (with_reducible refine (label_Check.calls _ _ t434 t449 _ ?side1 ?side2 A17.out).mono ?_); (case side1 => repeat (first | exact (Kd.R_reads' HO436.out).2.2 | (with_reducible refine Kd.C_alloc ?_ _) | (with_reducible refine Kd.C_drewN ?_ _) | (with_reducible refine Kd.C_drew ?_))); (case side2 => exact (Kd.R_reads' HO436.out).2.1); rintro e w29 ⟨rfl, hb⟩; replace HO436 := Aside0.mk (Kd.R_below (ra_ HO436.out) hb); replace HO442 := Aside0.mk (Kd.R_below (ra_ HO442.out) hb); replace HO448 := Aside0.mk (Kd.R_below (ra_ HO448.out) hb); replace HB := Aside0.mk (below_step bw_ hb); (try clear hb); (try clear hb2); (try clear hk); (try clear hi)))
        repeat (go_quiet (first | (go_at_call 23; (with_reducible refine (label_Check.calls _ _ t434 t449 _ ?side1 ?side2 A17.out).mono ?_); (case side1 => repeat (first | exact (Kd.R_reads' HO436.out).2.2 | (with_reducible refine Kd.C_alloc ?_ _) | (with_reducible refine Kd.C_drewN ?_ _) | (with_reducible refine Kd.C_drew ?_))); (case side2 => exact (Kd.R_reads' HO436.out).2.1); rintro e w29 ⟨rfl, hb⟩; replace HO436 := Aside0.mk (Kd.R_below (ra_ HO436.out) hb); replace HO442 := Aside0.mk (Kd.R_below (ra_ HO442.out) hb); replace HO448 := Aside0.mk (Kd.R_below (ra_ HO448.out) hb); replace HB := Aside0.mk (below_step bw_ hb); (try clear hb); (try clear hb2); (try clear hk); (try clear hi))); try go_wp2_with (first | (go_at_call 23; (with_reducible refine (label_Check.calls _ _ t434 t449 _ ?side1 ?side2 A17.out).mono ?_); (case side1 => repeat (first | exact (Kd.R_reads' HO436.out).2.2 | (with_reducible refine Kd.C_alloc ?_ _) | (with_reducible refine Kd.C_drewN ?_ _) | (with_reducible refine Kd.C_drew ?_))); (case side2 => exact (Kd.R_reads' HO436.out).2.1); rintro e w29 ⟨rfl, hb⟩; replace HO436 := Aside0.mk (Kd.R_below (ra_ HO436.out) hb); replace HO442 := Aside0.mk (Kd.R_below (ra_ HO442.out) hb); replace HO448 := Aside0.mk (Kd.R_below (ra_ HO448.out) hb); replace HB := Aside0.mk (below_step bw_ hb); (try clear hb); (try clear hb2); (try clear hk); (try clear hi))))
        go_meet
        case rel => exact ⟨_, (true), fs_, H', ⟨by first | omega | exact Nat.le_refl _⟩, ⟨by (with_reducible repeat (first | apply Kd.R_alloc | apply Kd.R_drewN | apply Kd.R_drew)); exact Kd.R_mono HO436.out (fun _ hk => ⟨hk.1.2, hk.2⟩)⟩, ⟨by (with_reducible repeat (first | apply Kd.R_alloc | apply Kd.R_drewN | apply Kd.R_drew)); exact Kd.R_mono HO442.out (fun _ hk => ⟨hk.1.2, hk.2⟩)⟩, ⟨by (with_reducible repeat (first | apply Kd.R_alloc | apply Kd.R_drewN | apply Kd.R_drew)); exact Kd.R_mono HO448.out (fun _ hk => ⟨hk.1.2, hk.2⟩)⟩, ⟨bw_⟩⟩
      ·rw [if_neg c21] at H
       have c21b0 : (t446 == 0) = false := beq_eq_false_iff_ne.mpr c21
       have c21b1 : (t446 != 0) = true := bne_iff_ne.mpr c21
       have H' := Aside0.mk H
       clear H
       go_wp2_with (first | (go_at_call 23; (with_reducible refine (label_Check.calls _ _ t434 t449 _ ?side1 ?side2 A17.out).mono ?_); (case side1 => repeat (first | exact (Kd.R_reads' HO436.out).2.2 | (with_reducible refine Kd.C_alloc ?_ _) | (with_reducible refine Kd.C_drewN ?_ _) | (with_reducible refine Kd.C_drew ?_))); (case side2 => exact (Kd.R_reads' HO436.out).2.1); rintro e w30 ⟨rfl, hb⟩; replace HO436 := Aside0.mk (Kd.R_below (ra_ HO436.out) hb); replace HO442 := Aside0.mk (Kd.R_below (ra_ HO442.out) hb); replace HO448 := Aside0.mk (Kd.R_below (ra_ HO448.out) hb); replace HB := Aside0.mk (below_step bw_ hb); (try clear hb); (try clear hb2); (try clear hk); (try clear hi)))
       repeat (go_quiet (first | (go_at_call 23; (with_reducible refine (label_Check.calls _ _ t434 t449 _ ?side1 ?side2 A17.out).mono ?_); (case side1 => repeat (first | exact (Kd.R_reads' HO436.out).2.2 | (with_reducible refine Kd.C_alloc ?_ _) | (with_reducible refine Kd.C_drewN ?_ _) | (with_reducible refine Kd.C_drew ?_))); (case side2 => exact (Kd.R_reads' HO436.out).2.1); rintro e w30 ⟨rfl, hb⟩; replace HO436 := Aside0.mk (Kd.R_below (ra_ HO436.out) hb); replace HO442 := Aside0.mk (Kd.R_below (ra_ HO442.out) hb); replace HO448 := Aside0.mk (Kd.R_below (ra_ HO448.out) hb); replace HB := Aside0.mk (below_step bw_ hb); (try clear hb); (try clear hb2); (try clear hk); (try clear hi))); try go_wp2_with (first | (go_at_call 23; (with_reducible refine (label_Check.calls _ _ t434 t449 _ ?side1 ?side2 A17.out).mono ?_); (case side1 => repeat (first | exact (Kd.R_reads' HO436.out).2.2 | (with_reducible refine Kd.C_alloc ?_ _) | (with_reducible refine Kd.C_drewN ?_ _) | (with_reducible refine Kd.C_drew ?_))); (case side2 => exact (Kd.R_reads' HO436.out).2.1); rintro e w30 ⟨rfl, hb⟩; replace HO436 := Aside0.mk (Kd.R_below (ra_ HO436.out) hb); replace HO442 := Aside0.mk (Kd.R_below (ra_ HO442.out) hb); replace HO448 := Aside0.mk (Kd.R_below (ra_ HO448.out) hb); replace HB := Aside0.mk (below_step bw_ hb); (try clear hb); (try clear hb2); (try clear hk); (try clear hi))))
       go_meet
       case rel => exact ⟨_, (true), fs_, H', ⟨by first | omega | exact Nat.le_refl _⟩, ⟨by (with_reducible repeat (first | apply Kd.R_alloc | apply Kd.R_drewN | apply Kd.R_drew)); exact Kd.R_mono HO436.out (fun _ hk => ⟨hk.1.2, hk.2⟩)⟩, ⟨by (with_reducible repeat (first | apply Kd.R_alloc | apply Kd.R_drewN | apply Kd.R_drew)); exact Kd.R_mono HO442.out (fun _ hk => ⟨hk.1.2, hk.2⟩)⟩, ⟨by (with_reducible repeat (first | apply Kd.R_alloc | apply Kd.R_drewN | apply Kd.R_drew)); exact Kd.R_mono HO448.out (fun _ hk => ⟨hk.1.2, hk.2⟩)⟩, ⟨bw_⟩⟩
     ·rw [if_neg c20] at H
      have c20b0 : (t439 == 0) = false := beq_eq_false_iff_ne.mpr c20
      have c20b1 : (t439 != 0) = true := bne_iff_ne.mpr c20
      have H' := Aside0.mk H
      clear H
      go_wp2_with (first | (go_at_call 23; (with_reducible refine (label_Check.calls _ _ t434 t449 _ ?side1 ?side2 A17.out).mono ?_); (case side1 => repeat (first | exact (Kd.R_reads' HO436.out).2.2 | (with_reducible refine Kd.C_alloc ?_ _) | (with_reducible refine Kd.C_drewN ?_ _) | (with_reducible refine Kd.C_drew ?_))); (case side2 => exact (Kd.R_reads' HO436.out).2.1); rintro e w31 ⟨rfl, hb⟩; replace HO436 := Aside0.mk (Kd.R_below (ra_ HO436.out) hb); replace HO442 := Aside0.mk (Kd.R_below (ra_ HO442.out) hb); replace HO448 := Aside0.mk (Kd.R_below (ra_ HO448.out) hb); replace HB := Aside0.mk (below_step bw_ hb); (try clear hb); (try clear hb2); (try clear hk); (try clear hi)))
      repeat (go_quiet (first | (go_at_call 23; (with_reducible refine (label_Check.calls _ _ t434 t449 _ ?side1 ?side2 A17.out).mono ?_); (case side1 => repeat (first | exact (Kd.R_reads' HO436.out).2.2 | (with_reducible refine Kd.C_alloc ?_ _) | (with_reducible refine Kd.C_drewN ?_ _) | (with_reducible refine Kd.C_drew ?_))); (case side2 => exact (Kd.R_reads' HO436.out).2.1); rintro e w31 ⟨rfl, hb⟩; replace HO436 := Aside0.mk (Kd.R_below (ra_ HO436.out) hb); replace HO442 := Aside0.mk (Kd.R_below (ra_ HO442.out) hb); replace HO448 := Aside0.mk (Kd.R_below (ra_ HO448.out) hb); replace HB := Aside0.mk (below_step bw_ hb); (try clear hb); (try clear hb2); (try clear hk); (try clear hi))); try go_wp2_with (first | (go_at_call 23; (with_reducible refine (label_Check.calls _ _ t434 t449 _ ?side1 ?side2 A17.out).mono ?_); (case side1 => repeat (first | exact (Kd.R_reads' HO436.out).2.2 | (with_reducible refine Kd.C_alloc ?_ _) | (with_reducible refine Kd.C_drewN ?_ _) | (with_reducible refine Kd.C_drew ?_))); (case side2 => exact (Kd.R_reads' HO436.out).2.1); rintro e w31 ⟨rfl, hb⟩; replace HO436 := Aside0.mk (Kd.R_below (ra_ HO436.out) hb); replace HO442 := Aside0.mk (Kd.R_below (ra_ HO442.out) hb); replace HO448 := Aside0.mk (Kd.R_below (ra_ HO448.out) hb); replace HB := Aside0.mk (below_step bw_ hb); (try clear hb); (try clear hb2); (try clear hk); (try clear hi))))
      go_meet
      case rel => exact ⟨_, (true), fs_, H', ⟨by first | omega | exact Nat.le_refl _⟩, ⟨by (with_reducible repeat (first | apply Kd.R_alloc | apply Kd.R_drewN | apply Kd.R_drew)); exact Kd.R_mono HO436.out (fun _ hk => ⟨hk.1.2, hk.2⟩)⟩, ⟨by (with_reducible repeat (first | apply Kd.R_alloc | apply Kd.R_drewN | apply Kd.R_drew)); exact Kd.R_mono HO442.out (fun _ hk => ⟨hk.1.2, hk.2⟩)⟩, ⟨by (with_reducible repeat (first | apply Kd.R_alloc | apply Kd.R_drewN | apply Kd.R_drew)); exact Kd.R_mono HO448.out (fun _ hk => ⟨hk.1.2, hk.2⟩)⟩, ⟨bw_⟩⟩
    ·rw [if_neg c19] at H
     have c19b0 : (t440 == 0) = false := beq_eq_false_iff_ne.mpr c19
     have c19b1 : (t440 != 0) = true := bne_iff_ne.mpr c19
     have H' := Aside0.mk H
     clear H
     go_wp2_with (first | (go_at_call 23; (with_reducible refine (label_Check.calls _ _ t434 t449 _ ?side1 ?side2 A17.out).mono ?_); (case side1 => repeat (first | exact (Kd.R_reads' HO436.out).2.2 | (with_reducible refine Kd.C_alloc ?_ _) | (with_reducible refine Kd.C_drewN ?_ _) | (with_reducible refine Kd.C_drew ?_))); (case side2 => exact (Kd.R_reads' HO436.out).2.1); rintro e w32 ⟨rfl, hb⟩; replace HO436 := Aside0.mk (Kd.R_below (ra_ HO436.out) hb); replace HO442 := Aside0.mk (Kd.R_below (ra_ HO442.out) hb); replace HO448 := Aside0.mk (Kd.R_below (ra_ HO448.out) hb); replace HB := Aside0.mk (below_step bw_ hb); (try clear hb); (try clear hb2); (try clear hk); (try clear hi)))
     repeat (go_quiet (first | (go_at_call 23; (with_reducible refine (label_Check.calls _ _ t434 t449 _ ?side1 ?side2 A17.out).mono ?_); (case side1 => repeat (first | exact (Kd.R_reads' HO436.out).2.2 | (with_reducible refine Kd.C_alloc ?_ _) | (with_reducible refine Kd.C_drewN ?_ _) | (with_reducible refine Kd.C_drew ?_))); (case side2 => exact (Kd.R_reads' HO436.out).2.1); rintro e w32 ⟨rfl, hb⟩; replace HO436 := Aside0.mk (Kd.R_below (ra_ HO436.out) hb); replace HO442 := Aside0.mk (Kd.R_below (ra_ HO442.out) hb); replace HO448 := Aside0.mk (Kd.R_below (ra_ HO448.out) hb); replace HB := Aside0.mk (below_step bw_ hb); (try clear hb); (try clear hb2); (try clear hk); (try clear hi))); try go_wp2_with (first | (go_at_call 23; (with_reducible refine (label_Check.calls _ _ t434 t449 _ ?side1 ?side2 A17.out).mono ?_); (case side1 => repeat (first | exact (Kd.R_reads' HO436.out).2.2 | (with_reducible refine Kd.C_alloc ?_ _) | (with_reducible refine Kd.C_drewN ?_ _) | (with_reducible refine Kd.C_drew ?_))); (case side2 => exact (Kd.R_reads' HO436.out).2.1); rintro e w32 ⟨rfl, hb⟩; replace HO436 := Aside0.mk (Kd.R_below (ra_ HO436.out) hb); replace HO442 := Aside0.mk (Kd.R_below (ra_ HO442.out) hb); replace HO448 := Aside0.mk (Kd.R_below (ra_ HO448.out) hb); replace HB := Aside0.mk (below_step bw_ hb); (try clear hb); (try clear hb2); (try clear hk); (try clear hi))))
     go_meet
     case rel => exact ⟨_, (true), fs_, H', ⟨by first | omega | exact Nat.le_refl _⟩, ⟨by (with_reducible repeat (first | apply Kd.R_alloc | apply Kd.R_drewN | apply Kd.R_drew)); exact Kd.R_mono HO436.out (fun _ hk => ⟨hk.1.2, hk.2⟩)⟩, ⟨by (with_reducible repeat (first | apply Kd.R_alloc | apply Kd.R_drewN | apply Kd.R_drew)); exact Kd.R_mono HO442.out (fun _ hk => ⟨hk.1.2, hk.2⟩)⟩, ⟨by (with_reducible repeat (first | apply Kd.R_alloc | apply Kd.R_drewN | apply Kd.R_drew)); exact Kd.R_mono HO448.out (fun _ hk => ⟨hk.1.2, hk.2⟩)⟩, ⟨bw_⟩⟩
   ·rw [if_neg c18] at H
    have c18b0 : (t449 == 0) = false := beq_eq_false_iff_ne.mpr c18
    have c18b1 : (t449 != 0) = true := bne_iff_ne.mpr c18
    (first | rw [c18b0] | (simp only [i64_w, i32_w]; rw [c18b0]) | skip)
    have H' := Aside0.mk H
    clear H
    go_wp2_with (first | (go_at_call 23; (with_reducible refine (label_Check.calls _ _ t434 t449 _ ?side1 ?side2 A17.out).mono ?_); (case side1 => repeat (first | exact (Kd.R_reads' HO436.out).2.2 | (with_reducible refine Kd.C_alloc ?_ _) | (with_reducible refine Kd.C_drewN ?_ _) | (with_reducible refine Kd.C_drew ?_))); (case side2 => exact (Kd.R_reads' HO436.out).2.1); rintro e w33 ⟨rfl, hb⟩; replace HO436 := Aside0.mk (Kd.R_below (ra_ HO436.out) hb); replace HO442 := Aside0.mk (Kd.R_below (ra_ HO442.out) hb); replace HO448 := Aside0.mk (Kd.R_below (ra_ HO448.out) hb); replace HB := Aside0.mk (below_step bw_ hb); (try clear hb); (try clear hb2); (try clear hk); (try clear hi)))
    repeat (go_quiet (first | (go_at_call 23; (with_reducible refine (label_Check.calls _ _ t434 t449 _ ?side1 ?side2 A17.out).mono ?_); (case side1 => repeat (first | exact (Kd.R_reads' HO436.out).2.2 | (with_reducible refine Kd.C_alloc ?_ _) | (with_reducible refine Kd.C_drewN ?_ _) | (with_reducible refine Kd.C_drew ?_))); (case side2 => exact (Kd.R_reads' HO436.out).2.1); rintro e w33 ⟨rfl, hb⟩; replace HO436 := Aside0.mk (Kd.R_below (ra_ HO436.out) hb); replace HO442 := Aside0.mk (Kd.R_below (ra_ HO442.out) hb); replace HO448 := Aside0.mk (Kd.R_below (ra_ HO448.out) hb); replace HB := Aside0.mk (below_step bw_ hb); (try clear hb); (try clear hb2); (try clear hk); (try clear hi))); try go_wp2_with (first | (go_at_call 23; (with_reducible refine (label_Check.calls _ _ t434 t449 _ ?side1 ?side2 A17.out).mono ?_); (case side1 => repeat (first | exact (Kd.R_reads' HO436.out).2.2 | (with_reducible refine Kd.C_alloc ?_ _) | (with_reducible refine Kd.C_drewN ?_ _) | (with_reducible refine Kd.C_drew ?_))); (case side2 => exact (Kd.R_reads' HO436.out).2.1); rintro e w33 ⟨rfl, hb⟩; replace HO436 := Aside0.mk (Kd.R_below (ra_ HO436.out) hb); replace HO442 := Aside0.mk (Kd.R_below (ra_ HO442.out) hb); replace HO448 := Aside0.mk (Kd.R_below (ra_ HO448.out) hb); replace HB := Aside0.mk (below_step bw_ hb); (try clear hb); (try clear hb2); (try clear hk); (try clear hi))))
    go_meet
    case rel => exact ⟨_, (true), fs_, H', ⟨by first | omega | exact Nat.le_refl _⟩, ⟨by (with_reducible repeat (first | apply Kd.R_alloc | apply Kd.R_drewN | apply Kd.R_drew)); exact Kd.R_mono HO436.out (fun _ hk => ⟨hk.1.2, hk.2⟩)⟩, ⟨by (with_reducible repeat (first | apply Kd.R_alloc | apply Kd.R_drewN | apply Kd.R_drew)); exact Kd.R_mono HO442.out (fun _ hk => ⟨hk.1.2, hk.2⟩)⟩, ⟨by (with_reducible repeat (first | apply Kd.R_alloc | apply Kd.R_drewN | apply Kd.R_drew)); exact Kd.R_mono HO448.out (fun _ hk => ⟨hk.1.2, hk.2⟩)⟩, ⟨bw_⟩⟩
  case rest =>
   clear HC9
   (try clear c1); (try clear c2); (try clear p2); (try clear c3); (try clear c5); (try clear c18); (try clear c18b0); (try clear c18b1); (try clear c19); (try clear c19b0); (try clear c19b1); (try clear c20); (try clear c20b0); (try clear c20b1); (try clear c21); (try clear c21b0); (try clear c21b1); (try clear c22); (try clear c22b0); (try clear c22b1); (try clear c23); (try clear c23b0); (try clear c23b1); (try clear c23b2)
   obtain ⟨kq, x67_8, rfl, HA, HJ8, HO_3, HO_4, HO_7, HB⟩ := hcut
   cases kq with
   | zero => exact absurd HA.out (by simp [drayagelaw03_LabelBack.j0])
   | succ kj8 =>
    have H := HA.out
    clear HA
    simp only [drayagelaw03_LabelBack.j0] at H
    by_cases c34 : x67_8 = true
    ·subst c34
     rw [if_pos rfl] at H
     obtain rfl := Option.some.inj H
     go_wp2
     repeat (go_quiet (fail); try go_wp2)
     go_ret
     exact ⟨fi_, bw_⟩
    ·replace c34 := Bool.eq_false_iff.mpr c34
     subst c34
     have H1 : (drayagelaw03_LabelBack.l0 kj8 l0 t434 t438 t444 0) = some r := by rw [if_neg (show ¬ (false = true) by decide)] at H; exact H
     clear H
     have H := H1
     clear H1
     have H' := Aside0.mk H
     clear H
     go_wp2
     repeat (go_quiet (fail); try go_wp2)
     go_loopg [10] kj8 (fun kq v10 w' => ∃ (x10_2 : Int), v10 = .int .i64 x10_2 ∧ Aside0 (drayagelaw03_LabelBack.l0 kq l0 t434 t438 t444 x10_2 = some r) ∧ Aside0 (kq ≤ kj8) ∧ Aside0 (Kd.R k43 43 w' w.heap.size (fun k_ => some k_ ≠ (v441 : Value).ownBlock ∧ some k_ ≠ (v447 : Value).ownBlock) (.slice Ao12 t434.length co12) t434) ∧ Aside0 (Kd.R k43 43 w' w.heap.size (fun k_ => some k_ ≠ ((.slice Ao12 t434.length co12) : Value).ownBlock ∧ some k_ ≠ (v447 : Value).ownBlock) v441 t438) ∧ Aside0 (Kd.R k43 43 w' w.heap.size (fun k_ => some k_ ≠ ((.slice Ao12 t434.length co12) : Value).ownBlock ∧ some k_ ≠ (v441 : Value).ownBlock) v447 t444) ∧ Aside0 (Below w.heap.size w w'))
     case atStart => exact ⟨(0), fs_, H', ⟨Nat.le_refl _⟩, ⟨by (with_reducible repeat (first | apply Kd.R_alloc | apply Kd.R_drewN | apply Kd.R_drew)); exact HO_3.out⟩, ⟨by (with_reducible repeat (first | apply Kd.R_alloc | apply Kd.R_drewN | apply Kd.R_drew)); exact HO_4.out⟩, ⟨by (with_reducible repeat (first | apply Kd.R_alloc | apply Kd.R_drewN | apply Kd.R_drew)); exact HO_7.out⟩, ⟨bw_⟩⟩
     case round =>
      clear H'
      (try clear c1); (try clear c2); (try clear p2); (try clear c3); (try clear c5); (try clear c18); (try clear c18b0); (try clear c18b1); (try clear c19); (try clear c19b0); (try clear c19b1); (try clear c20); (try clear c20b0); (try clear c20b1); (try clear c21); (try clear c21b0); (try clear c21b1); (try clear c22); (try clear c22b0); (try clear c22b1); (try clear c23); (try clear c23b0); (try clear c23b1); (try clear c23b2); (try clear c34); (try clear p2)
      obtain ⟨x10_2, rfl, HA, HK2, HO_3, HO_4, HO_7, HB⟩ := hrel
      cases gk with
      | zero => exact absurd HA.out (by simp [drayagelaw03_LabelBack.l0])
      | succ k2 =>
       have H := HA.out
       clear HA
       simp only [drayagelaw03_LabelBack.l0] at H
       by_cases c35 : x10_2 < (t434.length : Int)
       ·rw [if_pos c35] at H
        have c35b0 : decide (x10_2 < (t434.length : Int)) = true := decide_eq_true c35
        clear c35
        by_cases c36 : 0 ≤ x10_2
        ·rw [if_pos c36] at H
         have c36b0 : decide (0 ≤ x10_2) = true := decide_eq_true c36
         clear c36
         by_cases c37 : x10_2 < (t438.length : Int)
         ·rw [if_pos c37] at H
          have c37b0 : decide (x10_2 < (t438.length : Int)) = true := decide_eq_true c37
          clear c37
          by_cases c38 : (!((((rd_T43 t434 x10_2).f0).toList) == (((rd_T43 t438 x10_2).f0).toList)) || (!((((rd_T43 t434 x10_2).f1).toList) == (((rd_T43 t438 x10_2).f1).toList)))) = true
          ·rw [if_pos c38] at H
           have c38b0 : (!((((rd_T43 t434 x10_2).f0).toList) == (((rd_T43 t438 x10_2).f0).toList)) || (!((((rd_T43 t434 x10_2).f1).toList) == (((rd_T43 t438 x10_2).f1).toList)))) = true := c38
           clear c38
           obtain rfl := Option.some.inj H
           have p450 : 0 ≤ (x10_2 : Int) := of_decide_eq_true (by first | (with_reducible assumption) | assumption)
           have q450 : x10_2 < (t434.length : Int) := of_decide_eq_true (by first | (with_reducible assumption) | assumption)
           obtain ⟨ad450, e450, hx450_0, hx450_1⟩ := at_T43 (Kd.R_reads' HO_3.out).2.2 x10_2 p450 q450
           cases e450
           replace p450 := eq_true p450
           replace q450 := eq_true q450
           obtain ⟨Ao39, co39, eo39⟩ := Kd.R_slice HO_4.out
           subst eo39
           have p451 : 0 ≤ (x10_2 : Int) := of_decide_eq_true (by first | (with_reducible assumption) | assumption)
           have q451 : x10_2 < (t438.length : Int) := of_decide_eq_true (by first | (with_reducible assumption) | assumption)
           obtain ⟨ad451, e451, hx451_0, hx451_1⟩ := at_T43 (Kd.R_reads' HO_4.out).2.2 x10_2 p451 q451
           cases e451
           replace p451 := eq_true p451
           replace q451 := eq_true q451
           go_wp2
           repeat (go_quiet (fail); try go_wp2)
           go_ret
           exact ⟨fi_, bw_⟩
          ·rw [if_neg c38] at H
           have c38b0 : (!((((rd_T43 t434 x10_2).f0).toList) == (((rd_T43 t438 x10_2).f0).toList)) || (!((((rd_T43 t434 x10_2).f1).toList) == (((rd_T43 t438 x10_2).f1).toList)))) = false := by simpa using c38
           clear c38
           by_cases c40 : x10_2 < (t444.length : Int)
           ·rw [if_pos c40] at H
            have c40b0 : decide (x10_2 < (t444.length : Int)) = true := decide_eq_true c40
            clear c40
            by_cases c41 : (!((((rd_T43 t434 x10_2).f0).toList) == (((rd_T43 t444 x10_2).f0).toList)) || (!((((rd_T43 t434 x10_2).f1).toList) == (((rd_T43 t444 x10_2).f1).toList)))) = true
            ·rw [if_pos c41] at H
             have c41b0 : (!((((rd_T43 t434 x10_2).f0).toList) == (((rd_T43 t444 x10_2).f0).toList)) || (!((((rd_T43 t434 x10_2).f1).toList) == (((rd_T43 t444 x10_2).f1).toList)))) = true := c41
             clear c41
             obtain rfl := Option.some.inj H
             have p450 : 0 ≤ (x10_2 : Int) := of_decide_eq_true (by first | (with_reducible assumption) | assumption)
             have q450 : x10_2 < (t434.length : Int) := of_decide_eq_true (by first | (with_reducible assumption) | assumption)
             obtain ⟨ad450, e450, hx450_0, hx450_1⟩ := at_T43 (Kd.R_reads' HO_3.out).2.2 x10_2 p450 q450
             cases e450
             replace p450 := eq_true p450
             replace q450 := eq_true q450
             obtain ⟨Ao42, co42, eo42⟩ := Kd.R_slice HO_4.out
             subst eo42
             have p451 : 0 ≤ (x10_2 : Int) := of_decide_eq_true (by first | (with_reducible assumption) | assumption)
             have q451 : x10_2 < (t438.length : Int) := of_decide_eq_true (by first | (with_reducible assumption) | assumption)
             obtain ⟨ad451, e451, hx451_0, hx451_1⟩ := at_T43 (Kd.R_reads' HO_4.out).2.2 x10_2 p451 q451
             cases e451
             replace p451 := eq_true p451
             replace q451 := eq_true q451
             have p452 : 0 ≤ (x10_2 : Int) := of_decide_eq_true (by first | (with_reducible assumption) | assumption)
             have q452 : x10_2 < (t434.length : Int) := of_decide_eq_true (by first | (with_reducible assumption) | assumption)
             obtain ⟨ad452, e452, hx452_0, hx452_1⟩ := at_T43 (Kd.R_reads' HO_3.out).2.2 x10_2 p452 q452
             obtain rfl : ad450 = ad452 := (by injection e452)
             replace p452 := eq_true p452
             replace q452 := eq_true q452
             obtain ⟨Ao43, co43, eo43⟩ := Kd.R_slice HO_7.out
             subst eo43
             have p453 : 0 ≤ (x10_2 : Int) := of_decide_eq_true (by first | (with_reducible assumption) | assumption)
             have q453 : x10_2 < (t444.length : Int) := of_decide_eq_true (by first | (with_reducible assumption) | assumption)
             obtain ⟨ad453, e453, hx453_0, hx453_1⟩ := at_T43 (Kd.R_reads' HO_7.out).2.2 x10_2 p453 q453
             cases e453
             replace p453 := eq_true p453
             replace q453 := eq_true q453
             go_wp2
             repeat (go_quiet (fail); try go_wp2)
             go_ret
             exact ⟨fi_, bw_⟩
            ·rw [if_neg c41] at H
             have c41b0 : (!((((rd_T43 t434 x10_2).f0).toList) == (((rd_T43 t444 x10_2).f0).toList)) || (!((((rd_T43 t434 x10_2).f1).toList) == (((rd_T43 t444 x10_2).f1).toList)))) = false := by simpa using c41
             clear c41
             have H' := Aside0.mk H
             clear H
             have p450 : 0 ≤ (x10_2 : Int) := of_decide_eq_true (by first | (with_reducible assumption) | assumption)
             have q450 : x10_2 < (t434.length : Int) := of_decide_eq_true (by first | (with_reducible assumption) | assumption)
             obtain ⟨ad450, e450, hx450_0, hx450_1⟩ := at_T43 (Kd.R_reads' HO_3.out).2.2 x10_2 p450 q450
             cases e450
             replace p450 := eq_true p450
             replace q450 := eq_true q450
             obtain ⟨Ao44, co44, eo44⟩ := Kd.R_slice HO_4.out
             subst eo44
             have p451 : 0 ≤ (x10_2 : Int) := of_decide_eq_true (by first | (with_reducible assumption) | assumption)
             have q451 : x10_2 < (t438.length : Int) := of_decide_eq_true (by first | (with_reducible assumption) | assumption)
             obtain ⟨ad451, e451, hx451_0, hx451_1⟩ := at_T43 (Kd.R_reads' HO_4.out).2.2 x10_2 p451 q451
             cases e451
             replace p451 := eq_true p451
             replace q451 := eq_true q451
             have p452 : 0 ≤ (x10_2 : Int) := of_decide_eq_true (by first | (with_reducible assumption) | assumption)
             have q452 : x10_2 < (t434.length : Int) := of_decide_eq_true (by first | (with_reducible assumption) | assumption)
             obtain ⟨ad452, e452, hx452_0, hx452_1⟩ := at_T43 (Kd.R_reads' HO_3.out).2.2 x10_2 p452 q452
             obtain rfl : ad450 = ad452 := (by injection e452)
             replace p452 := eq_true p452
             replace q452 := eq_true q452
             obtain ⟨Ao45, co45, eo45⟩ := Kd.R_slice HO_7.out
             subst eo45
             have p453 : 0 ≤ (x10_2 : Int) := of_decide_eq_true (by first | (with_reducible assumption) | assumption)
             have q453 : x10_2 < (t444.length : Int) := of_decide_eq_true (by first | (with_reducible assumption) | assumption)
             obtain ⟨ad453, e453, hx453_0, hx453_1⟩ := at_T43 (Kd.R_reads' HO_7.out).2.2 x10_2 p453 q453
             cases e453
             replace p453 := eq_true p453
             replace q453 := eq_true q453
             go_wp2
             repeat (go_quiet (fail); try go_wp2)
             go_roundg k2
             case measure => have := HJ8.out; have := HK2.out; omega
             case rel => exact ⟨(wrap64 (x10_2 + 1)), fs_, H', ⟨by have := HJ8.out; have := HK2.out; omega⟩, ⟨by (with_reducible repeat (first | apply Kd.R_alloc | apply Kd.R_drewN | apply Kd.R_drew)); exact HO_3.out⟩, ⟨by (with_reducible repeat (first | apply Kd.R_alloc | apply Kd.R_drewN | apply Kd.R_drew)); exact HO_4.out⟩, ⟨by (with_reducible repeat (first | apply Kd.R_alloc | apply Kd.R_drewN | apply Kd.R_drew)); exact HO_7.out⟩, ⟨bw_⟩⟩
           ·rw [if_neg c40] at H
            exact absurd H (by simp)
         ·rw [if_neg c37] at H
          exact absurd H (by simp)
        ·rw [if_neg c36] at H
         exact absurd H (by simp)
       ·rw [if_neg c35] at H
        have c35b0 : decide (x10_2 < (t434.length : Int)) = false := decide_eq_false c35
        clear c35
        have HC46 := Aside0.mk H
        clear H
        go_upto_block 2 with (fail)
        repeat (go_quiet (fail); go_upto_block 2 with (fail))
        go_cut [11] (fun v11 wc => ∃ (kq : Nat) (x11_45 : List (S38)), Aside0 (drayagelaw03_LabelBack.j3 kq x11_45 = some r) ∧ Aside0 (kq ≤ k2) ∧ Aside0 (Kd.R k38 38 wc w.heap.size (fun _ => True) v11 x11_45) ∧ Aside0 (Below w.heap.size w wc))
        case first =>
         have H := HC46.out
         clear HC46
         have H' := Aside0.mk H
         clear H
         go_wp2
         repeat (go_quiet (fail); try go_wp2)
         go_loopg [11, 12] k2 (fun kq v11 v12 w' => ∃ (x11_3 : List (S38)) (x12_3 : Int), v12 = .int .i64 x12_3 ∧ Aside0 (drayagelaw03_LabelBack.l1 kq l0 x11_3 x12_3 = some r) ∧ Aside0 (kq ≤ k2) ∧ Aside0 (Kd.R k38 38 w' w.heap.size (fun _ => True) v11 x11_3) ∧ Aside0 (Below w.heap.size w w'))
         case atStart => exact ⟨(([] : List (S38))), (0), fs_, H', ⟨Nat.le_refl _⟩, ⟨by first | exact Kd.R_nil _ _ _ _ _ | exact Kd.N_nil _ _ _ _ _ | exact Kd.V_nil _ _ _ _ _ | exact Kd.Q_nil _ _ _ _ _ | exact Kd.S_nil _ _ _ _ _⟩, ⟨bw_⟩⟩
         case round =>
          clear H'
          (try clear c1); (try clear c2); (try clear p2); (try clear c3); (try clear c4); (try clear p4); (try clear q4); (try clear hx4); (try clear c5); (try clear p6); (try clear c18); (try clear c18b0); (try clear c18b1); (try clear c19); (try clear c19b0); (try clear c19b1); (try clear c20); (try clear c20b0); (try clear c20b1); (try clear c21); (try clear c21b0); (try clear c21b1); (try clear c22); (try clear c22b0); (try clear c22b1); (try clear c23); (try clear c23b0); (try clear c23b1); (try clear c23b2); (try clear c34); (try clear c35); (try clear c35b0); (try clear c36); (try clear c36b0); (try clear c37); (try clear c37b0); (try clear c38); (try clear c38b0); (try clear c40); (try clear c40b0); (try clear c41); (try clear c41b0); (try clear p45); (try clear q45); (try clear hx45); (try clear hx450_0); (try clear hx450_1); (try clear hx451_0); (try clear hx451_1); (try clear hx452_0)
          (try clear hx452_1); (try clear hx453_0); (try clear hx453_1); (try clear p2); (try clear p450); (try clear p451); (try clear p452); (try clear p453); (try clear q450); (try clear q451); (try clear q452); (try clear q453)
          obtain ⟨x11_3, x12_3, rfl, HA, HK3, HO_11, HB⟩ := hrel
          cases gk with
          | zero => exact absurd HA.out (by simp [drayagelaw03_LabelBack.l1])
          | succ k3 =>
           have H := HA.out
           clear HA
           simp only [drayagelaw03_LabelBack.l1] at H
           by_cases c47 : x12_3 < (l0.length : Int)
           ·rw [if_pos c47] at H
            have c47b0 : decide (x12_3 < (l0.length : Int)) = true := decide_eq_true c47
            clear c47
            (first | rw [c47b0] | (simp only [i64_w, i32_w]; rw [c47b0]) | skip)
            by_cases c48 : x12_3 < 6
            ·rw [if_pos c48] at H
             have c48b0 : decide (x12_3 < 6) = true := decide_eq_true c48
             clear c48
             by_cases c49 : 0 ≤ x12_3
             ·rw [if_pos c49] at H
              have c49b0 : decide (0 ≤ x12_3) = true := decide_eq_true c49
              clear c49
              replace H := Option.bind_eq_some_iff.mp H
              obtain ⟨⟨t455, t456, t457⟩, A500, H⟩ := H
              try dsimp only at H
              have A50 := Aside0.mk A500
              clear A500
              by_cases c51 : x11_3.length < 3518437208883
              ·rw [if_pos c51] at H
               have LMc51 := Aside0.mk c51
               clear c51
               obtain ⟨y458, hy458⟩ : ∃ y_ : List (S38), y_ = (x11_3 ++ [(⟨t455, t456, t457⟩ : S38)]) := ⟨_, rfl⟩
               replace H : (drayagelaw03_LabelBack.l1 k3 l0 y458 (wrap64 (x12_3 + 1))) = some r := by first | (rw [hy458]; with_reducible exact H) | (have H2_ := (Option.bind_some _ _).symm.trans H; rw [hy458]; with_reducible exact H2_) | (have H2_ := (Option.bind_some _ _).symm.trans H; with_reducible exact H2_) | with_reducible exact H | (rw [hy458]; exact H) | exact H
               have Ny458 := Aside0.mk hy458
               clear hy458
               have H' := Aside0.mk H
               clear H
               have p454 : 0 ≤ (x12_3 : Int) := of_decide_eq_true (by first | (with_reducible assumption) | assumption)
               have q454 : x12_3 < (l0.length : Int) := of_decide_eq_true (by first | (with_reducible assumption) | assumption)
               obtain ⟨ad454, e454, hx454_0, hx454_1, hx454_2⟩ := at_T35 HR0.out x12_3 p454 q454
               cases e454
               replace hx454_0 := (HB.out.cell (World.block_lt_of_cell? w _ hx454_0)).trans hx454_0
               replace hx454_1 := (HB.out.cell (World.block_lt_of_cell? w _ hx454_1)).trans hx454_1
               replace hx454_2 := (HB.out.cell (World.block_lt_of_cell? w _ hx454_2)).trans hx454_2
               replace p454 := eq_true p454
               replace q454 := eq_true q454
               go_wp2_with (first | (go_at_call 18; (with_reducible refine (drayagelaw03_term.calls ((rd_T35 l0 x12_3).f0) ((rd_T35 l0 x12_3).f1) ((rd_T35 l0 x12_3).f2) t455 t456 t457 _ A50.out).mono ?_); rintro e w52 ⟨rfl, hb⟩; replace HO_11 := Aside0.mk (Kd.R_below (ra_ HO_11.out) hb); replace HB := Aside0.mk (below_step bw_ hb); (try clear hb); (try clear hb2); (try clear hk); (try clear hi)) | ((with_reducible refine gate_builtin (b := .append) (xs := #[.tmp 104, .tmp 110]) rfl ?_); (try (refine gate_guard (by rfl) ?_; dsimp only)); at_builtin; refine Kd.R_append k38 (w0 := w) w.heap.size rfl (.tmp 104) (.tmp 110) 26 38 (.agg #[(.int .i64 0), (.string ⟨#[]⟩), (.string ⟨#[]⟩)]) 40 rfl Try.underlying26 info38 rfl (by decide) (by omega) u11 x11_3 (⟨t455, t456, t457⟩ : S38) [.int .i64 t455, .string t456, .string t457] (fun _ => True) (fun _ => False) rfl rfl ?aP (fun _ hk => hk.elim) ?aF ?aO ?aB ?aS ?aL ?_; (case aP => exact k38_mkM _ _ _ (⟨t455, t456, t457⟩ : S38)); (case aB => exact bw_); (case aF => exact (fun _ _ => trivial)); (case aO => exact (ra_ HO_11.out)); (case aS => exact (below_size bw_)); (case aL => have := LMc51.out; omega); intro v459 w53 ho hb hg hat; rw [← Ny458.out] at ho; replace HB := Aside0.mk (hb); have HO460 := Aside0.mk (ho); clear HO_11; clear ho hb hg hat))
               repeat (go_quiet (first | (go_at_call 18; (with_reducible refine (drayagelaw03_term.calls ((rd_T35 l0 x12_3).f0) ((rd_T35 l0 x12_3).f1) ((rd_T35 l0 x12_3).f2) t455 t456 t457 _ A50.out).mono ?_); rintro e w52 ⟨rfl, hb⟩; replace HO_11 := Aside0.mk (Kd.R_below (ra_ HO_11.out) hb); replace HB := Aside0.mk (below_step bw_ hb); (try clear hb); (try clear hb2); (try clear hk); (try clear hi)) | ((with_reducible refine gate_builtin (b := .append) (xs := #[.tmp 104, .tmp 110]) rfl ?_); (try (refine gate_guard (by rfl) ?_; dsimp only)); at_builtin; refine Kd.R_append k38 (w0 := w) w.heap.size rfl (.tmp 104) (.tmp 110) 26 38 (.agg #[(.int .i64 0), (.string ⟨#[]⟩), (.string ⟨#[]⟩)]) 40 rfl Try.underlying26 info38 rfl (by decide) (by omega) u11 x11_3 (⟨t455, t456, t457⟩ : S38) [.int .i64 t455, .string t456, .string t457] (fun _ => True) (fun _ => False) rfl rfl ?aP (fun _ hk => hk.elim) ?aF ?aO ?aB ?aS ?aL ?_; (case aP => exact k38_mkM _ _ _ (⟨t455, t456, t457⟩ : S38)); (case aB => exact bw_); (case aF => exact (fun _ _ => trivial)); (case aO => exact (ra_ HO_11.out)); (case aS => exact (below_size bw_)); (case aL => have := LMc51.out; omega); intro v459 w53 ho hb hg hat; rw [← Ny458.out] at ho; replace HB := Aside0.mk (hb); have HO460 := Aside0.mk (ho); clear HO_11; clear ho hb hg hat)); try go_wp2_with (first | (go_at_call 18; (with_reducible refine (drayagelaw03_term.calls ((rd_T35 l0 x12_3).f0) ((rd_T35 l0 x12_3).f1) ((rd_T35 l0 x12_3).f2) t455 t456 t457 _ A50.out).mono ?_); rintro e w52 ⟨rfl, hb⟩; replace HO_11 := Aside0.mk (Kd.R_below (ra_ HO_11.out) hb); replace HB := Aside0.mk (below_step bw_ hb); (try clear hb); (try clear hb2); (try clear hk); (try clear hi)) | ((with_reducible refine gate_builtin (b := .append) (xs := #[.tmp 104, .tmp 110]) rfl ?_); (try (refine gate_guard (by rfl) ?_; dsimp only)); at_builtin; refine Kd.R_append k38 (w0 := w) w.heap.size rfl (.tmp 104) (.tmp 110) 26 38 (.agg #[(.int .i64 0), (.string ⟨#[]⟩), (.string ⟨#[]⟩)]) 40 rfl Try.underlying26 info38 rfl (by decide) (by omega) u11 x11_3 (⟨t455, t456, t457⟩ : S38) [.int .i64 t455, .string t456, .string t457] (fun _ => True) (fun _ => False) rfl rfl ?aP (fun _ hk => hk.elim) ?aF ?aO ?aB ?aS ?aL ?_; (case aP => exact k38_mkM _ _ _ (⟨t455, t456, t457⟩ : S38)); (case aB => exact bw_); (case aF => exact (fun _ _ => trivial)); (case aO => exact (ra_ HO_11.out)); (case aS => exact (below_size bw_)); (case aL => have := LMc51.out; omega); intro v459 w53 ho hb hg hat; rw [← Ny458.out] at ho; replace HB := Aside0.mk (hb); have HO460 := Aside0.mk (ho); clear HO_11; clear ho hb hg hat)))
               go_roundg k3
               case measure => have := HJ8.out; have := HK2.out; have := HK3.out; omega
               case rel => exact ⟨(y458), (wrap64 (x12_3 + 1)), fs_, H', ⟨by have := HJ8.out; have := HK2.out; have := HK3.out; omega⟩, ⟨by (with_reducible repeat (first | apply Kd.R_alloc | apply Kd.R_drewN | apply Kd.R_drew)); exact HO460.out⟩, ⟨bw_⟩⟩
              ·rw [if_neg c51] at H
               exact absurd H (by simp)
             ·rw [if_neg c49] at H
              exact absurd H (by simp)
            ·rw [if_neg c48] at H
             have c48b0 : decide (x12_3 < 6) = false := decide_eq_false c48
             clear c48
             have H' := Aside0.mk H
             clear H
             go_wp2
             repeat (go_quiet (fail); try go_wp2)
             go_meet
             case rel => exact ⟨_, (x11_3), H', ⟨by have := HJ8.out; have := HK2.out; have := HK3.out; first | omega | exact Nat.le_refl _⟩, ⟨by (with_reducible repeat (first | apply Kd.R_alloc | apply Kd.R_drewN | apply Kd.R_drew)); exact HO_11.out⟩, ⟨bw_⟩⟩
           ·rw [if_neg c47] at H
            have c47b0 : decide (x12_3 < (l0.length : Int)) = false := decide_eq_false c47
            clear c47
            (first | rw [c47b0] | (simp only [i64_w, i32_w]; rw [c47b0]) | skip)
            have H' := Aside0.mk H
            clear H
            go_wp2
            repeat (go_quiet (fail); try go_wp2)
            go_meet
            case rel => exact ⟨_, (x11_3), H', ⟨by have := HJ8.out; have := HK2.out; have := HK3.out; first | omega | exact Nat.le_refl _⟩, ⟨by (with_reducible repeat (first | apply Kd.R_alloc | apply Kd.R_drewN | apply Kd.R_drew)); exact HO_11.out⟩, ⟨bw_⟩⟩
        case rest =>
         clear HC46
         (try clear c1); (try clear c2); (try clear p2); (try clear c3); (try clear c4); (try clear p4); (try clear q4); (try clear hx4); (try clear c5); (try clear p6); (try clear c18); (try clear c18b0); (try clear c18b1); (try clear c19); (try clear c19b0); (try clear c19b1); (try clear c20); (try clear c20b0); (try clear c20b1); (try clear c21); (try clear c21b0); (try clear c21b1); (try clear c22); (try clear c22b0); (try clear c22b1); (try clear c23); (try clear c23b0); (try clear c23b1); (try clear c23b2); (try clear c34); (try clear c35); (try clear c35b0); (try clear c36); (try clear c36b0); (try clear c37); (try clear c37b0); (try clear c38); (try clear c38b0); (try clear c40); (try clear c40b0); (try clear c41); (try clear c41b0); (try clear p45); (try clear q45); (try clear hx45); (try clear c47); (try clear c47b0); (try clear c48); (try clear c48b0); (try clear c49)
         (try clear c49b0); (try clear c51); (try clear hx450_0); (try clear hx450_1); (try clear hx451_0); (try clear hx451_1); (try clear hx452_0); (try clear hx452_1); (try clear hx453_0); (try clear hx453_1); (try clear hx454_0); (try clear hx454_1); (try clear hx454_2); (try clear p2); (try clear p4); (try clear p45); (try clear p450); (try clear p451); (try clear p452); (try clear p453); (try clear p454); (try clear p6); (try clear q4); (try clear q45); (try clear q450); (try clear q451); (try clear q452); (try clear q453); (try clear q454)
         obtain ⟨kq, x11_45, HA, HJ45, HO_11, HB⟩ := hcut
         cases kq with
         | zero => exact absurd HA.out (by simp [drayagelaw03_LabelBack.j3])
         | succ kj45 =>
          have H := HA.out
          clear HA
          simp only [drayagelaw03_LabelBack.j3] at H
          replace H := Option.bind_eq_some_iff.mp H
          obtain ⟨t461, A540, H⟩ := H
          try dsimp only at H
          have A54 := Aside0.mk A540
          clear A540
          replace H := Option.bind_eq_some_iff.mp H
          obtain ⟨⟨t462, t463, t464⟩, A550, H⟩ := H
          try dsimp only at H
          have A55 := Aside0.mk A550
          clear A550
          have HC56 := Aside0.mk H
          clear H
          obtain ⟨Ao57, co57, eo57⟩ := Kd.R_slice HO_11.out
          subst eo57
          go_upto_region 19 with (first | (go_at_call 24; (with_reducible refine (label_PrintTerms.calls _ _ x11_45 t461 _ ?side1 ?side2 A54.out).mono ?_); (case side1 => repeat (first | exact (Kd.R_reads' HO_11.out).2.2 | (with_reducible refine Kd.C_alloc ?_ _) | (with_reducible refine Kd.C_drewN ?_ _) | (with_reducible refine Kd.C_drew ?_))); (case side2 => exact (Kd.R_reads' HO_11.out).2.1); rintro e w58 ⟨rfl, hb⟩; replace HO_11 := Aside0.mk (Kd.R_below (ra_ HO_11.out) hb); replace HB := Aside0.mk (below_step bw_ hb); (try clear hb); (try clear hb2); (try clear hk); (try clear hi)) | (go_at_call 12; (with_reducible refine (label_Terms.calls t461 t462 t463 t464 _ A55.out).mono ?_); rintro e w59 ⟨v465, rfl, ho0, hb⟩; have HO466 := Aside0.mk (Kd.R_lower (Kd.R_new' ho0 (Kd.R_lt (ra_ HO_11.out))) (below_size bw_)); replace HO_11 := Aside0.mk (Kd.R_elder' (ra_ HO_11.out) (Kd.R_base ho0) hb); replace HB := Aside0.mk (below_step bw_ hb); (try clear hb); (try clear hb2); (try clear hk); (try clear hi); (try clear ho0)))
          repeat (go_quiet (first | (go_at_call 24; (with_reducible refine (label_PrintTerms.calls _ _ x11_45 t461 _ ?side1 ?side2 A54.out).mono ?_); (case side1 => repeat (first | exact (Kd.R_reads' HO_11.out).2.2 | (with_reducible refine Kd.C_alloc ?_ _) | (with_reducible refine Kd.C_drewN ?_ _) | (with_reducible refine Kd.C_drew ?_))); (case side2 => exact (Kd.R_reads' HO_11.out).2.1); rintro e w58 ⟨rfl, hb⟩; replace HO_11 := Aside0.mk (Kd.R_below (ra_ HO_11.out) hb); replace HB := Aside0.mk (below_step bw_ hb); (try clear hb); (try clear hb2); (try clear hk); (try clear hi)) | (go_at_call 12; (with_reducible refine (label_Terms.calls t461 t462 t463 t464 _ A55.out).mono ?_); rintro e w59 ⟨v465, rfl, ho0, hb⟩; have HO466 := Aside0.mk (Kd.R_lower (Kd.R_new' ho0 (Kd.R_lt (ra_ HO_11.out))) (below_size bw_)); replace HO_11 := Aside0.mk (Kd.R_elder' (ra_ HO_11.out) (Kd.R_base ho0) hb); replace HB := Aside0.mk (below_step bw_ hb); (try clear hb); (try clear hb2); (try clear hk); (try clear hi); (try clear ho0))); go_upto_region 19 with (first | (go_at_call 24; (with_reducible refine (label_PrintTerms.calls _ _ x11_45 t461 _ ?side1 ?side2 A54.out).mono ?_); (case side1 => repeat (first | exact (Kd.R_reads' HO_11.out).2.2 | (with_reducible refine Kd.C_alloc ?_ _) | (with_reducible refine Kd.C_drewN ?_ _) | (with_reducible refine Kd.C_drew ?_))); (case side2 => exact (Kd.R_reads' HO_11.out).2.1); rintro e w58 ⟨rfl, hb⟩; replace HO_11 := Aside0.mk (Kd.R_below (ra_ HO_11.out) hb); replace HB := Aside0.mk (below_step bw_ hb); (try clear hb); (try clear hb2); (try clear hk); (try clear hi)) | (go_at_call 12; (with_reducible refine (label_Terms.calls t461 t462 t463 t464 _ A55.out).mono ?_); rintro e w59 ⟨v465, rfl, ho0, hb⟩; have HO466 := Aside0.mk (Kd.R_lower (Kd.R_new' ho0 (Kd.R_lt (ra_ HO_11.out))) (below_size bw_)); replace HO_11 := Aside0.mk (Kd.R_elder' (ra_ HO_11.out) (Kd.R_base ho0) hb); replace HB := Aside0.mk (below_step bw_ hb); (try clear hb); (try clear hb2); (try clear hk); (try clear hi); (try clear ho0))))
          (try simp only [Act.put, List.setIfInBounds_toArray, List.set_cons_zero, List.set_cons_succ])
          go_cut [136] (fun v136 wc => ∃ (kq : Nat) (x136_55 : Bool), v136 = .bool x136_55 ∧ Aside0 (drayagelaw03_LabelBack.j4 kq x11_45 t462 x136_55 = some r) ∧ Aside0 (kq ≤ kj45) ∧ Aside0 (Kd.R k38 38 wc w.heap.size (fun k_ => some k_ ≠ (v465 : Value).ownBlock) (.slice Ao57 x11_45.length co57) x11_45) ∧ Aside0 (Kd.R k38 38 wc w.heap.size (fun k_ => some k_ ≠ ((.slice Ao57 x11_45.length co57) : Value).ownBlock) v465 t462) ∧ Aside0 (Below w.heap.size w wc))
          case first =>
           have H := HC56.out
           clear HC56
           replace H := Option.bind_eq_some_iff.mp H
           obtain ⟨t467, A600, H⟩ := H
           try dsimp only at H
           have A60 := Aside0.mk A600
           clear A600
           by_cases c61 : t467 = 0
           ·rw [if_pos c61] at H
            have c61b0 : (t467 == 0) = true := beq_iff_eq.mpr c61
            have c61b1 : (t467 != 0) = false := bne_eq_false_iff_eq.mpr c61
            clear c61
            (first | rw [c61b0] | (simp only [i64_w, i32_w]; rw [c61b0]) | skip)
            by_cases c62 : t464 = 0
            ·rw [if_pos c62] at H
             have c62b0 : (t464 == 0) = true := beq_iff_eq.mpr c62
             have c62b1 : (t464 != 0) = false := bne_eq_false_iff_eq.mpr c62
             clear c62
             by_cases c63 : t463 = 0
             ·rw [if_pos c63] at H
              have c63b0 : (t463 == 0) = true := beq_iff_eq.mpr c63
              have c63b1 : (t463 != 0) = false := bne_eq_false_iff_eq.mpr c63
              clear c63
              have H' := Aside0.mk H
              clear H
              go_wp2_with (first | (go_at_call 25; (with_reducible refine (label_CheckTerms.calls kj45 _ _ x11_45 t467 _ ?side1 ?side2 A60.out).mono ?_); (case side1 => repeat (first | exact (Kd.R_reads' HO_11.out).2.2 | (with_reducible refine Kd.C_alloc ?_ _) | (with_reducible refine Kd.C_drewN ?_ _) | (with_reducible refine Kd.C_drew ?_))); (case side2 => exact (Kd.R_reads' HO_11.out).2.1); rintro e w64 ⟨rfl, hb⟩; replace HO_11 := Aside0.mk (Kd.R_below (ra_ HO_11.out) hb); replace HO466 := Aside0.mk (Kd.R_below (ra_ HO466.out) hb); replace HB := Aside0.mk (below_step bw_ hb); (try clear hb); (try clear hb2); (try clear hk); (try clear hi); obtain ⟨Ao65, co65, eo65⟩ := Kd.R_slice HO466.out; subst eo65))
              repeat (go_quiet (first | (go_at_call 25; (with_reducible refine (label_CheckTerms.calls kj45 _ _ x11_45 t467 _ ?side1 ?side2 A60.out).mono ?_); (case side1 => repeat (first | exact (Kd.R_reads' HO_11.out).2.2 | (with_reducible refine Kd.C_alloc ?_ _) | (with_reducible refine Kd.C_drewN ?_ _) | (with_reducible refine Kd.C_drew ?_))); (case side2 => exact (Kd.R_reads' HO_11.out).2.1); rintro e w64 ⟨rfl, hb⟩; replace HO_11 := Aside0.mk (Kd.R_below (ra_ HO_11.out) hb); replace HO466 := Aside0.mk (Kd.R_below (ra_ HO466.out) hb); replace HB := Aside0.mk (below_step bw_ hb); (try clear hb); (try clear hb2); (try clear hk); (try clear hi); obtain ⟨Ao65, co65, eo65⟩ := Kd.R_slice HO466.out; subst eo65)); try go_wp2_with (first | (go_at_call 25; (with_reducible refine (label_CheckTerms.calls kj45 _ _ x11_45 t467 _ ?side1 ?side2 A60.out).mono ?_); (case side1 => repeat (first | exact (Kd.R_reads' HO_11.out).2.2 | (with_reducible refine Kd.C_alloc ?_ _) | (with_reducible refine Kd.C_drewN ?_ _) | (with_reducible refine Kd.C_drew ?_))); (case side2 => exact (Kd.R_reads' HO_11.out).2.1); rintro e w64 ⟨rfl, hb⟩; replace HO_11 := Aside0.mk (Kd.R_below (ra_ HO_11.out) hb); replace HO466 := Aside0.mk (Kd.R_below (ra_ HO466.out) hb); replace HB := Aside0.mk (below_step bw_ hb); (try clear hb); (try clear hb2); (try clear hk); (try clear hi); obtain ⟨Ao65, co65, eo65⟩ := Kd.R_slice HO466.out; subst eo65)))
              go_meet
              case rel => exact ⟨_, (((x11_45.length : Int) != (t462.length : Int))), fs_, H', ⟨by have := HJ8.out; have := HK2.out; have := HJ45.out; first | omega | exact Nat.le_refl _⟩, ⟨by (with_reducible repeat (first | apply Kd.R_alloc | apply Kd.R_drewN | apply Kd.R_drew)); exact Kd.R_mono HO_11.out (fun _ hk => hk.2)⟩, ⟨by (with_reducible repeat (first | apply Kd.R_alloc | apply Kd.R_drewN | apply Kd.R_drew)); exact Kd.R_mono HO466.out (fun _ hk => hk.2)⟩, ⟨bw_⟩⟩
             ·rw [if_neg c63] at H
              have c63b0 : (t463 == 0) = false := beq_eq_false_iff_ne.mpr c63
              have c63b1 : (t463 != 0) = true := bne_iff_ne.mpr c63
              have H' := Aside0.mk H
              clear H
              go_wp2_with (first | (go_at_call 25; (with_reducible refine (label_CheckTerms.calls kj45 _ _ x11_45 t467 _ ?side1 ?side2 A60.out).mono ?_); (case side1 => repeat (first | exact (Kd.R_reads' HO_11.out).2.2 | (with_reducible refine Kd.C_alloc ?_ _) | (with_reducible refine Kd.C_drewN ?_ _) | (with_reducible refine Kd.C_drew ?_))); (case side2 => exact (Kd.R_reads' HO_11.out).2.1); rintro e w66 ⟨rfl, hb⟩; replace HO_11 := Aside0.mk (Kd.R_below (ra_ HO_11.out) hb); replace HO466 := Aside0.mk (Kd.R_below (ra_ HO466.out) hb); replace HB := Aside0.mk (below_step bw_ hb); (try clear hb); (try clear hb2); (try clear hk); (try clear hi)))
              repeat (go_quiet (first | (go_at_call 25; (with_reducible refine (label_CheckTerms.calls kj45 _ _ x11_45 t467 _ ?side1 ?side2 A60.out).mono ?_); (case side1 => repeat (first | exact (Kd.R_reads' HO_11.out).2.2 | (with_reducible refine Kd.C_alloc ?_ _) | (with_reducible refine Kd.C_drewN ?_ _) | (with_reducible refine Kd.C_drew ?_))); (case side2 => exact (Kd.R_reads' HO_11.out).2.1); rintro e w66 ⟨rfl, hb⟩; replace HO_11 := Aside0.mk (Kd.R_below (ra_ HO_11.out) hb); replace HO466 := Aside0.mk (Kd.R_below (ra_ HO466.out) hb); replace HB := Aside0.mk (below_step bw_ hb); (try clear hb); (try clear hb2); (try clear hk); (try clear hi))); try go_wp2_with (first | (go_at_call 25; (with_reducible refine (label_CheckTerms.calls kj45 _ _ x11_45 t467 _ ?side1 ?side2 A60.out).mono ?_); (case side1 => repeat (first | exact (Kd.R_reads' HO_11.out).2.2 | (with_reducible refine Kd.C_alloc ?_ _) | (with_reducible refine Kd.C_drewN ?_ _) | (with_reducible refine Kd.C_drew ?_))); (case side2 => exact (Kd.R_reads' HO_11.out).2.1); rintro e w66 ⟨rfl, hb⟩; replace HO_11 := Aside0.mk (Kd.R_below (ra_ HO_11.out) hb); replace HO466 := Aside0.mk (Kd.R_below (ra_ HO466.out) hb); replace HB := Aside0.mk (below_step bw_ hb); (try clear hb); (try clear hb2); (try clear hk); (try clear hi))))
              go_meet
              case rel => exact ⟨_, (true), fs_, H', ⟨by have := HJ8.out; have := HK2.out; have := HJ45.out; first | omega | exact Nat.le_refl _⟩, ⟨by (with_reducible repeat (first | apply Kd.R_alloc | apply Kd.R_drewN | apply Kd.R_drew)); exact Kd.R_mono HO_11.out (fun _ hk => hk.2)⟩, ⟨by (with_reducible repeat (first | apply Kd.R_alloc | apply Kd.R_drewN | apply Kd.R_drew)); exact Kd.R_mono HO466.out (fun _ hk => hk.2)⟩, ⟨bw_⟩⟩
            ·rw [if_neg c62] at H
             have c62b0 : (t464 == 0) = false := beq_eq_false_iff_ne.mpr c62
             have c62b1 : (t464 != 0) = true := bne_iff_ne.mpr c62
             have H' := Aside0.mk H
             clear H
             go_wp2_with (first | (go_at_call 25; (with_reducible refine (label_CheckTerms.calls kj45 _ _ x11_45 t467 _ ?side1 ?side2 A60.out).mono ?_); (case side1 => repeat (first | exact (Kd.R_reads' HO_11.out).2.2 | (with_reducible refine Kd.C_alloc ?_ _) | (with_reducible refine Kd.C_drewN ?_ _) | (with_reducible refine Kd.C_drew ?_))); (case side2 => exact (Kd.R_reads' HO_11.out).2.1); rintro e w67 ⟨rfl, hb⟩; replace HO_11 := Aside0.mk (Kd.R_below (ra_ HO_11.out) hb); replace HO466 := Aside0.mk (Kd.R_below (ra_ HO466.out) hb); replace HB := Aside0.mk (below_step bw_ hb); (try clear hb); (try clear hb2); (try clear hk); (try clear hi)))
             repeat (go_quiet (first | (go_at_call 25; (with_reducible refine (label_CheckTerms.calls kj45 _ _ x11_45 t467 _ ?side1 ?side2 A60.out).mono ?_); (case side1 => repeat (first | exact (Kd.R_reads' HO_11.out).2.2 | (with_reducible refine Kd.C_alloc ?_ _) | (with_reducible refine Kd.C_drewN ?_ _) | (with_reducible refine Kd.C_drew ?_))); (case side2 => exact (Kd.R_reads' HO_11.out).2.1); rintro e w67 ⟨rfl, hb⟩; replace HO_11 := Aside0.mk (Kd.R_below (ra_ HO_11.out) hb); replace HO466 := Aside0.mk (Kd.R_below (ra_ HO466.out) hb); replace HB := Aside0.mk (below_step bw_ hb); (try clear hb); (try clear hb2); (try clear hk); (try clear hi))); try go_wp2_with (first | (go_at_call 25; (with_reducible refine (label_CheckTerms.calls kj45 _ _ x11_45 t467 _ ?side1 ?side2 A60.out).mono ?_); (case side1 => repeat (first | exact (Kd.R_reads' HO_11.out).2.2 | (with_reducible refine Kd.C_alloc ?_ _) | (with_reducible refine Kd.C_drewN ?_ _) | (with_reducible refine Kd.C_drew ?_))); (case side2 => exact (Kd.R_reads' HO_11.out).2.1); rintro e w67 ⟨rfl, hb⟩; replace HO_11 := Aside0.mk (Kd.R_below (ra_ HO_11.out) hb); replace HO466 := Aside0.mk (Kd.R_below (ra_ HO466.out) hb); replace HB := Aside0.mk (below_step bw_ hb); (try clear hb); (try clear hb2); (try clear hk); (try clear hi))))
             go_meet
             case rel => exact ⟨_, (true), fs_, H', ⟨by have := HJ8.out; have := HK2.out; have := HJ45.out; first | omega | exact Nat.le_refl _⟩, ⟨by (with_reducible repeat (first | apply Kd.R_alloc | apply Kd.R_drewN | apply Kd.R_drew)); exact Kd.R_mono HO_11.out (fun _ hk => hk.2)⟩, ⟨by (with_reducible repeat (first | apply Kd.R_alloc | apply Kd.R_drewN | apply Kd.R_drew)); exact Kd.R_mono HO466.out (fun _ hk => hk.2)⟩, ⟨bw_⟩⟩
           ·rw [if_neg c61] at H
            have c61b0 : (t467 == 0) = false := beq_eq_false_iff_ne.mpr c61
            have c61b1 : (t467 != 0) = true := bne_iff_ne.mpr c61
            (first | rw [c61b0] | (simp only [i64_w, i32_w]; rw [c61b0]) | skip)
            have H' := Aside0.mk H
            clear H
            go_wp2_with (first | (go_at_call 25; (with_reducible refine (label_CheckTerms.calls kj45 _ _ x11_45 t467 _ ?side1 ?side2 A60.out).mono ?_); (case side1 => repeat (first | exact (Kd.R_reads' HO_11.out).2.2 | (with_reducible refine Kd.C_alloc ?_ _) | (with_reducible refine Kd.C_drewN ?_ _) | (with_reducible refine Kd.C_drew ?_))); (case side2 => exact (Kd.R_reads' HO_11.out).2.1); rintro e w68 ⟨rfl, hb⟩; replace HO_11 := Aside0.mk (Kd.R_below (ra_ HO_11.out) hb); replace HO466 := Aside0.mk (Kd.R_below (ra_ HO466.out) hb); replace HB := Aside0.mk (below_step bw_ hb); (try clear hb); (try clear hb2); (try clear hk); (try clear hi)))
            repeat (go_quiet (first | (go_at_call 25; (with_reducible refine (label_CheckTerms.calls kj45 _ _ x11_45 t467 _ ?side1 ?side2 A60.out).mono ?_); (case side1 => repeat (first | exact (Kd.R_reads' HO_11.out).2.2 | (with_reducible refine Kd.C_alloc ?_ _) | (with_reducible refine Kd.C_drewN ?_ _) | (with_reducible refine Kd.C_drew ?_))); (case side2 => exact (Kd.R_reads' HO_11.out).2.1); rintro e w68 ⟨rfl, hb⟩; replace HO_11 := Aside0.mk (Kd.R_below (ra_ HO_11.out) hb); replace HO466 := Aside0.mk (Kd.R_below (ra_ HO466.out) hb); replace HB := Aside0.mk (below_step bw_ hb); (try clear hb); (try clear hb2); (try clear hk); (try clear hi))); try go_wp2_with (first | (go_at_call 25; (with_reducible refine (label_CheckTerms.calls kj45 _ _ x11_45 t467 _ ?side1 ?side2 A60.out).mono ?_); (case side1 => repeat (first | exact (Kd.R_reads' HO_11.out).2.2 | (with_reducible refine Kd.C_alloc ?_ _) | (with_reducible refine Kd.C_drewN ?_ _) | (with_reducible refine Kd.C_drew ?_))); (case side2 => exact (Kd.R_reads' HO_11.out).2.1); rintro e w68 ⟨rfl, hb⟩; replace HO_11 := Aside0.mk (Kd.R_below (ra_ HO_11.out) hb); replace HO466 := Aside0.mk (Kd.R_below (ra_ HO466.out) hb); replace HB := Aside0.mk (below_step bw_ hb); (try clear hb); (try clear hb2); (try clear hk); (try clear hi))))
            go_meet
            case rel => exact ⟨_, (true), fs_, H', ⟨by have := HJ8.out; have := HK2.out; have := HJ45.out; first | omega | exact Nat.le_refl _⟩, ⟨by (with_reducible repeat (first | apply Kd.R_alloc | apply Kd.R_drewN | apply Kd.R_drew)); exact Kd.R_mono HO_11.out (fun _ hk => hk.2)⟩, ⟨by (with_reducible repeat (first | apply Kd.R_alloc | apply Kd.R_drewN | apply Kd.R_drew)); exact Kd.R_mono HO466.out (fun _ hk => hk.2)⟩, ⟨bw_⟩⟩
          case rest =>
           clear HC56
           (try clear c1); (try clear c2); (try clear p2); (try clear c3); (try clear c4); (try clear p4); (try clear q4); (try clear hx4); (try clear c5); (try clear c6); (try clear p6); (try clear c18); (try clear c18b0); (try clear c18b1); (try clear c19); (try clear c19b0); (try clear c19b1); (try clear c20); (try clear c20b0); (try clear c20b1); (try clear c21); (try clear c21b0); (try clear c21b1); (try clear c22); (try clear c22b0); (try clear c22b1); (try clear c23); (try clear c23b0); (try clear c23b1); (try clear c23b2); (try clear c34); (try clear c35); (try clear c35b0); (try clear c36); (try clear c36b0); (try clear c37); (try clear c37b0); (try clear c38); (try clear c38b0); (try clear c40); (try clear c40b0); (try clear c41); (try clear c41b0); (try clear p45); (try clear q45); (try clear hx45); (try clear c47); (try clear c47b0); (try clear c48); (try clear c48b0)
           (try clear c49); (try clear c49b0); (try clear c51); (try clear c61); (try clear c61b0); (try clear c61b1); (try clear c62); (try clear c62b0); (try clear c62b1); (try clear c63); (try clear c63b0); (try clear c63b1); (try clear p64); (try clear hx450_0); (try clear hx450_1); (try clear hx451_0); (try clear hx451_1); (try clear hx452_0); (try clear hx452_1); (try clear hx453_0); (try clear hx453_1); (try clear hx454_0); (try clear hx454_1); (try clear hx454_2); (try clear p2); (try clear p4); (try clear p45); (try clear p450); (try clear p451); (try clear p452); (try clear p453); (try clear p454); (try clear p6); (try clear q4); (try clear q45); (try clear q450); (try clear q451); (try clear q452); (try clear q453); (try clear q454)
           obtain ⟨kq, x136_55, rfl, HA, HJ55, HO_11, HO_13, HB⟩ := hcut
           cases kq with
           | zero => exact absurd HA.out (by simp [drayagelaw03_LabelBack.j4])
           | succ kj55 =>
            have H := HA.out
            clear HA
            simp only [drayagelaw03_LabelBack.j4] at H
            by_cases c69 : x136_55 = true
            ·subst c69
             rw [if_pos rfl] at H
             obtain rfl := Option.some.inj H
             go_wp2
             repeat (go_quiet (fail); try go_wp2)
             go_ret
             exact ⟨fi_, bw_⟩
            ·replace c69 := Bool.eq_false_iff.mpr c69
             subst c69
             have H1 : (drayagelaw03_LabelBack.l2 kj55 x11_45 t462 0) = some r := by rw [if_neg (show ¬ (false = true) by decide)] at H; exact H
             clear H
             have H := H1
             clear H1
             have H' := Aside0.mk H
             clear H
             go_wp2
             repeat (go_quiet (fail); try go_wp2)
             go_loopg [16] kj55 (fun kq v16 w' => ∃ (x16_5 : Int), v16 = .int .i64 x16_5 ∧ Aside0 (drayagelaw03_LabelBack.l2 kq x11_45 t462 x16_5 = some r) ∧ Aside0 (kq ≤ kj55) ∧ Aside0 (Kd.R k38 38 w' w.heap.size (fun k_ => some k_ ≠ (v465 : Value).ownBlock) (.slice Ao57 x11_45.length co57) x11_45) ∧ Aside0 (Kd.R k38 38 w' w.heap.size (fun k_ => some k_ ≠ ((.slice Ao57 x11_45.length co57) : Value).ownBlock) v465 t462) ∧ Aside0 (Below w.heap.size w w'))
             case atStart => exact ⟨(0), fs_, H', ⟨Nat.le_refl _⟩, ⟨by (with_reducible repeat (first | apply Kd.R_alloc | apply Kd.R_drewN | apply Kd.R_drew)); exact HO_11.out⟩, ⟨by (with_reducible repeat (first | apply Kd.R_alloc | apply Kd.R_drewN | apply Kd.R_drew)); exact HO_13.out⟩, ⟨bw_⟩⟩
             case round =>
              clear H'
              (try clear c1); (try clear c2); (try clear p2); (try clear c3); (try clear c4); (try clear p4); (try clear q4); (try clear hx4); (try clear c5); (try clear c6); (try clear p6); (try clear c18); (try clear c18b0); (try clear c18b1); (try clear c19); (try clear c19b0); (try clear c19b1); (try clear c20); (try clear c20b0); (try clear c20b1); (try clear c21); (try clear c21b0); (try clear c21b1); (try clear c22); (try clear c22b0); (try clear c22b1); (try clear c23); (try clear c23b0); (try clear c23b1); (try clear c23b2); (try clear c34); (try clear c35); (try clear c35b0); (try clear c36); (try clear c36b0); (try clear c37); (try clear c37b0); (try clear c38); (try clear c38b0); (try clear c40); (try clear c40b0); (try clear c41); (try clear c41b0); (try clear p45); (try clear q45); (try clear hx45); (try clear c47); (try clear c47b0); (try clear c48); (try clear c48b0)
              (try clear c49); (try clear c49b0); (try clear c51); (try clear c61); (try clear c61b0); (try clear c61b1); (try clear c62); (try clear c62b0); (try clear c62b1); (try clear c63); (try clear c63b0); (try clear c63b1); (try clear p64); (try clear c69); (try clear hx450_0); (try clear hx450_1); (try clear hx451_0); (try clear hx451_1); (try clear hx452_0); (try clear hx452_1); (try clear hx453_0); (try clear hx453_1); (try clear hx454_0); (try clear hx454_1); (try clear hx454_2); (try clear p2); (try clear p4); (try clear p45); (try clear p450); (try clear p451); (try clear p452); (try clear p453); (try clear p454); (try clear p6); (try clear p64); (try clear q4); (try clear q45); (try clear q450); (try clear q451); (try clear q452); (try clear q453); (try clear q454)
              obtain ⟨x16_5, rfl, HA, HK5, HO_11, HO_13, HB⟩ := hrel
              cases gk with
              | zero => exact absurd HA.out (by simp [drayagelaw03_LabelBack.l2])
              | succ k5 =>
               have H := HA.out
               clear HA
               simp only [drayagelaw03_LabelBack.l2] at H
               by_cases c70 : x16_5 < (x11_45.length : Int)
               ·rw [if_pos c70] at H
                have c70b0 : decide (x16_5 < (x11_45.length : Int)) = true := decide_eq_true c70
                clear c70
                by_cases c71 : 0 ≤ x16_5
                ·rw [if_pos c71] at H
                 have c71b0 : decide (0 ≤ x16_5) = true := decide_eq_true c71
                 clear c71
                 by_cases c72 : x16_5 < (t462.length : Int)
                 ·rw [if_pos c72] at H
                  have c72b0 : decide (x16_5 < (t462.length : Int)) = true := decide_eq_true c72
                  clear c72
                  by_cases c73 : (!(((rd_T38 x11_45 x16_5).f0) == ((rd_T38 t462 x16_5).f0)) || (!((((rd_T38 x11_45 x16_5).f1).toList) == (((rd_T38 t462 x16_5).f1).toList)) || (!((((rd_T38 x11_45 x16_5).f2).toList) == (((rd_T38 t462 x16_5).f2).toList))))) = true
                  ·rw [if_pos c73] at H
                   have c73b0 : (!(((rd_T38 x11_45 x16_5).f0) == ((rd_T38 t462 x16_5).f0)) || (!((((rd_T38 x11_45 x16_5).f1).toList) == (((rd_T38 t462 x16_5).f1).toList)) || (!((((rd_T38 x11_45 x16_5).f2).toList) == (((rd_T38 t462 x16_5).f2).toList))))) = true := c73
                   clear c73
                   obtain rfl := Option.some.inj H
                   have p468 : 0 ≤ (x16_5 : Int) := of_decide_eq_true (by first | (with_reducible assumption) | assumption)
                   have q468 : x16_5 < (x11_45.length : Int) := of_decide_eq_true (by first | (with_reducible assumption) | assumption)
                   obtain ⟨ad468, e468, hx468_0, hx468_1, hx468_2⟩ := at_T38 (Kd.R_reads' HO_11.out).2.2 x16_5 p468 q468
                   cases e468
                   replace p468 := eq_true p468
                   replace q468 := eq_true q468
                   obtain ⟨Ao74, co74, eo74⟩ := Kd.R_slice HO_13.out
                   subst eo74
                   have p469 : 0 ≤ (x16_5 : Int) := of_decide_eq_true (by first | (with_reducible assumption) | assumption)
                   have q469 : x16_5 < (t462.length : Int) := of_decide_eq_true (by first | (with_reducible assumption) | assumption)
                   obtain ⟨ad469, e469, hx469_0, hx469_1, hx469_2⟩ := at_T38 (Kd.R_reads' HO_13.out).2.2 x16_5 p469 q469
                   cases e469
                   replace p469 := eq_true p469
                   replace q469 := eq_true q469
                   go_wp2
                   repeat (go_quiet (fail); try go_wp2)
                   go_ret
                   exact ⟨fi_, bw_⟩
                  ·rw [if_neg c73] at H
                   have c73b0 : (!(((rd_T38 x11_45 x16_5).f0) == ((rd_T38 t462 x16_5).f0)) || (!((((rd_T38 x11_45 x16_5).f1).toList) == (((rd_T38 t462 x16_5).f1).toList)) || (!((((rd_T38 x11_45 x16_5).f2).toList) == (((rd_T38 t462 x16_5).f2).toList))))) = false := by simpa using c73
                   clear c73
                   have H' := Aside0.mk H
                   clear H
                   have p468 : 0 ≤ (x16_5 : Int) := of_decide_eq_true (by first | (with_reducible assumption) | assumption)
                   have q468 : x16_5 < (x11_45.length : Int) := of_decide_eq_true (by first | (with_reducible assumption) | assumption)
                   obtain ⟨ad468, e468, hx468_0, hx468_1, hx468_2⟩ := at_T38 (Kd.R_reads' HO_11.out).2.2 x16_5 p468 q468
                   cases e468
                   replace p468 := eq_true p468
                   replace q468 := eq_true q468
                   obtain ⟨Ao75, co75, eo75⟩ := Kd.R_slice HO_13.out
                   subst eo75
                   have p469 : 0 ≤ (x16_5 : Int) := of_decide_eq_true (by first | (with_reducible assumption) | assumption)
                   have q469 : x16_5 < (t462.length : Int) := of_decide_eq_true (by first | (with_reducible assumption) | assumption)
                   obtain ⟨ad469, e469, hx469_0, hx469_1, hx469_2⟩ := at_T38 (Kd.R_reads' HO_13.out).2.2 x16_5 p469 q469
                   cases e469
                   replace p469 := eq_true p469
                   replace q469 := eq_true q469
                   go_wp2
                   repeat (go_quiet (fail); try go_wp2)
                   go_roundg k5
                   case measure => have := HJ8.out; have := HK2.out; have := HJ45.out; have := HJ55.out; have := HK5.out; omega
                   case rel => exact ⟨(wrap64 (x16_5 + 1)), fs_, H', ⟨by have := HJ8.out; have := HK2.out; have := HJ45.out; have := HJ55.out; have := HK5.out; omega⟩, ⟨by (with_reducible repeat (first | apply Kd.R_alloc | apply Kd.R_drewN | apply Kd.R_drew)); exact HO_11.out⟩, ⟨by (with_reducible repeat (first | apply Kd.R_alloc | apply Kd.R_drewN | apply Kd.R_drew)); exact HO_13.out⟩, ⟨bw_⟩⟩
                 ·rw [if_neg c72] at H
                  exact absurd H (by simp)
                ·rw [if_neg c71] at H
                 exact absurd H (by simp)
               ·rw [if_neg c70] at H
                have c70b0 : decide (x16_5 < (x11_45.length : Int)) = false := decide_eq_false c70
                clear c70
                obtain rfl := Option.some.inj H
                go_wp2
                repeat (go_quiet (fail); try go_wp2)
                go_ret
                exact ⟨fi_, bw_⟩
 ·replace c3 := Bool.eq_false_iff.mpr c3
  subst c3
  have H1 : (some false) = some r := by rw [if_neg (show ¬ (false = true) by decide)] at H; exact H
  clear H
  have H := H1
  clear H1
  obtain rfl := Option.some.inj H
  go_enter Try.func5, Try.ntmps5
  go_wp2_with (first | (go_at_call 16; (with_reducible refine (drayagelaw03_works.calls k  false _ A2.out).mono ?_); rintro e w76 ⟨rfl, hb⟩; replace HB := Aside0.mk (below_step bw_ hb); (try clear hb); (try clear hb2); (try clear hk); (try clear hi)))
  repeat (go_quiet (first | (go_at_call 16; (with_reducible refine (drayagelaw03_works.calls k  false _ A2.out).mono ?_); rintro e w76 ⟨rfl, hb⟩; replace HB := Aside0.mk (below_step bw_ hb); (try clear hb); (try clear hb2); (try clear hk); (try clear hi))); try go_wp2_with (first | (go_at_call 16; (with_reducible refine (drayagelaw03_works.calls k  false _ A2.out).mono ?_); rintro e w76 ⟨rfl, hb⟩; replace HB := Aside0.mk (below_step bw_ hb); (try clear hb); (try clear hb2); (try clear hk); (try clear hi))))
  go_ret
  exact ⟨fi_, bw_⟩

end Go.Proofs.Ytfnfjkddlnnolaa.P
