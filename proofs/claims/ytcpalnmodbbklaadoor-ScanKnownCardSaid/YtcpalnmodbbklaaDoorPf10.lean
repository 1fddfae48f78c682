-- PRINTED by print.py (a twelfth state) out of the translation. Not trusted: Lean checks it.
import Derived.Test.YtcpalnmodbbklaaDoorP0
import Derived.Test.YtcpalnmodbbklaaDoorHwords
import Derived.Test.YtcpalnmodbbklaaDoorPf23
import Derived.Test.YtcpalnmodbbklaaDoorPq36
namespace Go.Proofs.YtcpalnmodbbklaaDoor.P
open Go.RowKit Go.Proofs.YtcpalnmodbbklaaDoorW.PrintWords Go.Proofs.YtcpalnmodbbklaaDoorW.PrintLast Go.Proofs.YtcpalnmodbbklaaDoorW.PrintMore
attribute [local go_sem] max2_int min2_int max_two min_two max_three min_three max_four min_four   -- for this text's walks alone
set_option linter.unusedVariables false
set_option linter.unusedSimpArgs false

attribute [local go_sem high] eqA36
/-! ### drayagelaw04_works: function 10 -/
mutual
def drayagelaw04_works.j0 : Nat → List (S36) → List (S36) → Bool → Option (Bool)
  | 0, _, _, _ => none
  | k + 1, x1, x5, x33 => if x33 = true then (some false) else (drayagelaw04_works.l0 k x1 x5 0)
def drayagelaw04_works.l0 : Nat → List (S36) → List (S36) → Int → Option (Bool)
  | 0, _, _, _ => none
  | k + 1, x1, x5, x6 => if x6 < (x1.length : Int) then (if 0 ≤ x6 then (if x6 < (x5.length : Int) then (if (!(((rd_T36 x1 x6).f0) == ((rd_T36 x5 x6).f0)) || (!((((rd_T36 x1 x6).f1).toList) == (((rd_T36 x5 x6).f1).toList)) || (!(((rd_T36 x1 x6).f2) == ((rd_T36 x5 x6).f2)) || (!(((rd_T36 x1 x6).f3) == ((rd_T36 x5 x6).f3)))))) = true then (some false) else (drayagelaw04_works.l0 k x1 x5 (wrap64 (x6 + 1)))) else (none)) else (none)) else ((scan_Words.f (⟨#[10, 32, 32, 34, 195, 169, 92, 34, 98, 34]⟩ : ByteArray)).bind fun bt125 => (if bt125.2.2.2 = 0 then (if (bt125.1.length : Int) = 1 then (if 0 < (bt125.1.length : Int) then (drayagelaw04_works.j2 k (((rd_T36 bt125.1 0).f0) == 3 && ((((rd_T36 bt125.1 0).f1).toList) == ([195, 169, 34, 98] : List UInt8) && (((rd_T36 bt125.1 0).f2) == 2 && (((rd_T36 bt125.1 0).f3) == 3))))) else (none)) else (drayagelaw04_works.j2 k false)) else (drayagelaw04_works.j2 k false)))
def drayagelaw04_works.j2 : Nat → Bool → Option (Bool)
  | 0, _ => none
  | k + 1, x11 => if x11 = true then ((drayagelaw04_wrong.f (⟨#[65]⟩ : ByteArray) 1 1 4).bind fun t132 => (if t132 = true then ((drayagelaw04_wrong.f (⟨#[34, 97]⟩ : ByteArray) 1 3 3).bind fun t133 => (if t133 = true then ((drayagelaw04_wrong.f (⟨#[97, 61, 98]⟩ : ByteArray) 1 2 4).bind fun t134 => (if t134 = true then ((drayagelaw04_wrong.f (⟨#[49, 34, 120, 34]⟩ : ByteArray) 1 2 4).bind fun t135 => (some t135)) else (some false))) else (some false))) else (some false))) else (some false)
end
def drayagelaw04_works.f (k : Nat)  : Option (Bool) := (scan_Words.f (⟨#[112, 111, 100, 32, 97, 32, 123, 32, 99, 112, 117, 32, 49, 46, 53, 107, 32, 125, 32, 35, 32, 120]⟩ : ByteArray)).bind fun bt114 => ((some (([(⟨1, (⟨#[112, 111, 100]⟩ : ByteArray), 1, 1⟩ : S36), (⟨1, (⟨#[97]⟩ : ByteArray), 1, 5⟩ : S36), (⟨4, (⟨#[123]⟩ : ByteArray), 1, 7⟩ : S36), (⟨1, (⟨#[99, 112, 117]⟩ : ByteArray), 1, 9⟩ : S36), (⟨2, (⟨#[49, 46, 53, 107]⟩ : ByteArray), 1, 13⟩ : S36), (⟨4, (⟨#[125]⟩ : ByteArray), 1, 18⟩ : S36)] : List (S36)) : List (S36))).bind fun y120 => (if bt114.2.2.2 = 0 then (drayagelaw04_works.j0 k bt114.1 y120 ((bt114.1.length : Int) != (y120.length : Int))) else (drayagelaw04_works.j0 k bt114.1 y120 true)))
theorem drayagelaw04_works.mono_l : ∀ k, (∀ y0 y1 y2, LeO (drayagelaw04_works.j0 k y0 y1 y2) (drayagelaw04_works.j0 (k + 1) y0 y1 y2)) ∧ (∀ y0 y1 y2, LeO (drayagelaw04_works.l0 k y0 y1 y2) (drayagelaw04_works.l0 (k + 1) y0 y1 y2)) ∧ (∀ y0, LeO (drayagelaw04_works.j2 k y0) (drayagelaw04_works.j2 (k + 1) y0))
  | 0 => ⟨fun _ _ _ r h => by simp [drayagelaw04_works.j0] at h, fun _ _ _ r h => by simp [drayagelaw04_works.l0] at h, fun _ r h => by simp [drayagelaw04_works.j2] at h⟩
  | k + 1 => by
    obtain ⟨ih0, ih1, ih2⟩ := drayagelaw04_works.mono_l k
    refine ⟨?_, ?_, ?_⟩
    · intro y0 y1 y2
      unfold drayagelaw04_works.j0
      repeat' first
      | (with_reducible exact ih0 _ _ _)
      | (with_reducible exact ih1 _ _ _)
      | (with_reducible exact ih2 _)
      | (with_reducible exact LeO.refl _)
      | (with_reducible exact LeO.none _)
      | (with_reducible refine LeO.ite ?_ ?_)
      | (with_reducible refine LeO.bind ?_ (fun _ => ?_))
      | exact ih0 _ _ _
      | exact ih1 _ _ _
      | exact ih2 _
      | exact LeO.none _
      | refine LeO.ite ?_ ?_
      | refine LeO.bind ?_ (fun _ => ?_)
    · intro y0 y1 y2
      unfold drayagelaw04_works.l0
      repeat' first
      | (with_reducible exact ih0 _ _ _)
      | (with_reducible exact ih1 _ _ _)
      | (with_reducible exact ih2 _)
      | (with_reducible exact LeO.refl _)
      | (with_reducible exact LeO.none _)
      | (with_reducible refine LeO.ite ?_ ?_)
      | (with_reducible refine LeO.bind ?_ (fun _ => ?_))
      | exact ih0 _ _ _
      | exact ih1 _ _ _
      | exact ih2 _
      | exact LeO.none _
      | refine LeO.ite ?_ ?_
      | refine LeO.bind ?_ (fun _ => ?_)
    · intro y0
      unfold drayagelaw04_works.j2
      repeat' first
      | (with_reducible exact ih0 _ _ _)
      | (with_reducible exact ih1 _ _ _)
      | (with_reducible exact ih2 _)
      | (with_reducible exact LeO.refl _)
      | (with_reducible exact LeO.none _)
      | (with_reducible refine LeO.ite ?_ ?_)
      | (with_reducible refine LeO.bind ?_ (fun _ => ?_))
      | exact ih0 _ _ _
      | exact ih1 _ _ _
      | exact ih2 _
      | exact LeO.none _
      | refine LeO.ite ?_ ?_
      | refine LeO.bind ?_ (fun _ => ?_)
theorem drayagelaw04_works.mono : ∀ k, LeO (drayagelaw04_works.f k ) (drayagelaw04_works.f (k + 1) ) := by
  intro  k
  obtain ⟨ih0, ih1, ih2⟩ := drayagelaw04_works.mono_l k
  unfold drayagelaw04_works.f
  repeat' first
      | (with_reducible exact ih0 _ _ _)
      | (with_reducible exact ih1 _ _ _)
      | (with_reducible exact ih2 _)
      | (with_reducible exact LeO.refl _)
      | (with_reducible exact LeO.none _)
      | (with_reducible refine LeO.ite ?_ ?_)
      | (with_reducible refine LeO.bind ?_ (fun _ => ?_))
      | exact ih0 _ _ _
      | exact ih1 _ _ _
      | exact ih2 _
      | exact LeO.none _
      | refine LeO.ite ?_ ?_
      | refine LeO.bind ?_ (fun _ => ?_)
set_option maxHeartbeats 8000000 in
set_option maxRecDepth 100000 in
theorem drayagelaw04_works.calls (k : Nat)  (r : Bool) (w : World) (h : drayagelaw04_works.f k  = some r) :
    Calls Tryd.prog 10 #[] w fun e w' => e = .returned (.bool r) ∧ Below w.heap.size w w' := by
  have hu36 := Tryd.underlying36
  have HB := Aside0.mk (Below.refl w.heap.size w)
  have H : ((scan_Words.f (⟨#[112, 111, 100, 32, 97, 32, 123, 32, 99, 112, 117, 32, 49, 46, 53, 107, 32, 125, 32, 35, 32, 120]⟩ : ByteArray)).bind fun bt114 => ((some (([(⟨1, (⟨#[112, 111, 100]⟩ : ByteArray), 1, 1⟩ : S36), (⟨1, (⟨#[97]⟩ : ByteArray), 1, 5⟩ : S36), (⟨4, (⟨#[123]⟩ : ByteArray), 1, 7⟩ : S36), (⟨1, (⟨#[99, 112, 117]⟩ : ByteArray), 1, 9⟩ : S36), (⟨2, (⟨#[49, 46, 53, 107]⟩ : ByteArray), 1, 13⟩ : S36), (⟨4, (⟨#[125]⟩ : ByteArray), 1, 18⟩ : S36)] : List (S36)) : List (S36))).bind fun y120 => (if bt114.2.2.2 = 0 then (drayagelaw04_works.j0 k bt114.1 y120 ((bt114.1.length : Int) != (y120.length : Int))) else (drayagelaw04_works.j0 k bt114.1 y120 true)))) = some r := h
  clear h
  replace H := Option.bind_eq_some_iff.mp H
  obtain ⟨⟨t114, t115, t116, t117⟩, A10, H⟩ := H
  replace H : ((some (([(⟨1, (⟨#[112, 111, 100]⟩ : ByteArray), 1, 1⟩ : S36), (⟨1, (⟨#[97]⟩ : ByteArray), 1, 5⟩ : S36), (⟨4, (⟨#[123]⟩ : ByteArray), 1, 7⟩ : S36), (⟨1, (⟨#[99, 112, 117]⟩ : ByteArray), 1, 9⟩ : S36), (⟨2, (⟨#[49, 46, 53, 107]⟩ : ByteArray), 1, 13⟩ : S36), (⟨4, (⟨#[125]⟩ : ByteArray), 1, 18⟩ : S36)] : List (S36)) : List (S36))).bind fun y120 => (if t117 = 0 then (drayagelaw04_works.j0 k t114 y120 ((t114.length : Int) != (y120.length : Int))) else (drayagelaw04_works.j0 k t114 y120 true))) = some r := H
  have A1 := Aside0.mk A10
  clear A10
  obtain ⟨y120, hy120⟩ : ∃ y_ : List (S36), y_ = (([(⟨1, (⟨#[112, 111, 100]⟩ : ByteArray), 1, 1⟩ : S36), (⟨1, (⟨#[97]⟩ : ByteArray), 1, 5⟩ : S36), (⟨4, (⟨#[123]⟩ : ByteArray), 1, 7⟩ : S36), (⟨1, (⟨#[99, 112, 117]⟩ : ByteArray), 1, 9⟩ : S36), (⟨2, (⟨#[49, 46, 53, 107]⟩ : ByteArray), 1, 13⟩ : S36), (⟨4, (⟨#[125]⟩ : ByteArray), 1, 18⟩ : S36)] : List (S36))) := ⟨_, rfl⟩
  replace H : (if t117 = 0 then (drayagelaw04_works.j0 k t114 y120 ((t114.length : Int) != (y120.length : Int))) else (drayagelaw04_works.j0 k t114 y120 true)) = some r := by first | (rw [hy120]; with_reducible exact H) | (have H2_ := (Option.bind_some _ _).symm.trans H; rw [hy120]; with_reducible exact H2_) | (have H2_ := (Option.bind_some _ _).symm.trans H; with_reducible exact H2_) | with_reducible exact H | (rw [hy120]; exact H) | exact H
  have Ny120 := Aside0.mk hy120
  clear hy120
  have HC2 := Aside0.mk H
  clear H
  go_enter Tryd.func10, Tryd.ntmps10
  go_upto_region 3 with (first | (go_at_call 8; (with_reducible refine (scan_Words.calls (⟨#[112, 111, 100, 32, 97, 32, 123, 32, 99, 112, 117, 32, 49, 46, 53, 107, 32, 125, 32, 35, 32, 120]⟩ : ByteArray) t114 t115 t116 t117 _ A1.out).mono ?_); rintro e w3 ⟨v118, rfl, ho0, hb⟩; have n0_ := Aside0.mk (Kd.R_lower ho0 (below_size (by repeat (first | (with_reducible first | exact HB.out | apply below_alloc | apply pw_below_drewN | apply below_drew1) | exact HB.out)))); have n1_ := Aside0.mk (below_step (by repeat (first | (with_reducible first | exact HB.out | apply below_alloc | apply pw_below_drewN | apply below_drew1) | exact HB.out)) hb); clear HB; have HO119 := n0_; have HB := n1_; clear n0_ n1_; (try clear hb); (try clear hb2); (try clear hk); (try clear hi); (try clear ho0)) | ((with_reducible refine gate_dst (N := 24) rfl ?_); (try (refine gate_guard (by rfl) ?_; dsimp only)); refine Kd.R_lit k36 _ 36 ?hg (N := 24) ?hd (xs := ([(⟨1, (⟨#[112, 111, 100]⟩ : ByteArray), 1, 1⟩ : S36), (⟨1, (⟨#[97]⟩ : ByteArray), 1, 5⟩ : S36), (⟨4, (⟨#[123]⟩ : ByteArray), 1, 7⟩ : S36), (⟨1, (⟨#[99, 112, 117]⟩ : ByteArray), 1, 9⟩ : S36), (⟨2, (⟨#[49, 46, 53, 107]⟩ : ByteArray), 1, 13⟩ : S36), (⟨4, (⟨#[125]⟩ : ByteArray), 1, 18⟩ : S36)] : List (S36))) (inner := [.int .i64 1, .string (⟨#[112, 111, 100]⟩ : ByteArray), .int .i64 1, .int .i64 1, .int .i64 1, .string (⟨#[97]⟩ : ByteArray), .int .i64 1, .int .i64 5, .int .i64 4, .string (⟨#[123]⟩ : ByteArray), .int .i64 1, .int .i64 7, .int .i64 1, .string (⟨#[99, 112, 117]⟩ : ByteArray), .int .i64 1, .int .i64 9, .int .i64 2, .string (⟨#[49, 46, 53, 107]⟩ : ByteArray), .int .i64 1, .int .i64 13, .int .i64 4, .string (⟨#[125]⟩ : ByteArray), .int .i64 1, .int .i64 18]) (ok := fun _ => True) (okp := fun _ => True) ?hr ?hp (fun _ hk => hk) trivial (Below.refl _ _) (Nat.le_refl _) (by simp) ?_; (case hd => rfl); (case hg => rfl); (case hr => first | (go_simp; done) | (go_simp; rfl)); (case hp => exact (Reps.c4 (show Kd.M k36 _ _ _ (⟨1, (⟨#[112, 111, 100]⟩ : ByteArray), 1, 1⟩ : S36) [.int .i64 1, .string (⟨#[112, 111, 100]⟩ : ByteArray), .int .i64 1, .int .i64 1] from (k36_mkM _ _ _ (⟨1, (⟨#[112, 111, 100]⟩ : ByteArray), 1, 1⟩ : S36) )) (Reps.c4 (show Kd.M k36 _ _ _ (⟨1, (⟨#[97]⟩ : ByteArray), 1, 5⟩ : S36) [.int .i64 1, .string (⟨#[97]⟩ : ByteArray), .int .i64 1, .int .i64 5] from (k36_mkM _ _ _ (⟨1, (⟨#[97]⟩ : ByteArray), 1, 5⟩ : S36) )) (Reps.c4 (show Kd.M k36 _ _ _ (⟨4, (⟨#[123]⟩ : ByteArray), 1, 7⟩ : S36) [.int .i64 4, .string (⟨#[123]⟩ : ByteArray), .int .i64 1, .int .i64 7] from (k36_mkM _ _ _ (⟨4, (⟨#[123]⟩ : ByteArray), 1, 7⟩ : S36) )) (Reps.c4 (show Kd.M k36 _ _ _ (⟨1, (⟨#[99, 112, 117]⟩ : ByteArray), 1, 9⟩ : S36) [.int .i64 1, .string (⟨#[99, 112, 117]⟩ : ByteArray), .int .i64 1, .int .i64 9] from (k36_mkM _ _ _ (⟨1, (⟨#[99, 112, 117]⟩ : ByteArray), 1, 9⟩ : S36) )) (Reps.c4 (show Kd.M k36 _ _ _ (⟨2, (⟨#[49, 46, 53, 107]⟩ : ByteArray), 1, 13⟩ : S36) [.int .i64 2, .string (⟨#[49, 46, 53, 107]⟩ : ByteArray), .int .i64 1, .int .i64 13] from (k36_mkM _ _ _ (⟨2, (⟨#[49, 46, 53, 107]⟩ : ByteArray), 1, 13⟩ : S36) )) (Reps.c4 (show Kd.M k36 _ _ _ (⟨4, (⟨#[125]⟩ : ByteArray), 1, 18⟩ : S36) [.int .i64 4, .string (⟨#[125]⟩ : ByteArray), .int .i64 1, .int .i64 18] from (k36_mkM _ _ _ (⟨4, (⟨#[125]⟩ : ByteArray), 1, 18⟩ : S36) )) (Reps.none _ _)))))))); intro v121 w4 ho5 hb hg_ hnew_; clear hg_ hnew_; (first | rw [← Ny120.out] at ho5 | (simp only [Int.reduceToNat] at ho5; rw [← Ny120.out] at ho5)); have n0_ := Aside0.mk (Kd.R_elder' (by (with_reducible repeat (first | apply Kd.R_alloc | apply Kd.R_drewN | apply Kd.R_drew)); exact HO119.out) (Kd.R_base ho5) hb); have n1_ := Aside0.mk (Kd.R_lower (Kd.R_new' ho5 (Kd.R_lt (by (with_reducible repeat (first | apply Kd.R_alloc | apply Kd.R_drewN | apply Kd.R_drew)); exact HO119.out))) (below_size (by repeat (first | (with_reducible first | exact HB.out | apply below_alloc | apply pw_below_drewN | apply below_drew1) | exact HB.out)))); have n2_ := Aside0.mk (below_step (by repeat (first | (with_reducible first | exact HB.out | apply below_alloc | apply pw_below_drewN | apply below_drew1) | exact HB.out)) hb); clear HO119; clear HB; have HO119 := n0_; have HO122 := n1_; have HB := n2_; clear n0_ n1_ n2_; clear hb ho5))
  repeat (go_quiet (first | (go_at_call 8; (with_reducible refine (scan_Words.calls (⟨#[112, 111, 100, 32, 97, 32, 123, 32, 99, 112, 117, 32, 49, 46, 53, 107, 32, 125, 32, 35, 32, 120]⟩ : ByteArray) t114 t115 t116 t117 _ A1.out).mono ?_); rintro e w3 ⟨v118, rfl, ho0, hb⟩; have n0_ := Aside0.mk (Kd.R_lower ho0 (below_size (by repeat (first | (with_reducible first | exact HB.out | apply below_alloc | apply pw_below_drewN | apply below_drew1) | exact HB.out)))); have n1_ := Aside0.mk (below_step (by repeat (first | (with_reducible first | exact HB.out | apply below_alloc | apply pw_below_drewN | apply below_drew1) | exact HB.out)) hb); clear HB; have HO119 := n0_; have HB := n1_; clear n0_ n1_; (try clear hb); (try clear hb2); (try clear hk); (try clear hi); (try clear ho0)) | ((with_reducible refine gate_dst (N := 24) rfl ?_); (try (refine gate_guard (by rfl) ?_; dsimp only)); refine Kd.R_lit k36 _ 36 ?hg (N := 24) ?hd (xs := ([(⟨1, (⟨#[112, 111, 100]⟩ : ByteArray), 1, 1⟩ : S36), (⟨1, (⟨#[97]⟩ : ByteArray), 1, 5⟩ : S36), (⟨4, (⟨#[123]⟩ : ByteArray), 1, 7⟩ : S36), (⟨1, (⟨#[99, 112, 117]⟩ : ByteArray), 1, 9⟩ : S36), (⟨2, (⟨#[49, 46, 53, 107]⟩ : ByteArray), 1, 13⟩ : S36), (⟨4, (⟨#[125]⟩ : ByteArray), 1, 18⟩ : S36)] : List (S36))) (inner := [.int .i64 1, .string (⟨#[112, 111, 100]⟩ : ByteArray), .int .i64 1, .int .i64 1, .int .i64 1, .string (⟨#[97]⟩ : ByteArray), .int .i64 1, .int .i64 5, .int .i64 4, .string (⟨#[123]⟩ : ByteArray), .int .i64 1, .int .i64 7, .int .i64 1, .string (⟨#[99, 112, 117]⟩ : ByteArray), .int .i64 1, .int .i64 9, .int .i64 2, .string (⟨#[49, 46, 53, 107]⟩ : ByteArray), .int .i64 1, .int .i64 13, .int .i64 4, .string (⟨#[125]⟩ : ByteArray), .int .i64 1, .int .i64 18]) (ok := fun _ => True) (okp := fun _ => True) ?hr ?hp (fun _ hk => hk) trivial (Below.refl _ _) (Nat.le_refl _) (by simp) ?_; (case hd => rfl); (case hg => rfl); (case hr => first | (go_simp; done) | (go_simp; rfl)); (case hp => exact (Reps.c4 (show Kd.M k36 _ _ _ (⟨1, (⟨#[112, 111, 100]⟩ : ByteArray), 1, 1⟩ : S36) [.int .i64 1, .string (⟨#[112, 111, 100]⟩ : ByteArray), .int .i64 1, .int .i64 1] from (k36_mkM _ _ _ (⟨1, (⟨#[112, 111, 100]⟩ : ByteArray), 1, 1⟩ : S36) )) (Reps.c4 (show Kd.M k36 _ _ _ (⟨1, (⟨#[97]⟩ : ByteArray), 1, 5⟩ : S36) [.int .i64 1, .string (⟨#[97]⟩ : ByteArray), .int .i64 1, .int .i64 5] from (k36_mkM _ _ _ (⟨1, (⟨#[97]⟩ : ByteArray), 1, 5⟩ : S36) )) (Reps.c4 (show Kd.M k36 _ _ _ (⟨4, (⟨#[123]⟩ : ByteArray), 1, 7⟩ : S36) [.int .i64 4, .string (⟨#[123]⟩ : ByteArray), .int .i64 1, .int .i64 7] from (k36_mkM _ _ _ (⟨4, (⟨#[123]⟩ : ByteArray), 1, 7⟩ : S36) )) (Reps.c4 (show Kd.M k36 _ _ _ (⟨1, (⟨#[99, 112, 117]⟩ : ByteArray), 1, 9⟩ : S36) [.int .i64 1, .string (⟨#[99, 112, 117]⟩ : ByteArray), .int .i64 1, .int .i64 9] from (k36_mkM _ _ _ (⟨1, (⟨#[99, 112, 117]⟩ : ByteArray), 1, 9⟩ : S36) )) (Reps.c4 (show Kd.M k36 _ _ _ (⟨2, (⟨#[49, 46, 53, 107]⟩ : ByteArray), 1, 13⟩ : S36) [.int .i64 2, .string (⟨#[49, 46, 53, 107]⟩ : ByteArray), .int .i64 1, .int .i64 13] from (k36_mkM _ _ _ (⟨2, (⟨#[49, 46, 53, 107]⟩ : ByteArray), 1, 13⟩ : S36) )) (Reps.c4 (show Kd.M k36 _ _ _ (⟨4, (⟨#[125]⟩ : ByteArray), 1, 18⟩ : S36) [.int .i64 4, .string (⟨#[125]⟩ : ByteArray), .int .i64 1, .int .i64 18] from (k36_mkM _ _ _ (⟨4, (⟨#[125]⟩ : ByteArray), 1, 18⟩ : S36) )) (Reps.none _ _)))))))); intro v121 w4 ho5 hb hg_ hnew_; clear hg_ hnew_; (first | rw [← Ny120.out] at ho5 | (simp only [Int.reduceToNat] at ho5; rw [← Ny120.out] at ho5)); have n0_ := Aside0.mk (Kd.R_elder' (by (with_reducible repeat (first | apply Kd.R_alloc | apply Kd.R_drewN | apply Kd.R_drew)); exact HO119.out) (Kd.R_base ho5) hb); have n1_ := Aside0.mk (Kd.R_lower (Kd.R_new' ho5 (Kd.R_lt (by (with_reducible repeat (first | apply Kd.R_alloc | apply Kd.R_drewN | apply Kd.R_drew)); exact HO119.out))) (below_size (by repeat (first | (with_reducible first | exact HB.out | apply below_alloc | apply pw_below_drewN | apply below_drew1) | exact HB.out)))); have n2_ := Aside0.mk (below_step (by repeat (first | (with_reducible first | exact HB.out | apply below_alloc | apply pw_below_drewN | apply below_drew1) | exact HB.out)) hb); clear HO119; clear HB; have HO119 := n0_; have HO122 := n1_; have HB := n2_; clear n0_ n1_ n2_; clear hb ho5)); go_upto_region 3 with (first | (go_at_call 8; (with_reducible refine (scan_Words.calls (⟨#[112, 111, 100, 32, 97, 32, 123, 32, 99, 112, 117, 32, 49, 46, 53, 107, 32, 125, 32, 35, 32, 120]⟩ : ByteArray) t114 t115 t116 t117 _ A1.out).mono ?_); rintro e w3 ⟨v118, rfl, ho0, hb⟩; have n0_ := Aside0.mk (Kd.R_lower ho0 (below_size (by repeat (first | (with_reducible first | exact HB.out | apply below_alloc | apply pw_below_drewN | apply below_drew1) | exact HB.out)))); have n1_ := Aside0.mk (below_step (by repeat (first | (with_reducible first | exact HB.out | apply below_alloc | apply pw_below_drewN | apply below_drew1) | exact HB.out)) hb); clear HB; have HO119 := n0_; have HB := n1_; clear n0_ n1_; (try clear hb); (try clear hb2); (try clear hk); (try clear hi); (try clear ho0)) | ((with_reducible refine gate_dst (N := 24) rfl ?_); (try (refine gate_guard (by rfl) ?_; dsimp only)); refine Kd.R_lit k36 _ 36 ?hg (N := 24) ?hd (xs := ([(⟨1, (⟨#[112, 111, 100]⟩ : ByteArray), 1, 1⟩ : S36), (⟨1, (⟨#[97]⟩ : ByteArray), 1, 5⟩ : S36), (⟨4, (⟨#[123]⟩ : ByteArray), 1, 7⟩ : S36), (⟨1, (⟨#[99, 112, 117]⟩ : ByteArray), 1, 9⟩ : S36), (⟨2, (⟨#[49, 46, 53, 107]⟩ : ByteArray), 1, 13⟩ : S36), (⟨4, (⟨#[125]⟩ : ByteArray), 1, 18⟩ : S36)] : List (S36))) (inner := [.int .i64 1, .string (⟨#[112, 111, 100]⟩ : ByteArray), .int .i64 1, .int .i64 1, .int .i64 1, .string (⟨#[97]⟩ : ByteArray), .int .i64 1, .int .i64 5, .int .i64 4, .string (⟨#[123]⟩ : ByteArray), .int .i64 1, .int .i64 7, .int .i64 1, .string (⟨#[99, 112, 117]⟩ : ByteArray), .int .i64 1, .int .i64 9, .int .i64 2, .string (⟨#[49, 46, 53, 107]⟩ : ByteArray), .int .i64 1, .int .i64 13, .int .i64 4, .string (⟨#[125]⟩ : ByteArray), .int .i64 1, .int .i64 18]) (ok := fun _ => True) (okp := fun _ => True) ?hr ?hp (fun _ hk => hk) trivial (Below.refl _ _) (Nat.le_refl _) (by simp) ?_; (case hd => rfl); (case hg => rfl); (case hr => first | (go_simp; done) | (go_simp; rfl)); (case hp => exact (Reps.c4 (show Kd.M k36 _ _ _ (⟨1, (⟨#[112, 111, 100]⟩ : ByteArray), 1, 1⟩ : S36) [.int .i64 1, .string (⟨#[112, 111, 100]⟩ : ByteArray), .int .i64 1, .int .i64 1] from (k36_mkM _ _ _ (⟨1, (⟨#[112, 111, 100]⟩ : ByteArray), 1, 1⟩ : S36) )) (Reps.c4 (show Kd.M k36 _ _ _ (⟨1, (⟨#[97]⟩ : ByteArray), 1, 5⟩ : S36) [.int .i64 1, .string (⟨#[97]⟩ : ByteArray), .int .i64 1, .int .i64 5] from (k36_mkM _ _ _ (⟨1, (⟨#[97]⟩ : ByteArray), 1, 5⟩ : S36) )) (Reps.c4 (show Kd.M k36 _ _ _ (⟨4, (⟨#[123]⟩ : ByteArray), 1, 7⟩ : S36) [.int .i64 4, .string (⟨#[123]⟩ : ByteArray), .int .i64 1, .int .i64 7] from (k36_mkM _ _ _ (⟨4, (⟨#[123]⟩ : ByteArray), 1, 7⟩ : S36) )) (Reps.c4 (show Kd.M k36 _ _ _ (⟨1, (⟨#[99, 112, 117]⟩ : ByteArray), 1, 9⟩ : S36) [.int .i64 1, .string (⟨#[99, 112, 117]⟩ : ByteArray), .int .i64 1, .int .i64 9] from (k36_mkM _ _ _ (⟨1, (⟨#[99, 112, 117]⟩ : ByteArray), 1, 9⟩ : S36) )) (Reps.c4 (show Kd.M k36 _ _ _ (⟨2, (⟨#[49, 46, 53, 107]⟩ : ByteArray), 1, 13⟩ : S36) [.int .i64 2, .string (⟨#[49, 46, 53, 107]⟩ : ByteArray), .int .i64 1, .int .i64 13] from (k36_mkM _ _ _ (⟨2, (⟨#[49, 46, 53, 107]⟩ : ByteArray), 1, 13⟩ : S36) )) (Reps.c4 (show Kd.M k36 _ _ _ (⟨4, (⟨#[125]⟩ : ByteArray), 1, 18⟩ : S36) [.int .i64 4, .string (⟨#[125]⟩ : ByteArray), .int .i64 1, .int .i64 18] from (k36_mkM _ _ _ (⟨4, (⟨#[125]⟩ : ByteArray), 1, 18⟩ : S36) )) (Reps.none _ _)))))))); intro v121 w4 ho5 hb hg_ hnew_; clear hg_ hnew_; (first | rw [← Ny120.out] at ho5 | (simp only [Int.reduceToNat] at ho5; rw [← Ny120.out] at ho5)); have n0_ := Aside0.mk (Kd.R_elder' (by (with_reducible repeat (first | apply Kd.R_alloc | apply Kd.R_drewN | apply Kd.R_drew)); exact HO119.out) (Kd.R_base ho5) hb); have n1_ := Aside0.mk (Kd.R_lower (Kd.R_new' ho5 (Kd.R_lt (by (with_reducible repeat (first | apply Kd.R_alloc | apply Kd.R_drewN | apply Kd.R_drew)); exact HO119.out))) (below_size (by repeat (first | (with_reducible first | exact HB.out | apply below_alloc | apply pw_below_drewN | apply below_drew1) | exact HB.out)))); have n2_ := Aside0.mk (below_step (by repeat (first | (with_reducible first | exact HB.out | apply below_alloc | apply pw_below_drewN | apply below_drew1) | exact HB.out)) hb); clear HO119; clear HB; have HO119 := n0_; have HO122 := n1_; have HB := n2_; clear n0_ n1_ n2_; clear hb ho5)))
  (try simp only [Act.put, List.setIfInBounds_toArray, List.set_cons_zero, List.set_cons_succ])
  go_cut [33] (fun v33 wc => ∃ (kq : Nat) (x33_1 : Bool), v33 = .bool x33_1 ∧ Aside0 (drayagelaw04_works.j0 kq t114 y120 x33_1 = some r) ∧ Aside0 (kq ≤ k) ∧ Aside0 (Kd.R k36 36 wc w.heap.size (fun k_ => some k_ ≠ (v121 : Value).ownBlock) v118 t114) ∧ Aside0 (Kd.R k36 36 wc w.heap.size (fun k_ => some k_ ≠ (v118 : Value).ownBlock) v121 y120) ∧ Aside0 (Below w.heap.size w wc))
  case first =>
    have H := HC2.out
    clear HC2
    by_cases c6 : t117 = 0
    · rw [if_pos c6] at H
      have c6b0 : (t117 == 0) = true := beq_iff_eq.mpr c6
      have c6b1 : (t117 != 0) = false := bne_eq_false_iff_eq.mpr c6
      clear c6
      (first | rw [c6b0] | (simp only [i64_w, i32_w]; rw [c6b0]) | skip)
      have H' := Aside0.mk H
      clear H
      obtain ⟨Ao7, co7, eo7⟩ := Kd.R_slice HO119.out
      subst eo7
      obtain ⟨Ao8, co8, eo8⟩ := Kd.R_slice HO122.out
      subst eo8
      go_wp2
      repeat (go_quiet (fail); try go_wp2)
      go_meet
      case rel => exact ⟨_, (((t114.length : Int) != (y120.length : Int))), (by first | rfl | (simp; done) | (simp [*]; done)), H', ⟨by first | omega | exact Nat.le_refl _⟩, ⟨by (with_reducible repeat (first | apply Kd.R_alloc | apply Kd.R_drewN | apply Kd.R_drew)); exact Kd.R_mono HO119.out (fun _ hk => hk.2)⟩, ⟨by (with_reducible repeat (first | apply Kd.R_alloc | apply Kd.R_drewN | apply Kd.R_drew)); exact Kd.R_mono HO122.out (fun _ hk => hk.2)⟩, ⟨by repeat (first | (with_reducible first | exact HB.out | apply below_alloc | apply pw_below_drewN | apply below_drew1) | exact HB.out)⟩⟩
    · rw [if_neg c6] at H
      have c6b0 : (t117 == 0) = false := beq_eq_false_iff_ne.mpr c6
      have c6b1 : (t117 != 0) = true := bne_iff_ne.mpr c6
      (first | rw [c6b0] | (simp only [i64_w, i32_w]; rw [c6b0]) | skip)
      have H' := Aside0.mk H
      clear H
      go_wp2
      repeat (go_quiet (fail); try go_wp2)
      go_meet
      case rel => exact ⟨_, (true), (by first | rfl | (simp; done) | (simp [*]; done)), H', ⟨by first | omega | exact Nat.le_refl _⟩, ⟨by (with_reducible repeat (first | apply Kd.R_alloc | apply Kd.R_drewN | apply Kd.R_drew)); exact Kd.R_mono HO119.out (fun _ hk => hk.2)⟩, ⟨by (with_reducible repeat (first | apply Kd.R_alloc | apply Kd.R_drewN | apply Kd.R_drew)); exact Kd.R_mono HO122.out (fun _ hk => hk.2)⟩, ⟨by repeat (first | (with_reducible first | exact HB.out | apply below_alloc | apply pw_below_drewN | apply below_drew1) | exact HB.out)⟩⟩
  case rest =>
    clear HC2
    try clear c1
    try clear p2
    try clear c4
    try clear c6
    try clear c6b0
    try clear c6b1
    obtain ⟨kq, x33_1, rfl, HA, HJ1, HO_1, HO_5, HB⟩ := hcut
    cases kq with
    | zero => exact absurd HA.out (by simp [drayagelaw04_works.j0])
    | succ kj1 =>
      have H := HA.out
      clear HA
      simp only [drayagelaw04_works.j0] at H
      by_cases c9 : x33_1 = true
      · subst c9
        have H1 : (some false) = some r := by rw [if_pos rfl] at H; exact H
        clear H
        have H := H1
        clear H1
        obtain rfl := Option.some.inj H
        go_wp2
        repeat (go_quiet (fail); try go_wp2)
        go_ret
        exact ⟨by first | rfl | (simp [errW_none, errW_some] <;> rfl) | (simp [*, errW_none, errW_some] <;> rfl), by repeat (first | (with_reducible first | exact HB.out | apply below_alloc | apply pw_below_drewN | apply below_drew1) | exact HB.out)⟩
      · replace c9 := Bool.eq_false_iff.mpr c9
        subst c9
        have H1 : (drayagelaw04_works.l0 kj1 t114 y120 0) = some r := by rw [if_neg (show ¬ (false = true) by decide)] at H; exact H
        clear H
        have H := H1
        clear H1
        have H' := Aside0.mk H
        clear H
        go_wp2
        repeat (go_quiet (fail); try go_wp2)
        go_loopg [6] kj1 (fun kq v6 w' => ∃ (x6_2 : Int), v6 = .int .i64 x6_2 ∧ Aside0 (drayagelaw04_works.l0 kq t114 y120 x6_2 = some r) ∧ Aside0 (kq ≤ kj1) ∧ Aside0 (Kd.R k36 36 w' w.heap.size (fun k_ => some k_ ≠ (v121 : Value).ownBlock) v118 t114) ∧ Aside0 (Kd.R k36 36 w' w.heap.size (fun k_ => some k_ ≠ (v118 : Value).ownBlock) v121 y120) ∧ Aside0 (Below w.heap.size w w'))
        case atStart => exact ⟨(0), (by first | rfl | (simp; done) | (simp [*]; done)), H', ⟨Nat.le_refl _⟩, ⟨by (with_reducible repeat (first | apply Kd.R_alloc | apply Kd.R_drewN | apply Kd.R_drew)); exact HO_1.out⟩, ⟨by (with_reducible repeat (first | apply Kd.R_alloc | apply Kd.R_drewN | apply Kd.R_drew)); exact HO_5.out⟩, ⟨by repeat (first | (with_reducible first | exact HB.out | apply below_alloc | apply pw_below_drewN | apply below_drew1) | exact HB.out)⟩⟩
        case round =>
          clear H'
          try clear c1
          try clear p2
          try clear c4
          try clear c6
          try clear c6b0
          try clear c6b1
          try clear c9
          try clear p2
          obtain ⟨x6_2, rfl, HA, HK2, HO_1, HO_5, HB⟩ := hrel
          cases gk with
          | zero => exact absurd HA.out (by simp [drayagelaw04_works.l0])
          | succ k2 =>
            have H := HA.out
            clear HA
            simp only [drayagelaw04_works.l0] at H
            by_cases c10 : x6_2 < (t114.length : Int)
            · rw [if_pos c10] at H
              have c10b0 : decide (x6_2 < (t114.length : Int)) = true := decide_eq_true c10
              clear c10
              by_cases c11 : 0 ≤ x6_2
              · rw [if_pos c11] at H
                have c11b0 : decide (0 ≤ x6_2) = true := decide_eq_true c11
                clear c11
                by_cases c12 : x6_2 < (y120.length : Int)
                · rw [if_pos c12] at H
                  have c12b0 : decide (x6_2 < (y120.length : Int)) = true := decide_eq_true c12
                  clear c12
                  by_cases c13 : (!(((rd_T36 t114 x6_2).f0) == ((rd_T36 y120 x6_2).f0)) || (!((((rd_T36 t114 x6_2).f1).toList) == (((rd_T36 y120 x6_2).f1).toList)) || (!(((rd_T36 t114 x6_2).f2) == ((rd_T36 y120 x6_2).f2)) || (!(((rd_T36 t114 x6_2).f3) == ((rd_T36 y120 x6_2).f3)))))) = true
                  · rw [if_pos c13] at H
                    have c13b0 : (!(((rd_T36 t114 x6_2).f0) == ((rd_T36 y120 x6_2).f0)) || (!((((rd_T36 t114 x6_2).f1).toList) == (((rd_T36 y120 x6_2).f1).toList)) || (!(((rd_T36 t114 x6_2).f2) == ((rd_T36 y120 x6_2).f2)) || (!(((rd_T36 t114 x6_2).f3) == ((rd_T36 y120 x6_2).f3)))))) = true := c13
                    clear c13
                    obtain rfl := Option.some.inj H
                    obtain ⟨Ao14, co14, eo14⟩ := Kd.R_slice HO_1.out
                    subst eo14
                    have p123 : 0 ≤ (x6_2 : Int) := of_decide_eq_true (by first | (with_reducible assumption) | assumption)
                    have q123 : x6_2 < (t114.length : Int) := of_decide_eq_true (by first | (with_reducible assumption) | assumption)
                    obtain ⟨ad123, e123, hx123_0, hx123_1, hx123_2, hx123_3⟩ := at_T36 (Kd.R_reads' HO_1.out).2.2 x6_2 p123 q123
                    cases e123
                    replace p123 := eq_true p123
                    replace q123 := eq_true q123
                    obtain ⟨Ao15, co15, eo15⟩ := Kd.R_slice HO_5.out
                    subst eo15
                    have p124 : 0 ≤ (x6_2 : Int) := of_decide_eq_true (by first | (with_reducible assumption) | assumption)
                    have q124 : x6_2 < (y120.length : Int) := of_decide_eq_true (by first | (with_reducible assumption) | assumption)
                    obtain ⟨ad124, e124, hx124_0, hx124_1, hx124_2, hx124_3⟩ := at_T36 (Kd.R_reads' HO_5.out).2.2 x6_2 p124 q124
                    cases e124
                    replace p124 := eq_true p124
                    replace q124 := eq_true q124
                    go_wp2
                    repeat (go_quiet (fail); try go_wp2)
                    go_ret
                    exact ⟨by first | rfl | (simp [errW_none, errW_some] <;> rfl) | (simp [*, errW_none, errW_some] <;> rfl), by repeat (first | (with_reducible first | exact HB.out | apply below_alloc | apply pw_below_drewN | apply below_drew1) | exact HB.out)⟩
                  · rw [if_neg c13] at H
                    have c13b0 : (!(((rd_T36 t114 x6_2).f0) == ((rd_T36 y120 x6_2).f0)) || (!((((rd_T36 t114 x6_2).f1).toList) == (((rd_T36 y120 x6_2).f1).toList)) || (!(((rd_T36 t114 x6_2).f2) == ((rd_T36 y120 x6_2).f2)) || (!(((rd_T36 t114 x6_2).f3) == ((rd_T36 y120 x6_2).f3)))))) = false := by simpa using c13
                    clear c13
                    have H' := Aside0.mk H
                    clear H
                    obtain ⟨Ao16, co16, eo16⟩ := Kd.R_slice HO_1.out
                    subst eo16
                    have p123 : 0 ≤ (x6_2 : Int) := of_decide_eq_true (by first | (with_reducible assumption) | assumption)
                    have q123 : x6_2 < (t114.length : Int) := of_decide_eq_true (by first | (with_reducible assumption) | assumption)
                    obtain ⟨ad123, e123, hx123_0, hx123_1, hx123_2, hx123_3⟩ := at_T36 (Kd.R_reads' HO_1.out).2.2 x6_2 p123 q123
                    cases e123
                    replace p123 := eq_true p123
                    replace q123 := eq_true q123
                    obtain ⟨Ao17, co17, eo17⟩ := Kd.R_slice HO_5.out
                    subst eo17
                    have p124 : 0 ≤ (x6_2 : Int) := of_decide_eq_true (by first | (with_reducible assumption) | assumption)
                    have q124 : x6_2 < (y120.length : Int) := of_decide_eq_true (by first | (with_reducible assumption) | assumption)
                    obtain ⟨ad124, e124, hx124_0, hx124_1, hx124_2, hx124_3⟩ := at_T36 (Kd.R_reads' HO_5.out).2.2 x6_2 p124 q124
                    cases e124
                    replace p124 := eq_true p124
                    replace q124 := eq_true q124
                    go_wp2
                    repeat (go_quiet (fail); try go_wp2)
                    go_roundg k2
                    case measure => have := HJ1.out; have := HK2.out; omega
                    case rel => exact ⟨(wrap64 (x6_2 + 1)), (by first | rfl | (simp; done) | (simp [*]; done)), H', ⟨by have := HJ1.out; have := HK2.out; omega⟩, ⟨by (with_reducible repeat (first | apply Kd.R_alloc | apply Kd.R_drewN | apply Kd.R_drew)); exact HO_1.out⟩, ⟨by (with_reducible repeat (first | apply Kd.R_alloc | apply Kd.R_drewN | apply Kd.R_drew)); exact HO_5.out⟩, ⟨by repeat (first | (with_reducible first | exact HB.out | apply below_alloc | apply pw_below_drewN | apply below_drew1) | exact HB.out)⟩⟩
                · rw [if_neg c12] at H
                  exact absurd H (by simp)
              · rw [if_neg c11] at H
                exact absurd H (by simp)
            · rw [if_neg c10] at H
              have c10b0 : decide (x6_2 < (t114.length : Int)) = false := decide_eq_false c10
              clear c10
              replace H := Option.bind_eq_some_iff.mp H
              obtain ⟨⟨t125, t126, t127, t128⟩, A180, H⟩ := H
              replace H : (if t128 = 0 then (if (t125.length : Int) = 1 then (if 0 < (t125.length : Int) then (drayagelaw04_works.j2 k2 (((rd_T36 t125 0).f0) == 3 && ((((rd_T36 t125 0).f1).toList) == ([195, 169, 34, 98] : List UInt8) && (((rd_T36 t125 0).f2) == 2 && (((rd_T36 t125 0).f3) == 3))))) else (none)) else (drayagelaw04_works.j2 k2 false)) else (drayagelaw04_works.j2 k2 false)) = some r := H
              have A18 := Aside0.mk A180
              clear A180
              have HC19 := Aside0.mk H
              clear H
              obtain ⟨Ao20, co20, eo20⟩ := Kd.R_slice HO_1.out
              subst eo20
              go_upto_region 11 with (first | (go_at_call 8; (with_reducible refine (scan_Words.calls (⟨#[10, 32, 32, 34, 195, 169, 92, 34, 98, 34]⟩ : ByteArray) t125 t126 t127 t128 _ A18.out).mono ?_); rintro e w21 ⟨v129, rfl, ho0, hb⟩; have n0_ := Aside0.mk (Kd.R_elder' (by (with_reducible repeat (first | apply Kd.R_alloc | apply Kd.R_drewN | apply Kd.R_drew)); exact HO_1.out) (Kd.R_base ho0) hb); have n1_ := Aside0.mk (Kd.R_elder' (by (with_reducible repeat (first | apply Kd.R_alloc | apply Kd.R_drewN | apply Kd.R_drew)); exact HO_5.out) (Kd.R_base ho0) hb); have n2_ := Aside0.mk (Kd.R_lower (Kd.R_new' (Kd.R_new' ho0 (Kd.R_lt (by (with_reducible repeat (first | apply Kd.R_alloc | apply Kd.R_drewN | apply Kd.R_drew)); exact HO_1.out))) (Kd.R_lt (by (with_reducible repeat (first | apply Kd.R_alloc | apply Kd.R_drewN | apply Kd.R_drew)); exact HO_5.out))) (below_size (by repeat (first | (with_reducible first | exact HB.out | apply below_alloc | apply pw_below_drewN | apply below_drew1) | exact HB.out)))); have n3_ := Aside0.mk (below_step (by repeat (first | (with_reducible first | exact HB.out | apply below_alloc | apply pw_below_drewN | apply below_drew1) | exact HB.out)) hb); clear HO_1; clear HO_5; clear HB; have HO_1 := n0_; have HO_5 := n1_; have HO130 := n2_; have HB := n3_; clear n0_ n1_ n2_ n3_; (try clear hb); (try clear hb2); (try clear hk); (try clear hi); (try clear ho0)))
              repeat (go_quiet (first | (go_at_call 8; (with_reducible refine (scan_Words.calls (⟨#[10, 32, 32, 34, 195, 169, 92, 34, 98, 34]⟩ : ByteArray) t125 t126 t127 t128 _ A18.out).mono ?_); rintro e w21 ⟨v129, rfl, ho0, hb⟩; have n0_ := Aside0.mk (Kd.R_elder' (by (with_reducible repeat (first | apply Kd.R_alloc | apply Kd.R_drewN | apply Kd.R_drew)); exact HO_1.out) (Kd.R_base ho0) hb); have n1_ := Aside0.mk (Kd.R_elder' (by (with_reducible repeat (first | apply Kd.R_alloc | apply Kd.R_drewN | apply Kd.R_drew)); exact HO_5.out) (Kd.R_base ho0) hb); have n2_ := Aside0.mk (Kd.R_lower (Kd.R_new' (Kd.R_new' ho0 (Kd.R_lt (by (with_reducible repeat (first | apply Kd.R_alloc | apply Kd.R_drewN | apply Kd.R_drew)); exact HO_1.out))) (Kd.R_lt (by (with_reducible repeat (first | apply Kd.R_alloc | apply Kd.R_drewN | apply Kd.R_drew)); exact HO_5.out))) (below_size (by repeat (first | (with_reducible first | exact HB.out | apply below_alloc | apply pw_below_drewN | apply below_drew1) | exact HB.out)))); have n3_ := Aside0.mk (below_step (by repeat (first | (with_reducible first | exact HB.out | apply below_alloc | apply pw_below_drewN | apply below_drew1) | exact HB.out)) hb); clear HO_1; clear HO_5; clear HB; have HO_1 := n0_; have HO_5 := n1_; have HO130 := n2_; have HB := n3_; clear n0_ n1_ n2_ n3_; (try clear hb); (try clear hb2); (try clear hk); (try clear hi); (try clear ho0))); go_upto_region 11 with (first | (go_at_call 8; (with_reducible refine (scan_Words.calls (⟨#[10, 32, 32, 34, 195, 169, 92, 34, 98, 34]⟩ : ByteArray) t125 t126 t127 t128 _ A18.out).mono ?_); rintro e w21 ⟨v129, rfl, ho0, hb⟩; have n0_ := Aside0.mk (Kd.R_elder' (by (with_reducible repeat (first | apply Kd.R_alloc | apply Kd.R_drewN | apply Kd.R_drew)); exact HO_1.out) (Kd.R_base ho0) hb); have n1_ := Aside0.mk (Kd.R_elder' (by (with_reducible repeat (first | apply Kd.R_alloc | apply Kd.R_drewN | apply Kd.R_drew)); exact HO_5.out) (Kd.R_base ho0) hb); have n2_ := Aside0.mk (Kd.R_lower (Kd.R_new' (Kd.R_new' ho0 (Kd.R_lt (by (with_reducible repeat (first | apply Kd.R_alloc | apply Kd.R_drewN | apply Kd.R_drew)); exact HO_1.out))) (Kd.R_lt (by (with_reducible repeat (first | apply Kd.R_alloc | apply Kd.R_drewN | apply Kd.R_drew)); exact HO_5.out))) (below_size (by repeat (first | (with_reducible first | exact HB.out | apply below_alloc | apply pw_below_drewN | apply below_drew1) | exact HB.out)))); have n3_ := Aside0.mk (below_step (by repeat (first | (with_reducible first | exact HB.out | apply below_alloc | apply pw_below_drewN | apply below_drew1) | exact HB.out)) hb); clear HO_1; clear HO_5; clear HB; have HO_1 := n0_; have HO_5 := n1_; have HO130 := n2_; have HB := n3_; clear n0_ n1_ n2_ n3_; (try clear hb); (try clear hb2); (try clear hk); (try clear hi); (try clear ho0))))
              (try simp only [Act.put, List.setIfInBounds_toArray, List.set_cons_zero, List.set_cons_succ])
              go_cut [11] (fun v11 wc => ∃ (kq : Nat) (x11_18 : Bool), v11 = .bool x11_18 ∧ Aside0 (drayagelaw04_works.j2 kq x11_18 = some r) ∧ Aside0 (kq ≤ k2) ∧ Aside0 (Below w.heap.size w wc))
              case first =>
                have H := HC19.out
                clear HC19
                by_cases c22 : t128 = 0
                · rw [if_pos c22] at H
                  have c22b0 : (t128 == 0) = true := beq_iff_eq.mpr c22
                  have c22b1 : (t128 != 0) = false := bne_eq_false_iff_eq.mpr c22
                  clear c22
                  (first | rw [c22b0] | (simp only [i64_w, i32_w]; rw [c22b0]) | skip)
                  by_cases c23 : (t125.length : Int) = 1
                  · rw [if_pos c23] at H
                    have c23b0 : ((t125.length : Int) == 1) = true := beq_iff_eq.mpr c23
                    have c23b1 : ((t125.length : Int) != 1) = false := bne_eq_false_iff_eq.mpr c23
                    clear c23
                    by_cases c24 : 0 < (t125.length : Int)
                    · rw [if_pos c24] at H
                      have c24b0 : decide (0 < (t125.length : Int)) = true := decide_eq_true c24
                      have c24b1 : decide (0 < t125.length) = true := decide_eq_true (by omega)
                      clear c24
                      have H' := Aside0.mk H
                      clear H
                      obtain ⟨Ao25, co25, eo25⟩ := Kd.R_slice HO130.out
                      subst eo25
                      have p131 : 0 ≤ (0 : Int) := (by omega)
                      have q131 : 0 < (t125.length : Int) := of_decide_eq_true (by first | (with_reducible assumption) | assumption)
                      obtain ⟨ad131, e131, hx131_0, hx131_1, hx131_2, hx131_3⟩ := at_T36 (Kd.R_reads' HO130.out).2.2 0 p131 q131
                      cases e131
                      have qi131 : (0 < t125.length) = True := eq_true (by omega)
                      (try rw [show ((0 : Int)).toNat = 0 from rfl] at hx131_0)
                      (try rw [show 0 * 4 = 0 from rfl] at hx131_0)
                      (try rw [Addr.add_zero'] at hx131_0)
                      (try rw [show ((0 : Int)).toNat = 0 from rfl] at hx131_1)
                      (try rw [show 0 * 4 = 0 from rfl] at hx131_1)
                      (try rw [Addr.add_zero'] at hx131_1)
                      (try rw [show ((0 : Int)).toNat = 0 from rfl] at hx131_2)
                      (try rw [show 0 * 4 = 0 from rfl] at hx131_2)
                      (try rw [Addr.add_zero'] at hx131_2)
                      (try rw [show ((0 : Int)).toNat = 0 from rfl] at hx131_3)
                      (try rw [show 0 * 4 = 0 from rfl] at hx131_3)
                      (try rw [Addr.add_zero'] at hx131_3)
                      replace p131 := eq_true p131
                      replace q131 := eq_true q131
                      go_wp2
                      repeat (go_quiet (fail); try go_wp2)
                      go_meet
                      case rel => exact ⟨_, ((((rd_T36 t125 0).f0) == 3 && ((((rd_T36 t125 0).f1).toList) == ([195, 169, 34, 98] : List UInt8) && (((rd_T36 t125 0).f2) == 2 && (((rd_T36 t125 0).f3) == 3))))), (by first | rfl | (simp; done) | (simp [*]; done)), H', ⟨by have := HJ1.out; have := HK2.out; first | omega | exact Nat.le_refl _⟩, ⟨by repeat (first | (with_reducible first | exact HB.out | apply below_alloc | apply pw_below_drewN | apply below_drew1) | exact HB.out)⟩⟩
                    · rw [if_neg c24] at H
                      exact absurd H (by simp)
                  · rw [if_neg c23] at H
                    have c23b0 : ((t125.length : Int) == 1) = false := beq_eq_false_iff_ne.mpr c23
                    have c23b1 : ((t125.length : Int) != 1) = true := bne_iff_ne.mpr c23
                    have H' := Aside0.mk H
                    clear H
                    obtain ⟨Ao26, co26, eo26⟩ := Kd.R_slice HO130.out
                    subst eo26
                    go_wp2
                    repeat (go_quiet (fail); try go_wp2)
                    go_meet
                    case rel => exact ⟨_, (false), (by first | rfl | (simp; done) | (simp [*]; done)), H', ⟨by have := HJ1.out; have := HK2.out; first | omega | exact Nat.le_refl _⟩, ⟨by repeat (first | (with_reducible first | exact HB.out | apply below_alloc | apply pw_below_drewN | apply below_drew1) | exact HB.out)⟩⟩
                · rw [if_neg c22] at H
                  have c22b0 : (t128 == 0) = false := beq_eq_false_iff_ne.mpr c22
                  have c22b1 : (t128 != 0) = true := bne_iff_ne.mpr c22
                  (first | rw [c22b0] | (simp only [i64_w, i32_w]; rw [c22b0]) | skip)
                  have H' := Aside0.mk H
                  clear H
                  go_wp2
                  repeat (go_quiet (fail); try go_wp2)
                  go_meet
                  case rel => exact ⟨_, (false), (by first | rfl | (simp; done) | (simp [*]; done)), H', ⟨by have := HJ1.out; have := HK2.out; first | omega | exact Nat.le_refl _⟩, ⟨by repeat (first | (with_reducible first | exact HB.out | apply below_alloc | apply pw_below_drewN | apply below_drew1) | exact HB.out)⟩⟩
              case rest =>
                clear HC19
                try clear c1
                try clear p1
                try clear q1
                try clear hx1
                try clear qi1
                try clear c2
                try clear p2
                try clear c4
                try clear c6
                try clear c6b0
                try clear c6b1
                try clear p6
                try clear c9
                try clear c10
                try clear c10b0
                try clear c11
                try clear c11b0
                try clear c12
                try clear c12b0
                try clear p12
                try clear q12
                try clear hx12
                try clear c13
                try clear c13b0
                try clear p13
                try clear q13
                try clear hx13
                try clear qi13
                try clear c22
                try clear c22b0
                try clear c22b1
                try clear c23
                try clear c23b0
                try clear c23b1
                try clear c24
                try clear c24b0
                try clear c24b1
                try clear hx123_0
                try clear hx123_1
                try clear hx123_2
                try clear hx123_3
                try clear hx124_0
                try clear hx124_1
                try clear hx124_2
                try clear hx124_3
                try clear hx131_0
                try clear hx131_1
                try clear hx131_2
                try clear hx131_3
                try clear p123
                try clear p124
                try clear p131
                try clear p2
                try clear q123
                try clear q124
                try clear q131
                obtain ⟨kq, x11_18, rfl, HA, HJ18, HB⟩ := hcut
                cases kq with
                | zero => exact absurd HA.out (by simp [drayagelaw04_works.j2])
                | succ kj18 =>
                  have H := HA.out
                  clear HA
                  simp only [drayagelaw04_works.j2] at H
                  by_cases c27 : x11_18 = true
                  · subst c27
                    have H1 : ((drayagelaw04_wrong.f (⟨#[65]⟩ : ByteArray) 1 1 4).bind fun t132 => (if t132 = true then ((drayagelaw04_wrong.f (⟨#[34, 97]⟩ : ByteArray) 1 3 3).bind fun t133 => (if t133 = true then ((drayagelaw04_wrong.f (⟨#[97, 61, 98]⟩ : ByteArray) 1 2 4).bind fun t134 => (if t134 = true then ((drayagelaw04_wrong.f (⟨#[49, 34, 120, 34]⟩ : ByteArray) 1 2 4).bind fun t135 => (some t135)) else (some false))) else (some false))) else (some false))) = some r := by rw [if_pos rfl] at H; exact H
                    clear H
                    have H := H1
                    clear H1
                    replace H := Option.bind_eq_some_iff.mp H
                    obtain ⟨t132, A280, H⟩ := H
                    replace H : (if t132 = true then ((drayagelaw04_wrong.f (⟨#[34, 97]⟩ : ByteArray) 1 3 3).bind fun t133 => (if t133 = true then ((drayagelaw04_wrong.f (⟨#[97, 61, 98]⟩ : ByteArray) 1 2 4).bind fun t134 => (if t134 = true then ((drayagelaw04_wrong.f (⟨#[49, 34, 120, 34]⟩ : ByteArray) 1 2 4).bind fun t135 => (some t135)) else (some false))) else (some false))) else (some false)) = some r := H
                    have A28 := Aside0.mk A280
                    clear A280
                    by_cases c29 : t132 = true
                    · subst c29
                      have H1 : ((drayagelaw04_wrong.f (⟨#[34, 97]⟩ : ByteArray) 1 3 3).bind fun t133 => (if t133 = true then ((drayagelaw04_wrong.f (⟨#[97, 61, 98]⟩ : ByteArray) 1 2 4).bind fun t134 => (if t134 = true then ((drayagelaw04_wrong.f (⟨#[49, 34, 120, 34]⟩ : ByteArray) 1 2 4).bind fun t135 => (some t135)) else (some false))) else (some false))) = some r := by rw [if_pos rfl] at H; exact H
                      clear H
                      have H := H1
                      clear H1
                      replace H := Option.bind_eq_some_iff.mp H
                      obtain ⟨t133, A300, H⟩ := H
                      replace H : (if t133 = true then ((drayagelaw04_wrong.f (⟨#[97, 61, 98]⟩ : ByteArray) 1 2 4).bind fun t134 => (if t134 = true then ((drayagelaw04_wrong.f (⟨#[49, 34, 120, 34]⟩ : ByteArray) 1 2 4).bind fun t135 => (some t135)) else (some false))) else (some false)) = some r := H
                      have A30 := Aside0.mk A300
                      clear A300
                      by_cases c31 : t133 = true
                      · subst c31
                        have H1 : ((drayagelaw04_wrong.f (⟨#[97, 61, 98]⟩ : ByteArray) 1 2 4).bind fun t134 => (if t134 = true then ((drayagelaw04_wrong.f (⟨#[49, 34, 120, 34]⟩ : ByteArray) 1 2 4).bind fun t135 => (some t135)) else (some false))) = some r := by rw [if_pos rfl] at H; exact H
                        clear H
                        have H := H1
                        clear H1
                        replace H := Option.bind_eq_some_iff.mp H
                        obtain ⟨t134, A320, H⟩ := H
                        replace H : (if t134 = true then ((drayagelaw04_wrong.f (⟨#[49, 34, 120, 34]⟩ : ByteArray) 1 2 4).bind fun t135 => (some t135)) else (some false)) = some r := H
                        have A32 := Aside0.mk A320
                        clear A320
                        by_cases c33 : t134 = true
                        · subst c33
                          have H1 : ((drayagelaw04_wrong.f (⟨#[49, 34, 120, 34]⟩ : ByteArray) 1 2 4).bind fun t135 => (some t135)) = some r := by rw [if_pos rfl] at H; exact H
                          clear H
                          have H := H1
                          clear H1
                          replace H := Option.bind_eq_some_iff.mp H
                          obtain ⟨t135, A340, H⟩ := H
                          replace H : (some t135) = some r := H
                          have A34 := Aside0.mk A340
                          clear A340
                          obtain rfl := Option.some.inj H
                          go_wp2_with (first | (go_at_call 23; (with_reducible refine (drayagelaw04_wrong.calls (⟨#[65]⟩ : ByteArray) 1 1 4 true _ A28.out).mono ?_); rintro e w35 ⟨rfl, hb⟩; have n0_ := Aside0.mk (below_step (by repeat (first | (with_reducible first | exact HB.out | apply below_alloc | apply pw_below_drewN | apply below_drew1) | exact HB.out)) hb); clear HB; have HB := n0_; clear n0_; (try clear hb); (try clear hb2); (try clear hk); (try clear hi)) | (go_at_call 23; (with_reducible refine (drayagelaw04_wrong.calls (⟨#[34, 97]⟩ : ByteArray) 1 3 3 true _ A30.out).mono ?_); rintro e w36 ⟨rfl, hb⟩; have n0_ := Aside0.mk (below_step (by repeat (first | (with_reducible first | exact HB.out | apply below_alloc | apply pw_below_drewN | apply below_drew1) | exact HB.out)) hb); clear HB; have HB := n0_; clear n0_; (try clear hb); (try clear hb2); (try clear hk); (try clear hi)) | (go_at_call 23; (with_reducible refine (drayagelaw04_wrong.calls (⟨#[97, 61, 98]⟩ : ByteArray) 1 2 4 true _ A32.out).mono ?_); rintro e w37 ⟨rfl, hb⟩; have n0_ := Aside0.mk (below_step (by repeat (first | (with_reducible first | exact HB.out | apply below_alloc | apply pw_below_drewN | apply below_drew1) | exact HB.out)) hb); clear HB; have HB := n0_; clear n0_; (try clear hb); (try clear hb2); (try clear hk); (try clear hi)) | (go_at_call 23; (with_reducible refine (drayagelaw04_wrong.calls (⟨#[49, 34, 120, 34]⟩ : ByteArray) 1 2 4 t135 _ A34.out).mono ?_); rintro e w38 ⟨rfl, hb⟩; have n0_ := Aside0.mk (below_step (by repeat (first | (with_reducible first | exact HB.out | apply below_alloc | apply pw_below_drewN | apply below_drew1) | exact HB.out)) hb); clear HB; have HB := n0_; clear n0_; (try clear hb); (try clear hb2); (try clear hk); (try clear hi)))
                          repeat (go_quiet (first | (go_at_call 23; (with_reducible refine (drayagelaw04_wrong.calls (⟨#[65]⟩ : ByteArray) 1 1 4 true _ A28.out).mono ?_); rintro e w35 ⟨rfl, hb⟩; have n0_ := Aside0.mk (below_step (by repeat (first | (with_reducible first | exact HB.out | apply below_alloc | apply pw_below_drewN | apply below_drew1) | exact HB.out)) hb); clear HB; have HB := n0_; clear n0_; (try clear hb); (try clear hb2); (try clear hk); (try clear hi)) | (go_at_call 23; (with_reducible refine (drayagelaw04_wrong.calls (⟨#[34, 97]⟩ : ByteArray) 1 3 3 true _ A30.out).mono ?_); rintro e w36 ⟨rfl, hb⟩; have n0_ := Aside0.mk (below_step (by repeat (first | (with_reducible first | exact HB.out | apply below_alloc | apply pw_below_drewN | apply below_drew1) | exact HB.out)) hb); clear HB; have HB := n0_; clear n0_; (try clear hb); (try clear hb2); (try clear hk); (try clear hi)) | (go_at_call 23; (with_reducible refine (drayagelaw04_wrong.calls (⟨#[97, 61, 98]⟩ : ByteArray) 1 2 4 true _ A32.out).mono ?_); rintro e w37 ⟨rfl, hb⟩; have n0_ := Aside0.mk (below_step (by repeat (first | (with_reducible first | exact HB.out | apply below_alloc | apply pw_below_drewN | apply below_drew1) | exact HB.out)) hb); clear HB; have HB := n0_; clear n0_; (try clear hb); (try clear hb2); (try clear hk); (try clear hi)) | (go_at_call 23; (with_reducible refine (drayagelaw04_wrong.calls (⟨#[49, 34, 120, 34]⟩ : ByteArray) 1 2 4 t135 _ A34.out).mono ?_); rintro e w38 ⟨rfl, hb⟩; have n0_ := Aside0.mk (below_step (by repeat (first | (with_reducible first | exact HB.out | apply below_alloc | apply pw_below_drewN | apply below_drew1) | exact HB.out)) hb); clear HB; have HB := n0_; clear n0_; (try clear hb); (try clear hb2); (try clear hk); (try clear hi))); try go_wp2_with (first | (go_at_call 23; (with_reducible refine (drayagelaw04_wrong.calls (⟨#[65]⟩ : ByteArray) 1 1 4 true _ A28.out).mono ?_); rintro e w35 ⟨rfl, hb⟩; have n0_ := Aside0.mk (below_step (by repeat (first | (with_reducible first | exact HB.out | apply below_alloc | apply pw_below_drewN | apply below_drew1) | exact HB.out)) hb); clear HB; have HB := n0_; clear n0_; (try clear hb); (try clear hb2); (try clear hk); (try clear hi)) | (go_at_call 23; (with_reducible refine (drayagelaw04_wrong.calls (⟨#[34, 97]⟩ : ByteArray) 1 3 3 true _ A30.out).mono ?_); rintro e w36 ⟨rfl, hb⟩; have n0_ := Aside0.mk (below_step (by repeat (first | (with_reducible first | exact HB.out | apply below_alloc | apply pw_below_drewN | apply below_drew1) | exact HB.out)) hb); clear HB; have HB := n0_; clear n0_; (try clear hb); (try clear hb2); (try clear hk); (try clear hi)) | (go_at_call 23; (with_reducible refine (drayagelaw04_wrong.calls (⟨#[97, 61, 98]⟩ : ByteArray) 1 2 4 true _ A32.out).mono ?_); rintro e w37 ⟨rfl, hb⟩; have n0_ := Aside0.mk (below_step (by repeat (first | (with_reducible first | exact HB.out | apply below_alloc | apply pw_below_drewN | apply below_drew1) | exact HB.out)) hb); clear HB; have HB := n0_; clear n0_; (try clear hb); (try clear hb2); (try clear hk); (try clear hi)) | (go_at_call 23; (with_reducible refine (drayagelaw04_wrong.calls (⟨#[49, 34, 120, 34]⟩ : ByteArray) 1 2 4 t135 _ A34.out).mono ?_); rintro e w38 ⟨rfl, hb⟩; have n0_ := Aside0.mk (below_step (by repeat (first | (with_reducible first | exact HB.out | apply below_alloc | apply pw_below_drewN | apply below_drew1) | exact HB.out)) hb); clear HB; have HB := n0_; clear n0_; (try clear hb); (try clear hb2); (try clear hk); (try clear hi))))
                          go_ret
                          exact ⟨by first | rfl | (simp [errW_none, errW_some] <;> rfl) | (simp [*, errW_none, errW_some] <;> rfl), by repeat (first | (with_reducible first | exact HB.out | apply below_alloc | apply pw_below_drewN | apply below_drew1) | exact HB.out)⟩
                        · replace c33 := Bool.eq_false_iff.mpr c33
                          subst c33
                          have H1 : (some false) = some r := by rw [if_neg (show ¬ (false = true) by decide)] at H; exact H
                          clear H
                          have H := H1
                          clear H1
                          obtain rfl := Option.some.inj H
                          go_wp2_with (first | (go_at_call 23; (with_reducible refine (drayagelaw04_wrong.calls (⟨#[65]⟩ : ByteArray) 1 1 4 true _ A28.out).mono ?_); rintro e w39 ⟨rfl, hb⟩; have n0_ := Aside0.mk (below_step (by repeat (first | (with_reducible first | exact HB.out | apply below_alloc | apply pw_below_drewN | apply below_drew1) | exact HB.out)) hb); clear HB; have HB := n0_; clear n0_; (try clear hb); (try clear hb2); (try clear hk); (try clear hi)) | (go_at_call 23; (with_reducible refine (drayagelaw04_wrong.calls (⟨#[34, 97]⟩ : ByteArray) 1 3 3 true _ A30.out).mono ?_); rintro e w40 ⟨rfl, hb⟩; have n0_ := Aside0.mk (below_step (by repeat (first | (with_reducible first | exact HB.out | apply below_alloc | apply pw_below_drewN | apply below_drew1) | exact HB.out)) hb); clear HB; have HB := n0_; clear n0_; (try clear hb); (try clear hb2); (try clear hk); (try clear hi)) | (go_at_call 23; (with_reducible refine (drayagelaw04_wrong.calls (⟨#[97, 61, 98]⟩ : ByteArray) 1 2 4 false _ A32.out).mono ?_); rintro e w41 ⟨rfl, hb⟩; have n0_ := Aside0.mk (below_step (by repeat (first | (with_reducible first | exact HB.out | apply below_alloc | apply pw_below_drewN | apply below_drew1) | exact HB.out)) hb); clear HB; have HB := n0_; clear n0_; (try clear hb); (try clear hb2); (try clear hk); (try clear hi)))
                          repeat (go_quiet (first | (go_at_call 23; (with_reducible refine (drayagelaw04_wrong.calls (⟨#[65]⟩ : ByteArray) 1 1 4 true _ A28.out).mono ?_); rintro e w39 ⟨rfl, hb⟩; have n0_ := Aside0.mk (below_step (by repeat (first | (with_reducible first | exact HB.out | apply below_alloc | apply pw_below_drewN | apply below_drew1) | exact HB.out)) hb); clear HB; have HB := n0_; clear n0_; (try clear hb); (try clear hb2); (try clear hk); (try clear hi)) | (go_at_call 23; (with_reducible refine (drayagelaw04_wrong.calls (⟨#[34, 97]⟩ : ByteArray) 1 3 3 true _ A30.out).mono ?_); rintro e w40 ⟨rfl, hb⟩; have n0_ := Aside0.mk (below_step (by repeat (first | (with_reducible first | exact HB.out | apply below_alloc | apply pw_below_drewN | apply below_drew1) | exact HB.out)) hb); clear HB; have HB := n0_; clear n0_; (try clear hb); (try clear hb2); (try clear hk); (try clear hi)) | (go_at_call 23; (with_reducible refine (drayagelaw04_wrong.calls (⟨#[97, 61, 98]⟩ : ByteArray) 1 2 4 false _ A32.out).mono ?_); rintro e w41 ⟨rfl, hb⟩; have n0_ := Aside0.mk (below_step (by repeat (first | (with_reducible first | exact HB.out | apply below_alloc | apply pw_below_drewN | apply below_drew1) | exact HB.out)) hb); clear HB; have HB := n0_; clear n0_; (try clear hb); (try clear hb2); (try clear hk); (try clear hi))); try go_wp2_with (first | (go_at_call 23; (with_reducible refine (drayagelaw04_wrong.calls (⟨#[65]⟩ : ByteArray) 1 1 4 true _ A28.out).mono ?_); rintro e w39 ⟨rfl, hb⟩; have n0_ := Aside0.mk (below_step (by repeat (first | (with_reducible first | exact HB.out | apply below_alloc | apply pw_below_drewN | apply below_drew1) | exact HB.out)) hb); clear HB; have HB := n0_; clear n0_; (try clear hb); (try clear hb2); (try clear hk); (try clear hi)) | (go_at_call 23; (with_reducible refine (drayagelaw04_wrong.calls (⟨#[34, 97]⟩ : ByteArray) 1 3 3 true _ A30.out).mono ?_); rintro e w40 ⟨rfl, hb⟩; have n0_ := Aside0.mk (below_step (by repeat (first | (with_reducible first | exact HB.out | apply below_alloc | apply pw_below_drewN | apply below_drew1) | exact HB.out)) hb); clear HB; have HB := n0_; clear n0_; (try clear hb); (try clear hb2); (try clear hk); (try clear hi)) | (go_at_call 23; (with_reducible refine (drayagelaw04_wrong.calls (⟨#[97, 61, 98]⟩ : ByteArray) 1 2 4 false _ A32.out).mono ?_); rintro e w41 ⟨rfl, hb⟩; have n0_ := Aside0.mk (below_step (by repeat (first | (with_reducible first | exact HB.out | apply below_alloc | apply pw_below_drewN | apply below_drew1) | exact HB.out)) hb); clear HB; have HB := n0_; clear n0_; (try clear hb); (try clear hb2); (try clear hk); (try clear hi))))
                          go_ret
                          exact ⟨by first | rfl | (simp [errW_none, errW_some] <;> rfl) | (simp [*, errW_none, errW_some] <;> rfl), by repeat (first | (with_reducible first | exact HB.out | apply below_alloc | apply pw_below_drewN | apply below_drew1) | exact HB.out)⟩
                      · replace c31 := Bool.eq_false_iff.mpr c31
                        subst c31
                        have H1 : (some false) = some r := by rw [if_neg (show ¬ (false = true) by decide)] at H; exact H
                        clear H
                        have H := H1
                        clear H1
                        obtain rfl := Option.some.inj H
                        go_wp2_with (first | (go_at_call 23; (with_reducible refine (drayagelaw04_wrong.calls (⟨#[65]⟩ : ByteArray) 1 1 4 true _ A28.out).mono ?_); rintro e w42 ⟨rfl, hb⟩; have n0_ := Aside0.mk (below_step (by repeat (first | (with_reducible first | exact HB.out | apply below_alloc | apply pw_below_drewN | apply below_drew1) | exact HB.out)) hb); clear HB; have HB := n0_; clear n0_; (try clear hb); (try clear hb2); (try clear hk); (try clear hi)) | (go_at_call 23; (with_reducible refine (drayagelaw04_wrong.calls (⟨#[34, 97]⟩ : ByteArray) 1 3 3 false _ A30.out).mono ?_); rintro e w43 ⟨rfl, hb⟩; have n0_ := Aside0.mk (below_step (by repeat (first | (with_reducible first | exact HB.out | apply below_alloc | apply pw_below_drewN | apply below_drew1) | exact HB.out)) hb); clear HB; have HB := n0_; clear n0_; (try clear hb); (try clear hb2); (try clear hk); (try clear hi)))
                        repeat (go_quiet (first | (go_at_call 23; (with_reducible refine (drayagelaw04_wrong.calls (⟨#[65]⟩ : ByteArray) 1 1 4 true _ A28.out).mono ?_); rintro e w42 ⟨rfl, hb⟩; have n0_ := Aside0.mk (below_step (by repeat (first | (with_reducible first | exact HB.out | apply below_alloc | apply pw_below_drewN | apply below_drew1) | exact HB.out)) hb); clear HB; have HB := n0_; clear n0_; (try clear hb); (try clear hb2); (try clear hk); (try clear hi)) | (go_at_call 23; (with_reducible refine (drayagelaw04_wrong.calls (⟨#[34, 97]⟩ : ByteArray) 1 3 3 false _ A30.out).mono ?_); rintro e w43 ⟨rfl, hb⟩; have n0_ := Aside0.mk (below_step (by repeat (first | (with_reducible first | exact HB.out | apply below_alloc | apply pw_below_drewN | apply below_drew1) | exact HB.out)) hb); clear HB; have HB := n0_; clear n0_; (try clear hb); (try clear hb2); (try clear hk); (try clear hi))); try go_wp2_with (first | (go_at_call 23; (with_reducible refine (drayagelaw04_wrong.calls (⟨#[65]⟩ : ByteArray) 1 1 4 true _ A28.out).mono ?_); rintro e w42 ⟨rfl, hb⟩; have n0_ := Aside0.mk (below_step (by repeat (first | (with_reducible first | exact HB.out | apply below_alloc | apply pw_below_drewN | apply below_drew1) | exact HB.out)) hb); clear HB; have HB := n0_; clear n0_; (try clear hb); (try clear hb2); (try clear hk); (try clear hi)) | (go_at_call 23; (with_reducible refine (drayagelaw04_wrong.calls (⟨#[34, 97]⟩ : ByteArray) 1 3 3 false _ A30.out).mono ?_); rintro e w43 ⟨rfl, hb⟩; have n0_ := Aside0.mk (below_step (by repeat (first | (with_reducible first | exact HB.out | apply below_alloc | apply pw_below_drewN | apply below_drew1) | exact HB.out)) hb); clear HB; have HB := n0_; clear n0_; (try clear hb); (try clear hb2); (try clear hk); (try clear hi))))
                        go_ret
                        exact ⟨by first | rfl | (simp [errW_none, errW_some] <;> rfl) | (simp [*, errW_none, errW_some] <;> rfl), by repeat (first | (with_reducible first | exact HB.out | apply below_alloc | apply pw_below_drewN | apply below_drew1) | exact HB.out)⟩
                    · replace c29 := Bool.eq_false_iff.mpr c29
                      subst c29
                      have H1 : (some false) = some r := by rw [if_neg (show ¬ (false = true) by decide)] at H; exact H
                      clear H
                      have H := H1
                      clear H1
                      obtain rfl := Option.some.inj H
                      go_wp2_with (first | (go_at_call 23; (with_reducible refine (drayagelaw04_wrong.calls (⟨#[65]⟩ : ByteArray) 1 1 4 false _ A28.out).mono ?_); rintro e w44 ⟨rfl, hb⟩; have n0_ := Aside0.mk (below_step (by repeat (first | (with_reducible first | exact HB.out | apply below_alloc | apply pw_below_drewN | apply below_drew1) | exact HB.out)) hb); clear HB; have HB := n0_; clear n0_; (try clear hb); (try clear hb2); (try clear hk); (try clear hi)))
                      repeat (go_quiet (first | (go_at_call 23; (with_reducible refine (drayagelaw04_wrong.calls (⟨#[65]⟩ : ByteArray) 1 1 4 false _ A28.out).mono ?_); rintro e w44 ⟨rfl, hb⟩; have n0_ := Aside0.mk (below_step (by repeat (first | (with_reducible first | exact HB.out | apply below_alloc | apply pw_below_drewN | apply below_drew1) | exact HB.out)) hb); clear HB; have HB := n0_; clear n0_; (try clear hb); (try clear hb2); (try clear hk); (try clear hi))); try go_wp2_with (first | (go_at_call 23; (with_reducible refine (drayagelaw04_wrong.calls (⟨#[65]⟩ : ByteArray) 1 1 4 false _ A28.out).mono ?_); rintro e w44 ⟨rfl, hb⟩; have n0_ := Aside0.mk (below_step (by repeat (first | (with_reducible first | exact HB.out | apply below_alloc | apply pw_below_drewN | apply below_drew1) | exact HB.out)) hb); clear HB; have HB := n0_; clear n0_; (try clear hb); (try clear hb2); (try clear hk); (try clear hi))))
                      go_ret
                      exact ⟨by first | rfl | (simp [errW_none, errW_some] <;> rfl) | (simp [*, errW_none, errW_some] <;> rfl), by repeat (first | (with_reducible first | exact HB.out | apply below_alloc | apply pw_below_drewN | apply below_drew1) | exact HB.out)⟩
                  · replace c27 := Bool.eq_false_iff.mpr c27
                    subst c27
                    have H1 : (some false) = some r := by rw [if_neg (show ¬ (false = true) by decide)] at H; exact H
                    clear H
                    have H := H1
                    clear H1
                    obtain rfl := Option.some.inj H
                    go_wp2
                    repeat (go_quiet (fail); try go_wp2)
                    go_ret
                    exact ⟨by first | rfl | (simp [errW_none, errW_some] <;> rfl) | (simp [*, errW_none, errW_some] <;> rfl), by repeat (first | (with_reducible first | exact HB.out | apply below_alloc | apply pw_below_drewN | apply below_drew1) | exact HB.out)⟩

end Go.Proofs.YtcpalnmodbbklaaDoor.P
