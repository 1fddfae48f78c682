import Derived.Test.YtfnfjkddlnnolaaP0
import Derived.Test.YtfnfjkddlnnolaaHget
import Derived.Test.YtfnfjkddlnnolaaHprint
import Derived.Test.YtfnfjkddlnnolaaHread
import Derived.Test.YtfnfjkddlnnolaaPf19
import Derived.Test.YtfnfjkddlnnolaaPf42
import Derived.Test.YtfnfjkddlnnolaaPq38
namespace Go.Proofs.Ytfnfjkddlnnolaa.P
open Go.RowKit Go.Proofs.YtfnfjkddlnnolaaW.PrintWords Go.Proofs.YtfnfjkddlnnolaaW.PrintLast Go.Proofs.YtfnfjkddlnnolaaW.PrintMore
attribute [local go_sem] max2_int min2_int max_two min_two max_three min_three max_four min_four   -- for this text's walks alone
set_option linter.unusedVariables false
set_option linter.unusedSimpArgs false

attribute [local go_sem high] eqA38
mutual
def drayagelaw03_works.j0 : Nat → List (S38) → List (S38) → Bool → Option (Bool)
 | 0, _, _, _ => none
 | k + 1, x1, x4, x33 => if x33 = true then (some false) else (drayagelaw03_works.l0 k x1 x4 0)
def drayagelaw03_works.l0 : Nat → List (S38) → List (S38) → Int → Option (Bool)
 | 0, _, _, _ => none
 | k + 1, x1, x4, x5 => if x5 < 4 then (if 0 ≤ x5 then (if x5 < (x1.length : Int) then (if x5 < (x4.length : Int) then (if (!(((rd_T38 x1 x5).f0) == ((rd_T38 x4 x5).f0)) || (!((((rd_T38 x1 x5).f1).toList) == (((rd_T38 x4 x5).f1).toList)) || (!((((rd_T38 x1 x5).f2).toList) == (((rd_T38 x4 x5).f2).toList))))) = true then (some false) else (drayagelaw03_works.l0 k x1 x4 (wrap64 (x5 + 1)))) else (none)) else (none)) else (none)) else ((label_Borne.f (⟨#[107, 61, 42]⟩ : ByteArray)).bind fun bt205 => ((label_Holds.f k x1 (([(⟨(⟨#[97]⟩ : ByteArray), (⟨#[98]⟩ : ByteArray)⟩ : S43), (⟨(⟨#[101]⟩ : ByteArray), (⟨#[120]⟩ : ByteArray)⟩ : S43)] : List (S43)))).bind fun t213 => ((drayagelaw03_wrong.f (⟨#[97, 61]⟩ : ByteArray) 2 3).bind fun t214 => (if t214 = true then ((drayagelaw03_wrong.f (⟨#[98, 61, 49, 44, 97, 61, 50]⟩ : ByteArray) 4 4).bind fun t215 => (if t215 = true then ((drayagelaw03_wrong.f (⟨#[65, 61, 49]⟩ : ByteArray) 0 4).bind fun t216 => (if t216 = true then ((drayagelaw03_wrong.f (⟨#[97, 61, 49, 44]⟩ : ByteArray) 4 3).bind fun t217 => ((some (([(⟨(⟨#[107]⟩ : ByteArray), (⟨#[118]⟩ : ByteArray)⟩ : S43)] : List (S43)) : List (S43))).bind fun y218 => (if t213 = true then (if t217 = true then (if bt205.2.2 = 0 then (if (bt205.1.length : Int) = 1 then ((label_Bears.f bt205.1 y218).bind fun t221 => (if t221 = true then ((label_Bears.f (([(⟨(⟨#[107]⟩ : ByteArray), (⟨#[119]⟩ : ByteArray)⟩ : S43)] : List (S43))) y218).bind fun t225 => (some (!t225))) else (some false))) else (some false)) else (some false)) else (some false)) else (some false)))) else (if t213 = true then (some false) else (some false)))) else (if t213 = true then (some false) else (some false)))) else (if t213 = true then (some false) else (some false))))))
end
def drayagelaw03_works.f (k : Nat)  : Option (Bool) := (label_Terms.f (⟨#[97, 61, 98, 44, 99, 33, 61, 100, 44, 101, 44, 33, 102]⟩ : ByteArray)).bind fun bt194 => ((some (([(⟨1, (⟨#[97]⟩ : ByteArray), (⟨#[98]⟩ : ByteArray)⟩ : S38), (⟨2, (⟨#[99]⟩ : ByteArray), (⟨#[100]⟩ : ByteArray)⟩ : S38), (⟨3, (⟨#[101]⟩ : ByteArray), (⟨#[]⟩ : ByteArray)⟩ : S38), (⟨4, (⟨#[102]⟩ : ByteArray), (⟨#[]⟩ : ByteArray)⟩ : S38)] : List (S38)) : List (S38))).bind fun y199 => (if bt194.2.2 = 0 then (if (bt194.1.length : Int) = 4 then ((label_PrintTerms.f bt194.1).bind fun t202 => (drayagelaw03_works.j0 k bt194.1 y199 (t202.toList != ([97, 61, 98, 44, 99, 33, 61, 100, 44, 101, 44, 33, 102] : List UInt8)))) else (drayagelaw03_works.j0 k bt194.1 y199 true)) else (drayagelaw03_works.j0 k bt194.1 y199 true)))
theorem drayagelaw03_works.mono_l : ∀ k, (∀ y0 y1 y2, LeO (drayagelaw03_works.j0 k y0 y1 y2) (drayagelaw03_works.j0 (k + 1) y0 y1 y2)) ∧ (∀ y0 y1 y2, LeO (drayagelaw03_works.l0 k y0 y1 y2) (drayagelaw03_works.l0 (k + 1) y0 y1 y2))
 | 0 => ⟨fun _ _ _ r h => by simp [drayagelaw03_works.j0] at h, fun _ _ _ r h => by simp [drayagelaw03_works.l0] at h⟩
 | k + 1 => by
  obtain ⟨ih0, ih1⟩ := drayagelaw03_works.mono_l k
  refine ⟨?_, ?_⟩
  ·intro y0 y1 y2
   unfold drayagelaw03_works.j0
   repeat' first
   | (with_reducible exact ih0 _ _ _)
   | (with_reducible exact ih1 _ _ _)
   | (with_reducible exact label_Holds.mono _ _ _)
   | (with_reducible exact LeO.refl _)
   | (with_reducible exact LeO.none _)
   | (with_reducible refine LeO.ite ?_ ?_)
   | (with_reducible refine LeO.bind ?_ (fun _ => ?_))
   | exact ih0 _ _ _
   | exact ih1 _ _ _
   | exact label_Holds.mono _ _ _
   | exact LeO.none _
   | refine LeO.ite ?_ ?_
   | refine LeO.bind ?_ (fun _ => ?_)
  ·intro y0 y1 y2
   unfold drayagelaw03_works.l0
   repeat' first
   | (with_reducible exact ih0 _ _ _)
   | (with_reducible exact ih1 _ _ _)
   | (with_reducible exact label_Holds.mono _ _ _)
   | (with_reducible exact LeO.refl _)
   | (with_reducible exact LeO.none _)
   | (with_reducible refine LeO.ite ?_ ?_)
   | (with_reducible refine LeO.bind ?_ (fun _ => ?_))
   | exact ih0 _ _ _
   | exact ih1 _ _ _
   | exact label_Holds.mono _ _ _
   | exact LeO.none _
   | refine LeO.ite ?_ ?_
   | refine LeO.bind ?_ (fun _ => ?_)
theorem drayagelaw03_works.mono : ∀ k, LeO (drayagelaw03_works.f k ) (drayagelaw03_works.f (k + 1) ) := by
 intro  k
 obtain ⟨ih0, ih1⟩ := drayagelaw03_works.mono_l k
 unfold drayagelaw03_works.f
 repeat' first
   | (with_reducible exact ih0 _ _ _)
   | (with_reducible exact ih1 _ _ _)
   | (with_reducible exact label_Holds.mono _ _ _)
   | (with_reducible exact LeO.refl _)
   | (with_reducible exact LeO.none _)
   | (with_reducible refine LeO.ite ?_ ?_)
   | (with_reducible refine LeO.bind ?_ (fun _ => ?_))
   | exact ih0 _ _ _
   | exact ih1 _ _ _
   | exact label_Holds.mono _ _ _
   | exact LeO.none _
   | refine LeO.ite ?_ ?_
   | refine LeO.bind ?_ (fun _ => ?_)
theorem works_f : drayagelaw03_works.f 12 = some true := by kernel_rfl
set_option maxHeartbeats 8000000 in
set_option maxRecDepth 100000 in
theorem drayagelaw03_works.calls (k : Nat)  (r : Bool) (w : World) (h : drayagelaw03_works.f k  = some r) :
  Calls Try.prog 16 #[] w fun e w' => e = .returned (.bool r) ∧ Below w.heap.size w w' := by
 have hu38 := Try.underlying38
 have hu43 := Try.underlying43
 obtain rfl : r = true := by
    have h1 := at_rounds drayagelaw03_works.mono (Nat.le_max_left k 12) h
    exact Option.some.inj (h1.symm.trans (at_rounds drayagelaw03_works.mono (Nat.le_max_right k 12) works_f))
 have HB := Aside0.mk (Below.refl w.heap.size w)
 have H : ((label_Terms.f (⟨#[97, 61, 98, 44, 99, 33, 61, 100, 44, 101, 44, 33, 102]⟩ : ByteArray)).bind fun bt194 => ((some (([(⟨1, (⟨#[97]⟩ : ByteArray), (⟨#[98]⟩ : ByteArray)⟩ : S38), (⟨2, (⟨#[99]⟩ : ByteArray), (⟨#[100]⟩ : ByteArray)⟩ : S38), (⟨3, (⟨#[101]⟩ : ByteArray), (⟨#[]⟩ : ByteArray)⟩ : S38), (⟨4, (⟨#[102]⟩ : ByteArray), (⟨#[]⟩ : ByteArray)⟩ : S38)] : List (S38)) : List (S38))).bind fun y199 => (if bt194.2.2 = 0 then (if (bt194.1.length : Int) = 4 then ((label_PrintTerms.f bt194.1).bind fun t202 => (drayagelaw03_works.j0 k bt194.1 y199 (t202.toList != ([97, 61, 98, 44, 99, 33, 61, 100, 44, 101, 44, 33, 102] : List UInt8)))) else (drayagelaw03_works.j0 k bt194.1 y199 true)) else (drayagelaw03_works.j0 k bt194.1 y199 true)))) = some true := h
 clear h
 replace H := Option.bind_eq_some_iff.mp H
 obtain ⟨⟨t194, t195, t196⟩, A10, H⟩ := H
 try dsimp only at H
 have A1 := Aside0.mk A10
 clear A10
 obtain ⟨y199, hy199⟩ : ∃ y_ : List (S38), y_ = (([(⟨1, (⟨#[97]⟩ : ByteArray), (⟨#[98]⟩ : ByteArray)⟩ : S38), (⟨2, (⟨#[99]⟩ : ByteArray), (⟨#[100]⟩ : ByteArray)⟩ : S38), (⟨3, (⟨#[101]⟩ : ByteArray), (⟨#[]⟩ : ByteArray)⟩ : S38), (⟨4, (⟨#[102]⟩ : ByteArray), (⟨#[]⟩ : ByteArray)⟩ : S38)] : List (S38))) := ⟨_, rfl⟩
 replace H : (if t196 = 0 then (if (t194.length : Int) = 4 then ((label_PrintTerms.f t194).bind fun t202 => (drayagelaw03_works.j0 k t194 y199 (t202.toList != ([97, 61, 98, 44, 99, 33, 61, 100, 44, 101, 44, 33, 102] : List UInt8)))) else (drayagelaw03_works.j0 k t194 y199 true)) else (drayagelaw03_works.j0 k t194 y199 true)) = some true := by first | (rw [hy199]; with_reducible exact H) | (have H2_ := (Option.bind_some _ _).symm.trans H; rw [hy199]; with_reducible exact H2_) | (have H2_ := (Option.bind_some _ _).symm.trans H; with_reducible exact H2_) | with_reducible exact H | (rw [hy199]; exact H) | exact H
 have Ny199 := Aside0.mk hy199
 clear hy199
 have HC2 := Aside0.mk H
 clear H
 go_enter Try.func16, Try.ntmps16
 go_upto_region 3 with (first | (go_at_call 12; (with_reducible refine (label_Terms.calls (⟨#[97, 61, 98, 44, 99, 33, 61, 100, 44, 101, 44, 33, 102]⟩ : ByteArray) t194 t195 t196 _ A1.out).mono ?_); rintro e w3 ⟨v197, rfl, ho0, hb⟩; have HO198 := Aside0.mk (Kd.R_lower ho0 (below_size bw_)); replace HB := Aside0.mk (below_step bw_ hb); (try clear hb); (try clear hb2); (try clear hk); (try clear hi); (try clear ho0)) | ((with_reducible refine gate_dst (N := 21) rfl ?_); (try (refine gate_guard (by rfl) ?_; dsimp only)); refine Kd.R_lit k38 _ 38 ?hg (N := 21) ?hd (xs := ([(⟨1, (⟨#[97]⟩ : ByteArray), (⟨#[98]⟩ : ByteArray)⟩ : S38), (⟨2, (⟨#[99]⟩ : ByteArray), (⟨#[100]⟩ : ByteArray)⟩ : S38), (⟨3, (⟨#[101]⟩ : ByteArray), (⟨#[]⟩ : ByteArray)⟩ : S38), (⟨4, (⟨#[102]⟩ : ByteArray), (⟨#[]⟩ : ByteArray)⟩ : S38)] : List (S38))) (inner := [.int .i64 1, .string (⟨#[97]⟩ : ByteArray), .string (⟨#[98]⟩ : ByteArray), .int .i64 2, .string (⟨#[99]⟩ : ByteArray), .string (⟨#[100]⟩ : ByteArray), .int .i64 3, .string (⟨#[101]⟩ : ByteArray), .string (⟨#[]⟩ : ByteArray), .int .i64 4, .string (⟨#[102]⟩ : ByteArray), .string (⟨#[]⟩ : ByteArray)]) (ok := fun _ => True) (okp := fun _ => True) ?hr ?hp (fun _ hk => hk) trivial (Below.refl _ _) (Nat.le_refl _) (by simp) ?_; (case hd => rfl); (case hg => rfl); (case hr => first | (go_simp; done) | (go_simp; rfl)); (case hp => exact (Reps.c3 (show Kd.M k38 _ _ _ (⟨1, (⟨#[97]⟩ : ByteArray), (⟨#[98]⟩ : ByteArray)⟩ : S38) [.int .i64 1, .string (⟨#[97]⟩ : ByteArray), .string (⟨#[98]⟩ : ByteArray)] from (k38_mkM _ _ _ (⟨1, (⟨#[97]⟩ : ByteArray), (⟨#[98]⟩ : ByteArray)⟩ : S38) )) (Reps.c3 (show Kd.M k38 _ _ _ (⟨2, (⟨#[99]⟩ : ByteArray), (⟨#[100]⟩ : ByteArray)⟩ : S38) [.int .i64 2, .string (⟨#[99]⟩ : ByteArray), .string (⟨#[100]⟩ : ByteArray)] from (k38_mkM _ _ _ (⟨2, (⟨#[99]⟩ : ByteArray), (⟨#[100]⟩ : ByteArray)⟩ : S38) )) (Reps.c3 (show Kd.M k38 _ _ _ (⟨3, (⟨#[101]⟩ : ByteArray), (⟨#[]⟩ : ByteArray)⟩ : S38) [.int .i64 3, .string (⟨#[101]⟩ : ByteArray), .string (⟨#[]⟩ : ByteArray)] from (k38_mkM _ _ _ (⟨3, (⟨#[101]⟩ : ByteArray), (⟨#[]⟩ : ByteArray)⟩ : S38) )) (Reps.c3 (show Kd.M k38 _ _ _ (⟨4, (⟨#[102]⟩ : ByteArray), (⟨#[]⟩ : ByteArray)⟩ : S38) [.int .i64 4, .string (⟨#[102]⟩ : ByteArray), .string (⟨#[]⟩ : ByteArray)] from (k38_mkM _ _ _ (⟨4, (⟨#[102]⟩ : ByteArray), (⟨#[]⟩ : ByteArray)⟩ : S38) )) (Reps.none _ _)))))); intro v200 w4 ho5 hb hg_ hnew_; clear hg_ hnew_; (first | rw [← Ny199.out] at ho5 | (simp only [Int.reduceToNat] at ho5; rw [← Ny199.out] at ho5)); have HO201 := Aside0.mk (Kd.R_lower (Kd.R_new' ho5 (Kd.R_lt (ra_ HO198.out))) (below_size bw_)); replace HO198 := Aside0.mk (Kd.R_elder' (ra_ HO198.out) (Kd.R_base ho5) hb); replace HB := Aside0.mk (below_step bw_ hb); clear hb ho5))
 repeat (go_quiet (first | (go_at_call 12; (with_reducible refine (label_Terms.calls (⟨#[97, 61, 98, 44, 99, 33, 61, 100, 44, 101, 44, 33, 102]⟩ : ByteArray) t194 t195 t196 _ A1.out).mono ?_); rintro e w3 ⟨v197, rfl, ho0, hb⟩; have HO198 := Aside0.mk (Kd.R_lower ho0 (below_size bw_)); replace HB := Aside0.mk (below_step bw_ hb); (try clear hb); (try clear hb2); (try clear hk); (try clear hi); (try clear ho0)) | ((with_reducible refine gate_dst (N := 21) rfl ?_); (try (refine gate_guard (by rfl) ?_; dsimp only)); refine Kd.R_lit k38 _ 38 ?hg (N := 21) ?hd (xs := ([(⟨1, (⟨#[97]⟩ : ByteArray), (⟨#[98]⟩ : ByteArray)⟩ : S38), (⟨2, (⟨#[99]⟩ : ByteArray), (⟨#[100]⟩ : ByteArray)⟩ : S38), (⟨3, (⟨#[101]⟩ : ByteArray), (⟨#[]⟩ : ByteArray)⟩ : S38), (⟨4, (⟨#[102]⟩ : ByteArray), (⟨#[]⟩ : ByteArray)⟩ : S38)] : List (S38))) (inner := [.int .i64 1, .string (⟨#[97]⟩ : ByteArray), .string (⟨#[98]⟩ : ByteArray), .int .i64 2, .string (⟨#[99]⟩ : ByteArray), .string (⟨#[100]⟩ : ByteArray), .int .i64 3, .string (⟨#[101]⟩ : ByteArray), .string (⟨#[]⟩ : ByteArray), .int .i64 4, .string (⟨#[102]⟩ : ByteArray), .string (⟨#[]⟩ : ByteArray)]) (ok := fun _ => True) (okp := fun _ => True) ?hr ?hp (fun _ hk => hk) trivial (Below.refl _ _) (Nat.le_refl _) (by simp) ?_; (case hd => rfl); (case hg => rfl); (case hr => first | (go_simp; done) | (go_simp; rfl)); (case hp => exact (Reps.c3 (show Kd.M k38 _ _ _ (⟨1, (⟨#[97]⟩ : ByteArray), (⟨#[98]⟩ : ByteArray)⟩ : S38) [.int .i64 1, .string (⟨#[97]⟩ : ByteArray), .string (⟨#[98]⟩ : ByteArray)] from (k38_mkM _ _ _ (⟨1, (⟨#[97]⟩ : ByteArray), (⟨#[98]⟩ : ByteArray)⟩ : S38) )) (Reps.c3 (show Kd.M k38 _ _ _ (⟨2, (⟨#[99]⟩ : ByteArray), (⟨#[100]⟩ : ByteArray)⟩ : S38) [.int .i64 2, .string (⟨#[99]⟩ : ByteArray), .string (⟨#[100]⟩ : ByteArray)] from (k38_mkM _ _ _ (⟨2, (⟨#[99]⟩ : ByteArray), (⟨#[100]⟩ : ByteArray)⟩ : S38) )) (Reps.c3 (show Kd.M k38 _ _ _ (⟨3, (⟨#[101]⟩ : ByteArray), (⟨#[]⟩ : ByteArray)⟩ : S38) [.int .i64 3, .string (⟨#[101]⟩ : ByteArray), .string (⟨#[]⟩ : ByteArray)] from (k38_mkM _ _ _ (⟨3, (⟨#[101]⟩ : ByteArray), (⟨#[]⟩ : ByteArray)⟩ : S38) )) (Reps.c3 (show Kd.M k38 _ _ _ (⟨4, (⟨#[102]⟩ : ByteArray), (⟨#[]⟩ : ByteArray)⟩ : S38) [.int .i64 4, .string (⟨#[102]⟩ : ByteArray), .string (⟨#[]⟩ : ByteArray)] from (k38_mkM _ _ _ (⟨4, (⟨#[102]⟩ : ByteArray), (⟨#[]⟩ : ByteArray)⟩ : S38) )) (Reps.none _ _)))))); intro v200 w4 ho5 hb hg_ hnew_; clear hg_ hnew_; (first | rw [← Ny199.out] at ho5 | (simp only [Int.reduceToNat] at ho5; rw [← Ny199.out] at ho5)); have HO201 := Aside0.mk (Kd.R_lower (Kd.R_new' ho5 (Kd.R_lt (ra_ HO198.out))) (below_size bw_)); replace HO198 := Aside0.mk (Kd.R_elder' (ra_ HO198.out) (Kd.R_base ho5) hb); replace HB := Aside0.mk (below_step bw_ hb); clear hb ho5)); go_upto_region 3 with (first | (go_at_call 12; (with_reducible refine (label_Terms.calls (⟨#[97, 61, 98, 44, 99, 33, 61, 100, 44, 101, 44, 33, 102]⟩ : ByteArray) t194 t195 t196 _ A1.out).mono ?_); rintro e w3 ⟨v197, rfl, ho0, hb⟩; have HO198 := Aside0.mk (Kd.R_lower ho0 (below_size bw_)); replace HB := Aside0.mk (below_step bw_ hb); (try clear hb); (try clear hb2); (try clear hk); (try clear hi); (try clear ho0)) | ((with_reducible refine gate_dst (N := 21) rfl ?_); (try (refine gate_guard (by rfl) ?_; dsimp only)); refine Kd.R_lit k38 _ 38 ?hg (N := 21) ?hd (xs := ([(⟨1, (⟨#[97]⟩ : ByteArray), (⟨#[98]⟩ : ByteArray)⟩ : S38), (⟨2, (⟨#[99]⟩ : ByteArray), (⟨#[100]⟩ : ByteArray)⟩ : S38), (⟨3, (⟨#[101]⟩ : ByteArray), (⟨#[]⟩ : ByteArray)⟩ : S38), (⟨4, (⟨#[102]⟩ : ByteArray), (⟨#[]⟩ : ByteArray)⟩ : S38)] : List (S38))) (inner := [.int .i64 1, .string (⟨#[97]⟩ : ByteArray), .string (⟨#[98]⟩ : ByteArray), .int .i64 2, .string (⟨#[99]⟩ : ByteArray), .string (⟨#[100]⟩ : ByteArray), .int .i64 3, .string (⟨#[101]⟩ : ByteArray), .string (⟨#[]⟩ : ByteArray), .int .i64 4, .string (⟨#[102]⟩ : ByteArray), .string (⟨#[]⟩ : ByteArray)]) (ok := fun _ => True) (okp := fun _ => True) ?hr ?hp (fun _ hk => hk) trivial (Below.refl _ _) (Nat.le_refl _) (by simp) ?_; (case hd => rfl); (case hg => rfl); (case hr => first | (go_simp; done) | (go_simp; rfl)); (case hp => exact (Reps.c3 (show Kd.M k38 _ _ _ (⟨1, (⟨#[97]⟩ : ByteArray), (⟨#[98]⟩ : ByteArray)⟩ : S38) [.int .i64 1, .string (⟨#[97]⟩ : ByteArray), .string (⟨#[98]⟩ : ByteArray)] from (k38_mkM _ _ _ (⟨1, (⟨#[97]⟩ : ByteArray), (⟨#[98]⟩ : ByteArray)⟩ : S38) )) (Reps.c3 (show Kd.M k38 _ _ _ (⟨2, (⟨#[99]⟩ : ByteArray), (⟨#[100]⟩ : ByteArray)⟩ : S38) [.int .i64 2, .string (⟨#[99]⟩ : ByteArray), .string (⟨#[100]⟩ : ByteArray)] from (k38_mkM _ _ _ (⟨2, (⟨#[99]⟩ : ByteArray), (⟨#[100]⟩ : ByteArray)⟩ : S38) )) (Reps.c3 (show Kd.M k38 _ _ _ (⟨3, (⟨#[101]⟩ : ByteArray), (⟨#[]⟩ : ByteArray)⟩ : S38) [.int .i64 3, .string (⟨#[101]⟩ : ByteArray), .string (⟨#[]⟩ : ByteArray)] from (k38_mkM _ _ _ (⟨3, (⟨#[101]⟩ : ByteArray), (⟨#[]⟩ : ByteArray)⟩ : S38) )) (Reps.c3 (show Kd.M k38 _ _ _ (⟨4, (⟨#[102]⟩ : ByteArray), (⟨#[]⟩ : ByteArray)⟩ : S38) [.int .i64 4, .string (⟨#[102]⟩ : ByteArray), .string (⟨#[]⟩ : ByteArray)] from (k38_mkM _ _ _ (⟨4, (⟨#[102]⟩ : ByteArray), (⟨#[]⟩ : ByteArray)⟩ : S38) )) (Reps.none _ _)))))); intro v200 w4 ho5 hb hg_ hnew_; clear hg_ hnew_; (first | rw [← Ny199.out] at ho5 | (simp only [Int.reduceToNat] at ho5; rw [← Ny199.out] at ho5)); have HO201 := Aside0.mk (Kd.R_lower (Kd.R_new' ho5 (Kd.R_lt (ra_ HO198.out))) (below_size bw_)); replace HO198 := Aside0.mk (Kd.R_elder' (ra_ HO198.out) (Kd.R_base ho5) hb); replace HB := Aside0.mk (below_step bw_ hb); clear hb ho5)))
 (try simp only [Act.put, List.setIfInBounds_toArray, List.set_cons_zero, List.set_cons_succ])
 go_cut [33] (fun v33 wc => ∃ (kq : Nat) (x33_1 : Bool), v33 = .bool x33_1 ∧ Aside0 (drayagelaw03_works.j0 kq t194 y199 x33_1 = some true) ∧ Aside0 (kq ≤ k) ∧ Aside0 (Kd.R k38 38 wc w.heap.size (fun k_ => some k_ ≠ (v200 : Value).ownBlock) v197 t194) ∧ Aside0 (Kd.R k38 38 wc w.heap.size (fun k_ => some k_ ≠ (v197 : Value).ownBlock) v200 y199) ∧ Aside0 (Below w.heap.size w wc))
 case first =>
  have H := HC2.out
  clear HC2
  by_cases c6 : t196 = 0
  ·rw [if_pos c6] at H
   have c6b0 : (t196 == 0) = true := beq_iff_eq.mpr c6
   have c6b1 : (t196 != 0) = false := bne_eq_false_iff_eq.mpr c6
   clear c6
   (first | rw [c6b0] | (simp only [i64_w, i32_w]; rw [c6b0]) | skip)
   by_cases c7 : (t194.length : Int) = 4
   ·rw [if_pos c7] at H
    have c7b0 : ((t194.length : Int) == 4) = true := beq_iff_eq.mpr c7
    have c7b1 : ((t194.length : Int) != 4) = false := bne_eq_false_iff_eq.mpr c7
    clear c7
    replace H := Option.bind_eq_some_iff.mp H
    obtain ⟨t202, A80, H⟩ := H
    try dsimp only at H
    have A8 := Aside0.mk A80
    clear A80
    have H' := Aside0.mk H
    clear H
    obtain ⟨Ao9, co9, eo9⟩ := Kd.R_slice HO198.out
    subst eo9
    go_wp2_with (first | (go_at_call 24; (with_reducible refine (label_PrintTerms.calls _ _ t194 t202 _ ?side1 ?side2 A8.out).mono ?_); (case side1 => repeat (first | exact (Kd.R_reads' HO198.out).2.2 | (with_reducible refine Kd.C_alloc ?_ _) | (with_reducible refine Kd.C_drewN ?_ _) | (with_reducible refine Kd.C_drew ?_))); (case side2 => exact (Kd.R_reads' HO198.out).2.1); rintro e w10 ⟨rfl, hb⟩; replace HO198 := Aside0.mk (Kd.R_below (ra_ HO198.out) hb); replace HO201 := Aside0.mk (Kd.R_below (ra_ HO201.out) hb); replace HB := Aside0.mk (below_step bw_ hb); (try clear hb); (try clear hb2); (try clear hk); (try clear hi)))
    repeat (go_quiet (first | (go_at_call 24; (with_reducible refine (label_PrintTerms.calls _ _ t194 t202 _ ?side1 ?side2 A8.out).mono ?_); (case side1 => repeat (first | exact (Kd.R_reads' HO198.out).2.2 | (with_reducible refine Kd.C_alloc ?_ _) | (with_reducible refine Kd.C_drewN ?_ _) | (with_reducible refine Kd.C_drew ?_))); (case side2 => exact (Kd.R_reads' HO198.out).2.1); rintro e w10 ⟨rfl, hb⟩; replace HO198 := Aside0.mk (Kd.R_below (ra_ HO198.out) hb); replace HO201 := Aside0.mk (Kd.R_below (ra_ HO201.out) hb); replace HB := Aside0.mk (below_step bw_ hb); (try clear hb); (try clear hb2); (try clear hk); (try clear hi))); try go_wp2_with (first | (go_at_call 24; (with_reducible refine (label_PrintTerms.calls _ _ t194 t202 _ ?side1 ?side2 A8.out).mono ?_); (case side1 => repeat (first | exact (Kd.R_reads' HO198.out).2.2 | (with_reducible refine Kd.C_alloc ?_ _) | (with_reducible refine Kd.C_drewN ?_ _) | (with_reducible refine Kd.C_drew ?_))); (case side2 => exact (Kd.R_reads' HO198.out).2.1); rintro e w10 ⟨rfl, hb⟩; replace HO198 := Aside0.mk (Kd.R_below (ra_ HO198.out) hb); replace HO201 := Aside0.mk (Kd.R_below (ra_ HO201.out) hb); replace HB := Aside0.mk (below_step bw_ hb); (try clear hb); (try clear hb2); (try clear hk); (try clear hi))))
    go_meet
    case rel => exact ⟨_, ((t202.toList != ([97, 61, 98, 44, 99, 33, 61, 100, 44, 101, 44, 33, 102] : List UInt8))), fs_, H', ⟨by first | omega | exact Nat.le_refl _⟩, ⟨by (with_reducible repeat (first | apply Kd.R_alloc | apply Kd.R_drewN | apply Kd.R_drew)); exact Kd.R_mono HO198.out (fun _ hk => hk.2)⟩, ⟨by (with_reducible repeat (first | apply Kd.R_alloc | apply Kd.R_drewN | apply Kd.R_drew)); exact Kd.R_mono HO201.out (fun _ hk => hk.2)⟩, ⟨bw_⟩⟩
   ·rw [if_neg c7] at H
    have c7b0 : ((t194.length : Int) == 4) = false := beq_eq_false_iff_ne.mpr c7
    have c7b1 : ((t194.length : Int) != 4) = true := bne_iff_ne.mpr c7
    have H' := Aside0.mk H
    clear H
    obtain ⟨Ao11, co11, eo11⟩ := Kd.R_slice HO198.out
    subst eo11
    go_wp2
    repeat (go_quiet (fail); try go_wp2)
    go_meet
    case rel => exact ⟨_, (true), fs_, H', ⟨by first | omega | exact Nat.le_refl _⟩, ⟨by (with_reducible repeat (first | apply Kd.R_alloc | apply Kd.R_drewN | apply Kd.R_drew)); exact Kd.R_mono HO198.out (fun _ hk => hk.2)⟩, ⟨by (with_reducible repeat (first | apply Kd.R_alloc | apply Kd.R_drewN | apply Kd.R_drew)); exact Kd.R_mono HO201.out (fun _ hk => hk.2)⟩, ⟨bw_⟩⟩
  ·rw [if_neg c6] at H
   have c6b0 : (t196 == 0) = false := beq_eq_false_iff_ne.mpr c6
   have c6b1 : (t196 != 0) = true := bne_iff_ne.mpr c6
   (first | rw [c6b0] | (simp only [i64_w, i32_w]; rw [c6b0]) | skip)
   have H' := Aside0.mk H
   clear H
   go_wp2
   repeat (go_quiet (fail); try go_wp2)
   go_meet
   case rel => exact ⟨_, (true), fs_, H', ⟨by first | omega | exact Nat.le_refl _⟩, ⟨by (with_reducible repeat (first | apply Kd.R_alloc | apply Kd.R_drewN | apply Kd.R_drew)); exact Kd.R_mono HO198.out (fun _ hk => hk.2)⟩, ⟨by (with_reducible repeat (first | apply Kd.R_alloc | apply Kd.R_drewN | apply Kd.R_drew)); exact Kd.R_mono HO201.out (fun _ hk => hk.2)⟩, ⟨bw_⟩⟩
 case rest =>
  clear HC2
  (try clear c1); (try clear p2); (try clear c3); (try clear c6); (try clear c6b0); (try clear c6b1); (try clear c7); (try clear c7b0); (try clear c7b1)
  obtain ⟨kq, x33_1, rfl, HA, HJ1, HO_1, HO_4, HB⟩ := hcut
  cases kq with
  | zero => exact absurd HA.out (by simp [drayagelaw03_works.j0])
  | succ kj1 =>
   have H := HA.out
   clear HA
   simp only [drayagelaw03_works.j0] at H
   by_cases c12 : x33_1 = true
   ·subst c12
    have H1 : (some false) = some true := by rw [if_pos rfl] at H; exact H
    exact absurd H1 (by (repeat' split) <;> simp)
   ·replace c12 := Bool.eq_false_iff.mpr c12
    subst c12
    have H1 : (drayagelaw03_works.l0 kj1 t194 y199 0) = some true := by rw [if_neg (show ¬ (false = true) by decide)] at H; exact H
    clear H
    have H := H1
    clear H1
    have H' := Aside0.mk H
    clear H
    go_wp2
    repeat (go_quiet (fail); try go_wp2)
    go_loopg [5] kj1 (fun kq v5 w' => ∃ (x5_2 : Int), v5 = .int .i64 x5_2 ∧ Aside0 (drayagelaw03_works.l0 kq t194 y199 x5_2 = some true) ∧ Aside0 (kq ≤ kj1) ∧ Aside0 (Kd.R k38 38 w' w.heap.size (fun k_ => some k_ ≠ (v200 : Value).ownBlock) v197 t194) ∧ Aside0 (Kd.R k38 38 w' w.heap.size (fun k_ => some k_ ≠ (v197 : Value).ownBlock) v200 y199) ∧ Aside0 (Below w.heap.size w w'))
    case atStart => exact ⟨(0), fs_, H', ⟨Nat.le_refl _⟩, ⟨by (with_reducible repeat (first | apply Kd.R_alloc | apply Kd.R_drewN | apply Kd.R_drew)); exact HO_1.out⟩, ⟨by (with_reducible repeat (first | apply Kd.R_alloc | apply Kd.R_drewN | apply Kd.R_drew)); exact HO_4.out⟩, ⟨bw_⟩⟩
    case round =>
     clear H'
     (try clear c1); (try clear p2); (try clear c3); (try clear c6); (try clear c6b0); (try clear c6b1); (try clear c7); (try clear c7b0); (try clear c7b1); (try clear c12); (try clear p2)
     obtain ⟨x5_2, rfl, HA, HK2, HO_1, HO_4, HB⟩ := hrel
     cases gk with
     | zero => exact absurd HA.out (by simp [drayagelaw03_works.l0])
     | succ k2 =>
      have H := HA.out
      clear HA
      simp only [drayagelaw03_works.l0] at H
      by_cases c13 : x5_2 < 4
      ·rw [if_pos c13] at H
       have c13b0 : decide (x5_2 < 4) = true := decide_eq_true c13
       clear c13
       by_cases c14 : 0 ≤ x5_2
       ·rw [if_pos c14] at H
        have c14b0 : decide (0 ≤ x5_2) = true := decide_eq_true c14
        clear c14
        by_cases c15 : x5_2 < (t194.length : Int)
        ·rw [if_pos c15] at H
         have c15b0 : decide (x5_2 < (t194.length : Int)) = true := decide_eq_true c15
         clear c15
         by_cases c16 : x5_2 < (y199.length : Int)
         ·rw [if_pos c16] at H
          have c16b0 : decide (x5_2 < (y199.length : Int)) = true := decide_eq_true c16
          clear c16
          by_cases c17 : (!(((rd_T38 t194 x5_2).f0) == ((rd_T38 y199 x5_2).f0)) || (!((((rd_T38 t194 x5_2).f1).toList) == (((rd_T38 y199 x5_2).f1).toList)) || (!((((rd_T38 t194 x5_2).f2).toList) == (((rd_T38 y199 x5_2).f2).toList))))) = true
          ·rw [if_pos c17] at H
           have c17b0 : (!(((rd_T38 t194 x5_2).f0) == ((rd_T38 y199 x5_2).f0)) || (!((((rd_T38 t194 x5_2).f1).toList) == (((rd_T38 y199 x5_2).f1).toList)) || (!((((rd_T38 t194 x5_2).f2).toList) == (((rd_T38 y199 x5_2).f2).toList))))) = true := c17
           clear c17
           have HL_ := Option.some.inj H
           obtain ⟨Ao18, co18, eo18⟩ := Kd.R_slice HO_1.out
           subst eo18
           have p203 : 0 ≤ (x5_2 : Int) := of_decide_eq_true (by first | (with_reducible assumption) | assumption)
           have q203 : x5_2 < (t194.length : Int) := of_decide_eq_true (by first | (with_reducible assumption) | assumption)
           obtain ⟨ad203, e203, hx203_0, hx203_1, hx203_2⟩ := at_T38 (Kd.R_reads' HO_1.out).2.2 x5_2 p203 q203
           cases e203
           replace p203 := eq_true p203
           replace q203 := eq_true q203
           obtain ⟨Ao19, co19, eo19⟩ := Kd.R_slice HO_4.out
           subst eo19
           have p204 : 0 ≤ (x5_2 : Int) := of_decide_eq_true (by first | (with_reducible assumption) | assumption)
           have q204 : x5_2 < (y199.length : Int) := of_decide_eq_true (by first | (with_reducible assumption) | assumption)
           obtain ⟨ad204, e204, hx204_0, hx204_1, hx204_2⟩ := at_T38 (Kd.R_reads' HO_4.out).2.2 x5_2 p204 q204
           cases e204
           replace p204 := eq_true p204
           replace q204 := eq_true q204
           go_wp2
           repeat (go_quiet (fail); try go_wp2)
           go_ret
           exact ⟨fi_, bw_⟩
          ·rw [if_neg c17] at H
           have c17b0 : (!(((rd_T38 t194 x5_2).f0) == ((rd_T38 y199 x5_2).f0)) || (!((((rd_T38 t194 x5_2).f1).toList) == (((rd_T38 y199 x5_2).f1).toList)) || (!((((rd_T38 t194 x5_2).f2).toList) == (((rd_T38 y199 x5_2).f2).toList))))) = false := by simpa using c17
           clear c17
           have H' := Aside0.mk H
           clear H
           obtain ⟨Ao20, co20, eo20⟩ := Kd.R_slice HO_1.out
           subst eo20
           have p203 : 0 ≤ (x5_2 : Int) := of_decide_eq_true (by first | (with_reducible assumption) | assumption)
           have q203 : x5_2 < (t194.length : Int) := of_decide_eq_true (by first | (with_reducible assumption) | assumption)
           obtain ⟨ad203, e203, hx203_0, hx203_1, hx203_2⟩ := at_T38 (Kd.R_reads' HO_1.out).2.2 x5_2 p203 q203
           cases e203
           replace p203 := eq_true p203
           replace q203 := eq_true q203
           obtain ⟨Ao21, co21, eo21⟩ := Kd.R_slice HO_4.out
           subst eo21
           have p204 : 0 ≤ (x5_2 : Int) := of_decide_eq_true (by first | (with_reducible assumption) | assumption)
           have q204 : x5_2 < (y199.length : Int) := of_decide_eq_true (by first | (with_reducible assumption) | assumption)
           obtain ⟨ad204, e204, hx204_0, hx204_1, hx204_2⟩ := at_T38 (Kd.R_reads' HO_4.out).2.2 x5_2 p204 q204
           cases e204
           replace p204 := eq_true p204
           replace q204 := eq_true q204
           go_wp2
           repeat (go_quiet (fail); try go_wp2)
           go_roundg k2
           case measure => have := HJ1.out; have := HK2.out; omega
           case rel => exact ⟨(wrap64 (x5_2 + 1)), fs_, H', ⟨by have := HJ1.out; have := HK2.out; omega⟩, ⟨by (with_reducible repeat (first | apply Kd.R_alloc | apply Kd.R_drewN | apply Kd.R_drew)); exact HO_1.out⟩, ⟨by (with_reducible repeat (first | apply Kd.R_alloc | apply Kd.R_drewN | apply Kd.R_drew)); exact HO_4.out⟩, ⟨bw_⟩⟩
         ·rw [if_neg c16] at H
          exact absurd H (by simp)
        ·rw [if_neg c15] at H
         exact absurd H (by simp)
       ·rw [if_neg c14] at H
        exact absurd H (by simp)
      ·rw [if_neg c13] at H
       have c13b0 : decide (x5_2 < 4) = false := decide_eq_false c13
       clear c13
       replace H := Option.bind_eq_some_iff.mp H
       obtain ⟨⟨t205, t206, t207⟩, A220, H⟩ := H
       try dsimp only at H
       have A22 := Aside0.mk A220
       clear A220
       obtain ⟨y210, hy210⟩ : ∃ y_ : List (S43), y_ = (([(⟨(⟨#[97]⟩ : ByteArray), (⟨#[98]⟩ : ByteArray)⟩ : S43), (⟨(⟨#[101]⟩ : ByteArray), (⟨#[120]⟩ : ByteArray)⟩ : S43)] : List (S43))) := ⟨_, rfl⟩
       replace H : ((label_Holds.f k2 t194 y210).bind fun t213 => ((drayagelaw03_wrong.f (⟨#[97, 61]⟩ : ByteArray) 2 3).bind fun t214 => (if t214 = true then ((drayagelaw03_wrong.f (⟨#[98, 61, 49, 44, 97, 61, 50]⟩ : ByteArray) 4 4).bind fun t215 => (if t215 = true then ((drayagelaw03_wrong.f (⟨#[65, 61, 49]⟩ : ByteArray) 0 4).bind fun t216 => (if t216 = true then ((drayagelaw03_wrong.f (⟨#[97, 61, 49, 44]⟩ : ByteArray) 4 3).bind fun t217 => ((some (([(⟨(⟨#[107]⟩ : ByteArray), (⟨#[118]⟩ : ByteArray)⟩ : S43)] : List (S43)) : List (S43))).bind fun y218 => (if t213 = true then (if t217 = true then (if t207 = 0 then (if (t205.length : Int) = 1 then ((label_Bears.f t205 y218).bind fun t221 => (if t221 = true then ((label_Bears.f (([(⟨(⟨#[107]⟩ : ByteArray), (⟨#[119]⟩ : ByteArray)⟩ : S43)] : List (S43))) y218).bind fun t225 => (some (!t225))) else (some false))) else (some false)) else (some false)) else (some false)) else (some false)))) else (if t213 = true then (some false) else (some false)))) else (if t213 = true then (some false) else (some false)))) else (if t213 = true then (some false) else (some false))))) = some true := by first | (rw [hy210]; with_reducible exact H) | (have H2_ := (Option.bind_some _ _).symm.trans H; rw [hy210]; with_reducible exact H2_) | (have H2_ := (Option.bind_some _ _).symm.trans H; with_reducible exact H2_) | with_reducible exact H | (rw [hy210]; exact H) | exact H
       have Ny210 := Aside0.mk hy210
       clear hy210
       replace H := Option.bind_eq_some_iff.mp H
       obtain ⟨t213, A230, H⟩ := H
       try dsimp only at H
       have A23 := Aside0.mk A230
       clear A230
       replace H := Option.bind_eq_some_iff.mp H
       obtain ⟨t214, A240, H⟩ := H
       try dsimp only at H
       have A24 := Aside0.mk A240
       clear A240
       by_cases c25 : t214 = true
       ·subst c25
        rw [if_pos rfl] at H
        replace H := Option.bind_eq_some_iff.mp H
        obtain ⟨t215, A260, H⟩ := H
        try dsimp only at H
        have A26 := Aside0.mk A260
        clear A260
        by_cases c27 : t215 = true
        ·subst c27
         rw [if_pos rfl] at H
         replace H := Option.bind_eq_some_iff.mp H
         obtain ⟨t216, A280, H⟩ := H
         try dsimp only at H
         have A28 := Aside0.mk A280
         clear A280
         by_cases c29 : t216 = true
         ·subst c29
          rw [if_pos rfl] at H
          replace H := Option.bind_eq_some_iff.mp H
          obtain ⟨t217, A300, H⟩ := H
          try dsimp only at H
          have A30 := Aside0.mk A300
          clear A300
          obtain ⟨y218, hy218⟩ : ∃ y_ : List (S43), y_ = (([(⟨(⟨#[107]⟩ : ByteArray), (⟨#[118]⟩ : ByteArray)⟩ : S43)] : List (S43))) := ⟨_, rfl⟩
          replace H : (if t213 = true then (if t217 = true then (if t207 = 0 then (if (t205.length : Int) = 1 then ((label_Bears.f t205 y218).bind fun t221 => (if t221 = true then ((label_Bears.f (([(⟨(⟨#[107]⟩ : ByteArray), (⟨#[119]⟩ : ByteArray)⟩ : S43)] : List (S43))) y218).bind fun t225 => (some (!t225))) else (some false))) else (some false)) else (some false)) else (some false)) else (some false)) = some true := by first | (rw [hy218]; with_reducible exact H) | (have H2_ := (Option.bind_some _ _).symm.trans H; rw [hy218]; with_reducible exact H2_) | (have H2_ := (Option.bind_some _ _).symm.trans H; with_reducible exact H2_) | with_reducible exact H | (rw [hy218]; exact H) | exact H
          have Ny218 := Aside0.mk hy218
          clear hy218
          by_cases c31 : t213 = true
          ·subst c31
           rw [if_pos rfl] at H
           by_cases c32 : t217 = true
           ·subst c32
            rw [if_pos rfl] at H
            by_cases c33 : t207 = 0
            ·rw [if_pos c33] at H
             have c33b0 : (t207 == 0) = true := beq_iff_eq.mpr c33
             have c33b1 : (t207 != 0) = false := bne_eq_false_iff_eq.mpr c33
             clear c33
             by_cases c34 : (t205.length : Int) = 1
             ·rw [if_pos c34] at H
              have c34b0 : ((t205.length : Int) == 1) = true := beq_iff_eq.mpr c34
              have c34b1 : ((t205.length : Int) != 1) = false := bne_eq_false_iff_eq.mpr c34
              clear c34
              replace H := Option.bind_eq_some_iff.mp H
              obtain ⟨t221, A350, H⟩ := H
              try dsimp only at H
              have A35 := Aside0.mk A350
              clear A350
              by_cases c36 : t221 = true
              ·subst c36
               rw [if_pos rfl] at H
               obtain ⟨y222, hy222⟩ : ∃ y_ : List (S43), y_ = (([(⟨(⟨#[107]⟩ : ByteArray), (⟨#[119]⟩ : ByteArray)⟩ : S43)] : List (S43))) := ⟨_, rfl⟩
               replace H : ((label_Bears.f y222 y218).bind fun t225 => (some (!t225))) = some true := by first | (rw [hy222]; with_reducible exact H) | (have H2_ := (Option.bind_some _ _).symm.trans H; rw [hy222]; with_reducible exact H2_) | (have H2_ := (Option.bind_some _ _).symm.trans H; with_reducible exact H2_) | with_reducible exact H | (rw [hy222]; exact H) | exact H
               have Ny222 := Aside0.mk hy222
               clear hy222
               replace H := Option.bind_eq_some_iff.mp H
               obtain ⟨t225, A370, H⟩ := H
               try dsimp only at H
               have A37 := Aside0.mk A370
               clear A370
               have HL_ := Option.some.inj H
               go_wp2_with (first | (go_at_call 10; (with_reducible refine (label_Borne.calls (⟨#[107, 61, 42]⟩ : ByteArray) t205 t206 t207 _ A22.out).mono ?_); rintro e w38 ⟨v208, rfl, ho0, hb⟩; replace HO_1 := Aside0.mk (Kd.R_below (ra_ HO_1.out) hb); replace HO_4 := Aside0.mk (Kd.R_below (ra_ HO_4.out) hb); have HO209 := Aside0.mk (Kd.R_lower ho0 (below_size bw_)); replace HB := Aside0.mk (below_step bw_ hb); (try clear hb); (try clear hb2); (try clear hk); (try clear hi); (try clear ho0)) | ((with_reducible refine gate_dst (N := 55) rfl ?_); (try (refine gate_guard (by rfl) ?_; dsimp only)); refine Kd.R_lit k43 _ 43 ?hg (N := 55) ?hd (xs := ([(⟨(⟨#[97]⟩ : ByteArray), (⟨#[98]⟩ : ByteArray)⟩ : S43), (⟨(⟨#[101]⟩ : ByteArray), (⟨#[120]⟩ : ByteArray)⟩ : S43)] : List (S43))) (inner := [.string (⟨#[97]⟩ : ByteArray), .string (⟨#[98]⟩ : ByteArray), .string (⟨#[101]⟩ : ByteArray), .string (⟨#[120]⟩ : ByteArray)]) (ok := fun _ => True) (okp := fun _ => True) ?hr ?hp (fun _ hk => hk) trivial (Below.refl _ _) (Nat.le_refl _) (by simp) ?_; (case hd => rfl); (case hg => rfl); (case hr => first | (go_simp; done) | (go_simp; rfl)); (case hp => exact (Reps.c2 (show Kd.M k43 _ _ _ (⟨(⟨#[97]⟩ : ByteArray), (⟨#[98]⟩ : ByteArray)⟩ : S43) [.string (⟨#[97]⟩ : ByteArray), .string (⟨#[98]⟩ : ByteArray)] from (k43_mkM _ _ _ (⟨(⟨#[97]⟩ : ByteArray), (⟨#[98]⟩ : ByteArray)⟩ : S43) )) (Reps.c2 (show Kd.M k43 _ _ _ (⟨(⟨#[101]⟩ : ByteArray), (⟨#[120]⟩ : ByteArray)⟩ : S43) [.string (⟨#[101]⟩ : ByteArray), .string (⟨#[120]⟩ : ByteArray)] from (k43_mkM _ _ _ (⟨(⟨#[101]⟩ : ByteArray), (⟨#[120]⟩ : ByteArray)⟩ : S43) )) (Reps.none _ _)))); intro v211 w39 ho40 hb hg_ hnew_; clear hg_ hnew_; (first | rw [← Ny210.out] at ho40 | (simp only [Int.reduceToNat] at ho40; rw [← Ny210.out] at ho40)); replace HO_1 := Aside0.mk (Kd.R_below (ra_ HO_1.out) hb); replace HO_4 := Aside0.mk (Kd.R_below (ra_ HO_4.out) hb); have HO212 := Aside0.mk (Kd.R_lower (Kd.R_new' ho40 (Kd.R_lt (ra_ HO209.out))) (below_size bw_)); replace HO209 := Aside0.mk (Kd.R_elder' (ra_ HO209.out) (Kd.R_base ho40) hb); replace HB := Aside0.mk (below_step bw_ hb); clear hb ho40; obtain ⟨Ao41, co41, eo41⟩ := Kd.R_slice HO_1.out; subst eo41; obtain ⟨Ao42, co42, eo42⟩ := Kd.R_slice HO212.out; subst eo42) | (go_at_call 19; (with_reducible refine (label_Holds.calls k2 _ _ t194 _ _ y210 true _ ?side1 ?side2 ?side3 ?side4 A23.out).mono ?_); (case side1 => repeat (first | exact (Kd.R_reads' HO_1.out).2.2 | (with_reducible refine Kd.C_alloc ?_ _) | (with_reducible refine Kd.C_drewN ?_ _) | (with_reducible refine Kd.C_drew ?_))); (case side2 => exact (Kd.R_reads' HO_1.out).2.1); (case side3 => repeat (first | exact (Kd.R_reads' HO212.out).2.2 | (with_reducible refine Kd.C_alloc ?_ _) | (with_reducible refine Kd.C_drewN ?_ _) | (with_reducible refine Kd.C_drew ?_))); (case side4 => exact (Kd.R_reads' HO212.out).2.1); rintro e w43 ⟨rfl, hb⟩; replace HO_1 := Aside0.mk (Kd.R_below (ra_ HO_1.out) hb); replace HO_4 := Aside0.mk (Kd.R_below (ra_ HO_4.out) hb); replace HO209 := Aside0.mk (Kd.R_below (ra_ HO209.out) hb); replace HO212 := Aside0.mk (Kd.R_below (ra_ HO212.out) hb); replace HB := Aside0.mk (below_step bw_ hb); (try clear hb); (try clear hb2); (try clear hk); (try clear hi)) | (go_at_call 42; (with_reducible refine (drayagelaw03_wrong.calls (⟨#[97, 61]⟩ : ByteArray) 2 3 true _ A24.out).mono ?_); rintro e w44 ⟨rfl, hb⟩; replace HO_1 := Aside0.mk (Kd.R_below (ra_ HO_1.out) hb); replace HO_4 := Aside0.mk (Kd.R_below (ra_ HO_4.out) hb); replace HO209 := Aside0.mk (Kd.R_below (ra_ HO209.out) hb); replace HO212 := Aside0.mk (Kd.R_below (ra_ HO212.out) hb); replace HB := Aside0.mk (below_step bw_ hb); (try clear hb); (try clear hb2); (try clear hk); (try clear hi)) | (go_at_call 42; (with_reducible refine (drayagelaw03_wrong.calls (⟨#[98, 61, 49, 44, 97, 61, 50]⟩ : ByteArray) 4 4 true _ A26.out).mono ?_); rintro e w45 ⟨rfl, hb⟩; replace HO_1 := Aside0.mk (Kd.R_below (ra_ HO_1.out) hb); replace HO_4 := Aside0.mk (Kd.R_below (ra_ HO_4.out) hb); replace HO209 := Aside0.mk (Kd.R_below (ra_ HO209.out) hb); replace HO212 := Aside0.mk (Kd.R_below (ra_ HO212.out) hb); replace HB := Aside0.mk (below_step bw_ hb); (try clear hb); (try clear hb2); (try clear hk); (try clear hi)) | (go_at_call 42; (with_reducible refine (drayagelaw03_wrong.calls (⟨#[65, 61, 49]⟩ : ByteArray) 0 4 true _ A28.out).mono ?_); rintro e w46 ⟨rfl, hb⟩; replace HO_1 := Aside0.mk (Kd.R_below (ra_ HO_1.out) hb); replace HO_4 := Aside0.mk (Kd.R_below (ra_ HO_4.out) hb); replace HO209 := Aside0.mk (Kd.R_below (ra_ HO209.out) hb); replace HO212 := Aside0.mk (Kd.R_below (ra_ HO212.out) hb); replace HB := Aside0.mk (below_step bw_ hb); (try clear hb); (try clear hb2); (try clear hk); (try clear hi)) | (go_at_call 42; (with_reducible refine (drayagelaw03_wrong.calls (⟨#[97, 61, 49, 44]⟩ : ByteArray) 4 3 true _ A30.out).mono ?_); rintro e w47 ⟨rfl, hb⟩; replace HO_1 := Aside0.mk (Kd.R_below (ra_ HO_1.out) hb); replace HO_4 := Aside0.mk (Kd.R_below (ra_ HO_4.out) hb); replace HO209 := Aside0.mk (Kd.R_below (ra_ HO209.out) hb); replace HO212 := Aside0.mk (Kd.R_below (ra_ HO212.out) hb); replace HB := Aside0.mk (below_step bw_ hb); (try clear hb); (try clear hb2); (try clear hk); (try clear hi)) | ((with_reducible refine gate_dst (N := 68) rfl ?_); (try (refine gate_guard (by rfl) ?_; dsimp only)); refine Kd.R_lit k43 _ 43 ?hg (N := 68) ?hd (xs := ([(⟨(⟨#[107]⟩ : ByteArray), (⟨#[118]⟩ : ByteArray)⟩ : S43)] : List (S43))) (inner := [.string (⟨#[107]⟩ : ByteArray), .string (⟨#[118]⟩ : ByteArray)]) (ok := fun _ => True) (okp := fun _ => True) ?hr ?hp (fun _ hk => hk) trivial (Below.refl _ _) (Nat.le_refl _) (by simp) ?_; (case hd => rfl); (case hg => rfl); (case hr => first | (go_simp; done) | (go_simp; rfl)); (case hp => exact (Reps.c2 (show Kd.M k43 _ _ _ (⟨(⟨#[107]⟩ : ByteArray), (⟨#[118]⟩ : ByteArray)⟩ : S43) [.string (⟨#[107]⟩ : ByteArray), .string (⟨#[118]⟩ : ByteArray)] from (k43_mkM _ _ _ (⟨(⟨#[107]⟩ : ByteArray), (⟨#[118]⟩ : ByteArray)⟩ : S43) )) (Reps.none _ _))); intro v219 w48 ho49 hb hg_ hnew_; clear hg_ hnew_; (first | rw [← Ny218.out] at ho49 | (simp only [Int.reduceToNat] at ho49; rw [← Ny218.out] at ho49)); replace HO_1 := Aside0.mk (Kd.R_below (ra_ HO_1.out) hb); replace HO_4 := Aside0.mk (Kd.R_below (ra_ HO_4.out) hb); have HO220 := Aside0.mk (Kd.R_lower (Kd.R_new' (Kd.R_new' ho49 (Kd.R_lt (ra_ HO209.out))) (Kd.R_lt (ra_ HO212.out))) (below_size bw_)); replace HO209 := Aside0.mk (Kd.R_elder' (ra_ HO209.out) (Kd.R_base ho49) hb); replace HO212 := Aside0.mk (Kd.R_elder' (ra_ HO212.out) (Kd.R_base ho49) hb); replace HB := Aside0.mk (below_step bw_ hb); clear hb ho49; obtain ⟨Ao50, co50, eo50⟩ := Kd.R_slice HO209.out; subst eo50; obtain ⟨Ao51, co51, eo51⟩ := Kd.R_slice HO220.out; subst eo51) | (go_at_call 20; (with_reducible refine (label_Bears.calls _ _ t205 _ _ y218 true _ ?side1 ?side2 ?side3 ?side4 A35.out).mono ?_); (case side1 => repeat (first | exact (Kd.R_reads' HO209.out).2.2 | (with_reducible refine Kd.C_alloc ?_ _) | (with_reducible refine Kd.C_drewN ?_ _) | (with_reducible refine Kd.C_drew ?_))); (case side2 => exact (Kd.R_reads' HO209.out).2.1); (case side3 => repeat (first | exact (Kd.R_reads' HO220.out).2.2 | (with_reducible refine Kd.C_alloc ?_ _) | (with_reducible refine Kd.C_drewN ?_ _) | (with_reducible refine Kd.C_drew ?_))); (case side4 => exact (Kd.R_reads' HO220.out).2.1); rintro e w52 ⟨rfl, hb⟩; replace HO_1 := Aside0.mk (Kd.R_below (ra_ HO_1.out) hb); replace HO_4 := Aside0.mk (Kd.R_below (ra_ HO_4.out) hb); replace HO209 := Aside0.mk (Kd.R_below (ra_ HO209.out) hb); replace HO212 := Aside0.mk (Kd.R_below (ra_ HO212.out) hb); replace HO220 := Aside0.mk (Kd.R_below (ra_ HO220.out) hb); replace HB := Aside0.mk (below_step bw_ hb); (try clear hb); (try clear hb2); (try clear hk); (try clear hi)) | ((with_reducible refine gate_dst (N := 89) rfl ?_); (try (refine gate_guard (by rfl) ?_; dsimp only)); refine Kd.R_lit k43 _ 43 ?hg (N := 89) ?hd (xs := ([(⟨(⟨#[107]⟩ : ByteArray), (⟨#[119]⟩ : ByteArray)⟩ : S43)] : List (S43))) (inner := [.string (⟨#[107]⟩ : ByteArray), .string (⟨#[119]⟩ : ByteArray)]) (ok := fun _ => True) (okp := fun _ => True) ?hr ?hp (fun _ hk => hk) trivial (Below.refl _ _) (Nat.le_refl _) (by simp) ?_; (case hd => rfl); (case hg => rfl); (case hr => first | (go_simp; done) | (go_simp; rfl)); (case hp => exact (Reps.c2 (show Kd.M k43 _ _ _ (⟨(⟨#[107]⟩ : ByteArray), (⟨#[119]⟩ : ByteArray)⟩ : S43) [.string (⟨#[107]⟩ : ByteArray), .string (⟨#[119]⟩ : ByteArray)] from (k43_mkM _ _ _ (⟨(⟨#[107]⟩ : ByteArray), (⟨#[119]⟩ : ByteArray)⟩ : S43) )) (Reps.none _ _))); intro v223 w53 ho54 hb hg_ hnew_; clear hg_ hnew_; (first | rw [← Ny222.out] at ho54 | (simp only [Int.reduceToNat] at ho54; rw [← Ny222.out] at ho54)); replace HO_1 := Aside0.mk (Kd.R_below (ra_ HO_1.out) hb); replace HO_4 := Aside0.mk (Kd.R_below (ra_ HO_4.out) hb); have HO224 := Aside0.mk (Kd.R_lower (Kd.R_new' (Kd.R_new' (Kd.R_new' ho54 (Kd.R_lt (ra_ HO209.out))) (Kd.R_lt (ra_ HO212.out))) (Kd.R_lt (ra_ HO220.out))) (below_size bw_)); replace HO209 := Aside0.mk (Kd.R_elder' (ra_ HO209.out) (Kd.R_base ho54) hb); replace HO212 := Aside0.mk (Kd.R_elder' (ra_ HO212.out) (Kd.R_base ho54) hb); replace HO220 := Aside0.mk (Kd.R_elder' (ra_ HO220.out) (Kd.R_base ho54) hb); replace HB := Aside0.mk (below_step bw_ hb); clear hb ho54; obtain ⟨Ao55, co55, eo55⟩ := Kd.R_slice HO224.out; subst eo55) | (go_at_call 20; (with_reducible refine (label_Bears.calls _ _ y222 _ _ y218 t225 _ ?side1 ?side2 ?side3 ?side4 A37.out).mono ?_); (case side1 => repeat (first | exact (Kd.R_reads' HO224.out).2.2 | (with_reducible refine Kd.C_alloc ?_ _) | (with_reducible refine Kd.C_drewN ?_ _) | (with_reducible refine Kd.C_drew ?_))); (case side2 => exact (Kd.R_reads' HO224.out).2.1); (case side3 => repeat (first | exact (Kd.R_reads' HO220.out).2.2 | (with_reducible refine Kd.C_alloc ?_ _) | (with_reducible refine Kd.C_drewN ?_ _) | (with_reducible refine Kd.C_drew ?_))); (case side4 => exact (Kd.R_reads' HO220.out).2.1); rintro e w56 ⟨rfl, hb⟩; replace HO_1 := Aside0.mk (Kd.R_below (ra_ HO_1.out) hb); replace HO_4 := Aside0.mk (Kd.R_below (ra_ HO_4.out) hb); replace HO209 := Aside0.mk (Kd.R_below (ra_ HO209.out) hb); replace HO212 := Aside0.mk (Kd.R_below (ra_ HO212.out) hb); replace HO220 := Aside0.mk (Kd.R_below (ra_ HO220.out) hb); replace HO224 := Aside0.mk (Kd.R_below (ra_ HO224.out) hb); replace HB := Aside0.mk (below_step bw_ hb); (try clear hb); (try clear hb2); (try clear hk); (try clear hi)))
               repeat (go_quiet (first | (go_at_call 10; (with_reducible refine (label_Borne.calls (⟨#[107, 61, 42]⟩ : ByteArray) t205 t206 t207 _ A22.out).mono ?_); rintro e w38 ⟨v208, rfl, ho0, hb⟩; replace HO_1 := Aside0.mk (Kd.R_below (ra_ HO_1.out) hb); replace HO_4 := Aside0.mk (Kd.R_below (ra_ HO_4.out) hb); have HO209 := Aside0.mk (Kd.R_lower ho0 (below_size bw_)); replace HB := Aside0.mk (below_step bw_ hb); (try clear hb); (try clear hb2); (try clear hk); (try clear hi); (try clear ho0)) | ((with_reducible refine gate_dst (N := 55) rfl ?_); (try (refine gate_guard (by rfl) ?_; dsimp only)); refine Kd.R_lit k43 _ 43 ?hg (N := 55) ?hd (xs := ([(⟨(⟨#[97]⟩ : ByteArray), (⟨#[98]⟩ : ByteArray)⟩ : S43), (⟨(⟨#[101]⟩ : ByteArray), (⟨#[120]⟩ : ByteArray)⟩ : S43)] : List (S43))) (inner := [.string (⟨#[97]⟩ : ByteArray), .string (⟨#[98]⟩ : ByteArray), .string (⟨#[101]⟩ : ByteArray), .string (⟨#[120]⟩ : ByteArray)]) (ok := fun _ => True) (okp := fun _ => True) ?hr ?hp (fun _ hk => hk) trivial (Below.refl _ _) (Nat.le_refl _) (by simp) ?_; (case hd => rfl); (case hg => rfl); (case hr => first | (go_simp; done) | (go_simp; rfl)); (case hp => exact (Reps.c2 (show Kd.M k43 _ _ _ (⟨(⟨#[97]⟩ : ByteArray), (⟨#[98]⟩ : ByteArray)⟩ : S43) [.string (⟨#[97]⟩ : ByteArray), .string (⟨#[98]⟩ : ByteArray)] from (k43_mkM _ _ _ (⟨(⟨#[97]⟩ : ByteArray), (⟨#[98]⟩ : ByteArray)⟩ : S43) )) (Reps.c2 (show Kd.M k43 _ _ _ (⟨(⟨#[101]⟩ : ByteArray), (⟨#[120]⟩ : ByteArray)⟩ : S43) [.string (⟨#[101]⟩ : ByteArray), .string (⟨#[120]⟩ : ByteArray)] from (k43_mkM _ _ _ (⟨(⟨#[101]⟩ : ByteArray), (⟨#[120]⟩ : ByteArray)⟩ : S43) )) (Reps.none _ _)))); intro v211 w39 ho40 hb hg_ hnew_; clear hg_ hnew_; (first | rw [← Ny210.out] at ho40 | (simp only [Int.reduceToNat] at ho40; rw [← Ny210.out] at ho40)); replace HO_1 := Aside0.mk (Kd.R_below (ra_ HO_1.out) hb); replace HO_4 := Aside0.mk (Kd.R_below (ra_ HO_4.out) hb); have HO212 := Aside0.mk (Kd.R_lower (Kd.R_new' ho40 (Kd.R_lt (ra_ HO209.out))) (below_size bw_)); replace HO209 := Aside0.mk (Kd.R_elder' (ra_ HO209.out) (Kd.R_base ho40) hb); replace HB := Aside0.mk (below_step bw_ hb); clear hb ho40; obtain ⟨Ao41, co41, eo41⟩ := Kd.R_slice HO_1.out; subst eo41; obtain ⟨Ao42, co42, eo42⟩ := Kd.R_slice HO212.out; subst eo42) | (go_at_call 19; (with_reducible refine (label_Holds.calls k2 _ _ t194 _ _ y210 true _ ?side1 ?side2 ?side3 ?side4 A23.out).mono ?_); (case side1 => repeat (first | exact (Kd.R_reads' HO_1.out).2.2 | (with_reducible refine Kd.C_alloc ?_ _) | (with_reducible refine Kd.C_drewN ?_ _) | (with_reducible refine Kd.C_drew ?_))); (case side2 => exact (Kd.R_reads' HO_1.out).2.1); (case side3 => repeat (first | exact (Kd.R_reads' HO212.out).2.2 | (with_reducible refine Kd.C_alloc ?_ _) | (with_reducible refine Kd.C_drewN ?_ _) | (with_reducible refine Kd.C_drew ?_))); (case side4 => exact (Kd.R_reads' HO212.out).2.1); rintro e w43 ⟨rfl, hb⟩; replace HO_1 := Aside0.mk (Kd.R_below (ra_ HO_1.out) hb); replace HO_4 := Aside0.mk (Kd.R_below (ra_ HO_4.out) hb); replace HO209 := Aside0.mk (Kd.R_below (ra_ HO209.out) hb); replace HO212 := Aside0.mk (Kd.R_below (ra_ HO212.out) hb); replace HB := Aside0.mk (below_step bw_ hb); (try clear hb); (try clear hb2); (try clear hk); (try clear hi)) | (go_at_call 42; (with_reducible refine (drayagelaw03_wrong.calls (⟨#[97, 61]⟩ : ByteArray) 2 3 true _ A24.out).mono ?_); rintro e w44 ⟨rfl, hb⟩; replace HO_1 := Aside0.mk (Kd.R_below (ra_ HO_1.out) hb); replace HO_4 := Aside0.mk (Kd.R_below (ra_ HO_4.out) hb); replace HO209 := Aside0.mk (Kd.R_below (ra_ HO209.out) hb); replace HO212 := Aside0.mk (Kd.R_below (ra_ HO212.out) hb); replace HB := Aside0.mk (below_step bw_ hb); (try clear hb); (try clear hb2); (try clear hk); (try clear hi)) | (go_at_call 42; (with_reducible refine (drayagelaw03_wrong.calls (⟨#[98, 61, 49, 44, 97, 61, 50]⟩ : ByteArray) 4 4 true _ A26.out).mono ?_); rintro e w45 ⟨rfl, hb⟩; replace HO_1 := Aside0.mk (Kd.R_below (ra_ HO_1.out) hb); replace HO_4 := Aside0.mk (Kd.R_below (ra_ HO_4.out) hb); replace HO209 := Aside0.mk (Kd.R_below (ra_ HO209.out) hb); replace HO212 := Aside0.mk (Kd.R_below (ra_ HO212.out) hb); replace HB := Aside0.mk (below_step bw_ hb); (try clear hb); (try clear hb2); (try clear hk); (try clear hi)) | (go_at_call 42; (with_reducible refine (drayagelaw03_wrong.calls (⟨#[65, 61, 49]⟩ : ByteArray) 0 4 true _ A28.out).mono ?_); rintro e w46 ⟨rfl, hb⟩; replace HO_1 := Aside0.mk (Kd.R_below (ra_ HO_1.out) hb); replace HO_4 := Aside0.mk (Kd.R_below (ra_ HO_4.out) hb); replace HO209 := Aside0.mk (Kd.R_below (ra_ HO209.out) hb); replace HO212 := Aside0.mk (Kd.R_below (ra_ HO212.out) hb); replace HB := Aside0.mk (below_step bw_ hb); (try clear hb); (try clear hb2); (try clear hk); (try clear hi)) | (go_at_call 42; (with_reducible refine (drayagelaw03_wrong.calls (⟨#[97, 61, 49, 44]⟩ : ByteArray) 4 3 true _ A30.out).mono ?_); rintro e w47 ⟨rfl, hb⟩; replace HO_1 := Aside0.mk (Kd.R_below (ra_ HO_1.out) hb); replace HO_4 := Aside0.mk (Kd.R_below (ra_ HO_4.out) hb); replace HO209 := Aside0.mk (Kd.R_below (ra_ HO209.out) hb); replace HO212 := Aside0.mk (Kd.R_below (ra_ HO212.out) hb); replace HB := Aside0.mk (below_step bw_ hb); (try clear hb); (try clear hb2); (try clear hk); (try clear hi)) | ((with_reducible refine gate_dst (N := 68) rfl ?_); (try (refine gate_guard (by rfl) ?_; dsimp only)); refine Kd.R_lit k43 _ 43 ?hg (N := 68) ?hd (xs := ([(⟨(⟨#[107]⟩ : ByteArray), (⟨#[118]⟩ : ByteArray)⟩ : S43)] : List (S43))) (inner := [.string (⟨#[107]⟩ : ByteArray), .string (⟨#[118]⟩ : ByteArray)]) (ok := fun _ => True) (okp := fun _ => True) ?hr ?hp (fun _ hk => hk) trivial (Below.refl _ _) (Nat.le_refl _) (by simp) ?_; (case hd => rfl); (case hg => rfl); (case hr => first | (go_simp; done) | (go_simp; rfl)); (case hp => exact (Reps.c2 (show Kd.M k43 _ _ _ (⟨(⟨#[107]⟩ : ByteArray), (⟨#[118]⟩ : ByteArray)⟩ : S43) [.string (⟨#[107]⟩ : ByteArray), .string (⟨#[118]⟩ : ByteArray)] from (k43_mkM _ _ _ (⟨(⟨#[107]⟩ : ByteArray), (⟨#[118]⟩ : ByteArray)⟩ : S43) )) (Reps.none _ _))); intro v219 w48 ho49 hb hg_ hnew_; clear hg_ hnew_; (first | rw [← Ny218.out] at ho49 | (simp only [Int.reduceToNat] at ho49; rw [← Ny218.out] at ho49)); replace HO_1 := Aside0.mk (Kd.R_below (ra_ HO_1.out) hb); replace HO_4 := Aside0.mk (Kd.R_below (ra_ HO_4.out) hb); have HO220 := Aside0.mk (Kd.R_lower (Kd.R_new' (Kd.R_new' ho49 (Kd.R_lt (ra_ HO209.out))) (Kd.R_lt (ra_ HO212.out))) (below_size bw_)); replace HO209 := Aside0.mk (Kd.R_elder' (ra_ HO209.out) (Kd.R_base ho49) hb); replace HO212 := Aside0.mk (Kd.R_elder' (ra_ HO212.out) (Kd.R_base ho49) hb); replace HB := Aside0.mk (below_step bw_ hb); clear hb ho49; obtain ⟨Ao50, co50, eo50⟩ := Kd.R_slice HO209.out; subst eo50; obtain ⟨Ao51, co51, eo51⟩ := Kd.R_slice HO220.out; subst eo51) | (go_at_call 20; (with_reducible refine (label_Bears.calls _ _ t205 _ _ y218 true _ ?side1 ?side2 ?side3 ?side4 A35.out).mono ?_); (case side1 => repeat (first | exact (Kd.R_reads' HO209.out).2.2 | (with_reducible refine Kd.C_alloc ?_ _) | (with_reducible refine Kd.C_drewN ?_ _) | (with_reducible refine Kd.C_drew ?_))); (case side2 => exact (Kd.R_reads' HO209.out).2.1); (case side3 => repeat (first | exact (Kd.R_reads' HO220.out).2.2 | (with_reducible refine Kd.C_alloc ?_ _) | (with_reducible refine Kd.C_drewN ?_ _) | (with_reducible refine Kd.C_drew ?_))); (case side4 => exact (Kd.R_reads' HO220.out).2.1); rintro e w52 ⟨rfl, hb⟩; replace HO_1 := Aside0.mk (Kd.R_below (ra_ HO_1.out) hb); replace HO_4 := Aside0.mk (Kd.R_below (ra_ HO_4.out) hb); replace HO209 := Aside0.mk (Kd.R_below (ra_ HO209.out) hb); replace HO212 := Aside0.mk (Kd.R_below (ra_ HO212.out) hb); replace HO220 := Aside0.mk (Kd.R_below (ra_ HO220.out) hb); replace HB := Aside0.mk (below_step bw_ hb); (try clear hb); (try clear hb2); (try clear hk); (try clear hi)) | ((with_reducible refine gate_dst (N := 89) rfl ?_); (try (refine gate_guard (by rfl) ?_; dsimp only)); refine Kd.R_lit k43 _ 43 ?hg (N := 89) ?hd (xs := ([(⟨(⟨#[107]⟩ : ByteArray), (⟨#[119]⟩ : ByteArray)⟩ : S43)] : List (S43))) (inner := [.string (⟨#[107]⟩ : ByteArray), .string (⟨#[119]⟩ : ByteArray)]) (ok := fun _ => True) (okp := fun _ => True) ?hr ?hp (fun _ hk => hk) trivial (Below.refl _ _) (Nat.le_refl _) (by simp) ?_; (case hd => rfl); (case hg => rfl); (case hr => first | (go_simp; done) | (go_simp; rfl)); (case hp => exact (Reps.c2 (show Kd.M k43 _ _ _ (⟨(⟨#[107]⟩ : ByteArray), (⟨#[119]⟩ : ByteArray)⟩ : S43) [.string (⟨#[107]⟩ : ByteArray), .string (⟨#[119]⟩ : ByteArray)] from (k43_mkM _ _ _ (⟨(⟨#[107]⟩ : ByteArray), (⟨#[119]⟩ : ByteArray)⟩ : S43) )) (Reps.none _ _))); intro v223 w53 ho54 hb hg_ hnew_; clear hg_ hnew_; (first | rw [← Ny222.out] at ho54 | (simp only [Int.reduceToNat] at ho54; rw [← Ny222.out] at ho54)); replace HO_1 := Aside0.mk (Kd.R_below (ra_ HO_1.out) hb); replace HO_4 := Aside0.mk (Kd.R_below (ra_ HO_4.out) hb); have HO224 := Aside0.mk (Kd.R_lower (Kd.R_new' (Kd.R_new' (Kd.R_new' ho54 (Kd.R_lt (ra_ HO209.out))) (Kd.R_lt (ra_ HO212.out))) (Kd.R_lt (ra_ HO220.out))) (below_size bw_)); replace HO209 := Aside0.mk (Kd.R_elder' (ra_ HO209.out) (Kd.R_base ho54) hb); replace HO212 := Aside0.mk (Kd.R_elder' (ra_ HO212.out) (Kd.R_base ho54) hb); replace HO220 := Aside0.mk (Kd.R_elder' (ra_ HO220.out) (Kd.R_base ho54) hb); replace HB := Aside0.mk (below_step bw_ hb); clear hb ho54; obtain ⟨Ao55, co55, eo55⟩ := Kd.R_slice HO224.out; subst eo55) | (go_at_call 20; (with_reducible refine (label_Bears.calls _ _ y222 _ _ y218 t225 _ ?side1 ?side2 ?side3 ?side4 A37.out).mono ?_); (case side1 => repeat (first | exact (Kd.R_reads' HO224.out).2.2 | (with_reducible refine Kd.C_alloc ?_ _) | (with_reducible refine Kd.C_drewN ?_ _) | (with_reducible refine Kd.C_drew ?_))); (case side2 => exact (Kd.R_reads' HO224.out).2.1); (case side3 => repeat (first | exact (Kd.R_reads' HO220.out).2.2 | (with_reducible refine Kd.C_alloc ?_ _) | (with_reducible refine Kd.C_drewN ?_ _) | (with_reducible refine Kd.C_drew ?_))); (case side4 => exact (Kd.R_reads' HO220.out).2.1); rintro e w56 ⟨rfl, hb⟩; replace HO_1 := Aside0.mk (Kd.R_below (ra_ HO_1.out) hb); replace HO_4 := Aside0.mk (Kd.R_below (ra_ HO_4.out) hb); replace HO209 := Aside0.mk (Kd.R_below (ra_ HO209.out) hb); replace HO212 := Aside0.mk (Kd.R_below (ra_ HO212.out) hb); replace HO220 := Aside0.mk (Kd.R_below (ra_ HO220.out) hb); replace HO224 := Aside0.mk (Kd.R_below (ra_ HO224.out) hb); replace HB := Aside0.mk (below_step bw_ hb); (try clear hb); (try clear hb2); (try clear hk); (try clear hi))); try go_wp2_with (first | (go_at_call 10; (with_reducible refine (label_Borne.calls (⟨#[107, 61, 42]⟩ : ByteArray) t205 t206 t207 _ A22.out).mono ?_); rintro e w38 ⟨v208, rfl, ho0, hb⟩; replace HO_1 := Aside0.mk (Kd.R_below (ra_ HO_1.out) hb); replace HO_4 := Aside0.mk (Kd.R_below (ra_ HO_4.out) hb); have HO209 := Aside0.mk (Kd.R_lower ho0 (below_size bw_)); replace HB := Aside0.mk (below_step bw_ hb); (try clear hb); (try clear hb2); (try clear hk); (try clear hi); (try clear ho0)) | ((with_reducible refine gate_dst (N := 55) rfl ?_); (try (refine gate_guard (by rfl) ?_; dsimp only)); refine Kd.R_lit k43 _ 43 ?hg (N := 55) ?hd (xs := ([(⟨(⟨#[97]⟩ : ByteArray), (⟨#[98]⟩ : ByteArray)⟩ : S43), (⟨(⟨#[101]⟩ : ByteArray), (⟨#[120]⟩ : ByteArray)⟩ : S43)] : List (S43))) (inner := [.string (⟨#[97]⟩ : ByteArray), .string (⟨#[98]⟩ : ByteArray), .string (⟨#[101]⟩ : ByteArray), .string (⟨#[120]⟩ : ByteArray)]) (ok := fun _ => True) (okp := fun _ => True) ?hr ?hp (fun _ hk => hk) trivial (Below.refl _ _) (Nat.le_refl _) (by simp) ?_; (case hd => rfl); (case hg => rfl); (case hr => first | (go_simp; done) | (go_simp; rfl)); (case hp => exact (Reps.c2 (show Kd.M k43 _ _ _ (⟨(⟨#[97]⟩ : ByteArray), (⟨#[98]⟩ : ByteArray)⟩ : S43) [.string (⟨#[97]⟩ : ByteArray), .string (⟨#[98]⟩ : ByteArray)] from (k43_mkM _ _ _ (⟨(⟨#[97]⟩ : ByteArray), (⟨#[98]⟩ : ByteArray)⟩ : S43) )) (Reps.c2 (show Kd.M k43 _ _ _ (⟨(⟨#[101]⟩ : ByteArray), (⟨#[120]⟩ : ByteArray)⟩ : S43) [.string (⟨#[101]⟩ : ByteArray), .string (⟨#[120]⟩ : ByteArray)] from (k43_mkM _ _ _ (⟨(⟨#[101]⟩ : ByteArray), (⟨#[120]⟩ : ByteArray)⟩ : S43) )) (Reps.none _ _)))); intro v211 w39 ho40 hb hg_ hnew_; clear hg_ hnew_; (first | rw [← Ny210.out] at ho40 | (simp only [Int.reduceToNat] at ho40; rw [← Ny210.out] at ho40)); replace HO_1 := Aside0.mk (Kd.R_below (ra_ HO_1.out) hb); replace HO_4 := Aside0.mk (Kd.R_below (ra_ HO_4.out) hb); have HO212 := Aside0.mk (Kd.R_lower (Kd.R_new' ho40 (Kd.R_lt (ra_ HO209.out))) (below_size bw_)); replace HO209 := Aside0.mk (Kd.R_elder' (ra_ HO209.out) (Kd.R_base ho40) hb); replace HB := Aside0.mk (below_step bw_ hb); clear hb ho40; obtain ⟨Ao41, co41, eo41⟩ := Kd.R_slice HO_1.out; subst eo41; obtain ⟨Ao42, co42, eo42⟩ := Kd.R_slice HO212.out; subst eo42) | (go_at_call 19; (with_reducible refine (label_Holds.calls k2 _ _ t194 _ _ y210 true _ ?side1 ?side2 ?side3 ?side4 A23.out).mono ?_); (case side1 => repeat (first | exact (Kd.R_reads' HO_1.out).2.2 | (with_reducible refine Kd.C_alloc ?_ _) | (with_reducible refine Kd.C_drewN ?_ _) | (with_reducible refine Kd.C_drew ?_))); (case side2 => exact (Kd.R_reads' HO_1.out).2.1); (case side3 => repeat (first | exact (Kd.R_reads' HO212.out).2.2 | (with_reducible refine Kd.C_alloc ?_ _) | (with_reducible refine Kd.C_drewN ?_ _) | (with_reducible refine Kd.C_drew ?_))); (case side4 => exact (Kd.R_reads' HO212.out).2.1); rintro e w43 ⟨rfl, hb⟩; replace HO_1 := Aside0.mk (Kd.R_below (ra_ HO_1.out) hb); replace HO_4 := Aside0.mk (Kd.R_below (ra_ HO_4.out) hb); replace HO209 := Aside0.mk (Kd.R_below (ra_ HO209.out) hb); replace HO212 := Aside0.mk (Kd.R_below (ra_ HO212.out) hb); replace HB := Aside0.mk (below_step bw_ hb); (try clear hb); (try clear hb2); (try clear hk); (try clear hi)) | (go_at_call 42; (with_reducible refine (drayagelaw03_wrong.calls (⟨#[97, 61]⟩ : ByteArray) 2 3 true _ A24.out).mono ?_); rintro e w44 ⟨rfl, hb⟩; replace HO_1 := Aside0.mk (Kd.R_below (ra_ HO_1.out) hb); replace HO_4 := Aside0.mk (Kd.R_below (ra_ HO_4.out) hb); replace HO209 := Aside0.mk (Kd.R_below (ra_ HO209.out) hb); replace HO212 := Aside0.mk (Kd.R_below (ra_ HO212.out) hb); replace HB := Aside0.mk (below_step bw_ hb); (try clear hb); (try clear hb2); (try clear hk); (try clear hi)) | (go_at_call 42; (with_reducible refine (drayagelaw03_wrong.calls (⟨#[98, 61, 49, 44, 97, 61, 50]⟩ : ByteArray) 4 4 true _ A26.out).mono ?_); rintro e w45 ⟨rfl, hb⟩; replace HO_1 := Aside0.mk (Kd.R_below (ra_ HO_1.out) hb); replace HO_4 := Aside0.mk (Kd.R_below (ra_ HO_4.out) hb); replace HO209 := Aside0.mk (Kd.R_below (ra_ HO209.out) hb); replace HO212 := Aside0.mk (Kd.R_below (ra_ HO212.out) hb); replace HB := Aside0.mk (below_step bw_ hb); (try clear hb); (try clear hb2); (try clear hk); (try clear hi)) | (go_at_call 42; (with_reducible refine (drayagelaw03_wrong.calls (⟨#[65, 61, 49]⟩ : ByteArray) 0 4 true _ A28.out).mono ?_); rintro e w46 ⟨rfl, hb⟩; replace HO_1 := Aside0.mk (Kd.R_below (ra_ HO_1.out) hb); replace HO_4 := Aside0.mk (Kd.R_below (ra_ HO_4.out) hb); replace HO209 := Aside0.mk (Kd.R_below (ra_ HO209.out) hb); replace HO212 := Aside0.mk (Kd.R_below (ra_ HO212.out) hb); replace HB := Aside0.mk (below_step bw_ hb); (try clear hb); (try clear hb2); (try clear hk); (try clear hi)) | (go_at_call 42; (with_reducible refine (drayagelaw03_wrong.calls (⟨#[97, 61, 49, 44]⟩ : ByteArray) 4 3 true _ A30.out).mono ?_); rintro e w47 ⟨rfl, hb⟩; replace HO_1 := Aside0.mk (Kd.R_below (ra_ HO_1.out) hb); replace HO_4 := Aside0.mk (Kd.R_below (ra_ HO_4.out) hb); replace HO209 := Aside0.mk (Kd.R_below (ra_ HO209.out) hb); replace HO212 := Aside0.mk (Kd.R_below (ra_ HO212.out) hb); replace HB := Aside0.mk (below_step bw_ hb); (try clear hb); (try clear hb2); (try clear hk); (try clear hi)) | ((with_reducible refine gate_dst (N := 68) rfl ?_); (try (refine gate_guard (by rfl) ?_; dsimp only)); refine Kd.R_lit k43 _ 43 ?hg (N := 68) ?hd (xs := ([(⟨(⟨#[107]⟩ : ByteArray), (⟨#[118]⟩ : ByteArray)⟩ : S43)] : List (S43))) (inner := [.string (⟨#[107]⟩ : ByteArray), .string (⟨#[118]⟩ : ByteArray)]) (ok := fun _ => True) (okp := fun _ => True) ?hr ?hp (fun _ hk => hk) trivial (Below.refl _ _) (Nat.le_refl _) (by simp) ?_; (case hd => rfl); (case hg => rfl); (case hr => first | (go_simp; done) | (go_simp; rfl)); (case hp => exact (Reps.c2 (show Kd.M k43 _ _ _ (⟨(⟨#[107]⟩ : ByteArray), (⟨#[118]⟩ : ByteArray)⟩ : S43) [.string (⟨#[107]⟩ : ByteArray), .string (⟨#[118]⟩ : ByteArray)] from (k43_mkM _ _ _ (⟨(⟨#[107]⟩ : ByteArray), (⟨#[118]⟩ : ByteArray)⟩ : S43) )) (Reps.none _ _))); intro v219 w48 ho49 hb hg_ hnew_; clear hg_ hnew_; (first | rw [← Ny218.out] at ho49 | (simp only [Int.reduceToNat] at ho49; rw [← Ny218.out] at ho49)); replace HO_1 := Aside0.mk (Kd.R_below (ra_ HO_1.out) hb); replace HO_4 := Aside0.mk (Kd.R_below (ra_ HO_4.out) hb); have HO220 := Aside0.mk (Kd.R_lower (Kd.R_new' (Kd.R_new' ho49 (Kd.R_lt (ra_ HO209.out))) (Kd.R_lt (ra_ HO212.out))) (below_size bw_)); replace HO209 := Aside0.mk (Kd.R_elder' (ra_ HO209.out) (Kd.R_base ho49) hb); replace HO212 := Aside0.mk (Kd.R_elder' (ra_ HO212.out) (Kd.R_base ho49) hb); replace HB := Aside0.mk (below_step bw_ hb); clear hb ho49; obtain ⟨Ao50, co50, eo50⟩ := Kd.R_slice HO209.out; subst eo50; obtain ⟨Ao51, co51, eo51⟩ := Kd.R_slice HO220.out; subst eo51) | (go_at_call 20; (with_reducible refine (label_Bears.calls _ _ t205 _ _ y218 true _ ?side1 ?side2 ?side3 ?side4 A35.out).mono ?_); (case side1 => repeat (first | exact (Kd.R_reads' HO209.out).2.2 | (with_reducible refine Kd.C_alloc ?_ _) | (with_reducible refine Kd.C_drewN ?_ _) | (with_reducible refine Kd.C_drew ?_))); (case side2 => exact (Kd.R_reads' HO209.out).2.1); (case side3 => repeat (first | exact (Kd.R_reads' HO220.out).2.2 | (with_reducible refine Kd.C_alloc ?_ _) | (with_reducible refine Kd.C_drewN ?_ _) | (with_reducible refine Kd.C_drew ?_))); (case side4 => exact (Kd.R_reads' HO220.out).2.1); rintro e w52 ⟨rfl, hb⟩; replace HO_1 := Aside0.mk (Kd.R_below (ra_ HO_1.out) hb); replace HO_4 := Aside0.mk (Kd.R_below (ra_ HO_4.out) hb); replace HO209 := Aside0.mk (Kd.R_below (ra_ HO209.out) hb); replace HO212 := Aside0.mk (Kd.R_below (ra_ HO212.out) hb); replace HO220 := Aside0.mk (Kd.R_below (ra_ HO220.out) hb); replace HB := Aside0.mk (below_step bw_ hb); (try clear hb); (try clear hb2); (try clear hk); (try clear hi)) | ((with_reducible refine gate_dst (N := 89) rfl ?_); (try (refine gate_guard (by rfl) ?_; dsimp only)); refine Kd.R_lit k43 _ 43 ?hg (N := 89) ?hd (xs := ([(⟨(⟨#[107]⟩ : ByteArray), (⟨#[119]⟩ : ByteArray)⟩ : S43)] : List (S43))) (inner := [.string (⟨#[107]⟩ : ByteArray), .string (⟨#[119]⟩ : ByteArray)]) (ok := fun _ => True) (okp := fun _ => True) ?hr ?hp (fun _ hk => hk) trivial (Below.refl _ _) (Nat.le_refl _) (by simp) ?_; (case hd => rfl); (case hg => rfl); (case hr => first | (go_simp; done) | (go_simp; rfl)); (case hp => exact (Reps.c2 (show Kd.M k43 _ _ _ (⟨(⟨#[107]⟩ : ByteArray), (⟨#[119]⟩ : ByteArray)⟩ : S43) [.string (⟨#[107]⟩ : ByteArray), .string (⟨#[119]⟩ : ByteArray)] from (k43_mkM _ _ _ (⟨(⟨#[107]⟩ : ByteArray), (⟨#[119]⟩ : ByteArray)⟩ : S43) )) (Reps.none _ _))); intro v223 w53 ho54 hb hg_ hnew_; clear hg_ hnew_; (first | rw [← Ny222.out] at ho54 | (simp only [Int.reduceToNat] at ho54; rw [← Ny222.out] at ho54)); replace HO_1 := Aside0.mk (Kd.R_below (ra_ HO_1.out) hb); replace HO_4 := Aside0.mk (Kd.R_below (ra_ HO_4.out) hb); have HO224 := Aside0.mk (Kd.R_lower (Kd.R_new' (Kd.R_new' (Kd.R_new' ho54 (Kd.R_lt (ra_ HO209.out))) (Kd.R_lt (ra_ HO212.out))) (Kd.R_lt (ra_ HO220.out))) (below_size bw_)); replace HO209 := Aside0.mk (Kd.R_elder' (ra_ HO209.out) (Kd.R_base ho54) hb); replace HO212 := Aside0.mk (Kd.R_elder' (ra_ HO212.out) (Kd.R_base ho54) hb); replace HO220 := Aside0.mk (Kd.R_elder' (ra_ HO220.out) (Kd.R_base ho54) hb); replace HB := Aside0.mk (below_step bw_ hb); clear hb ho54; obtain ⟨Ao55, co55, eo55⟩ := Kd.R_slice HO224.out; subst eo55) | (go_at_call 20; (with_reducible refine (label_Bears.calls _ _ y222 _ _ y218 t225 _ ?side1 ?side2 ?side3 ?side4 A37.out).mono ?_); (case side1 => repeat (first | exact (Kd.R_reads' HO224.out).2.2 | (with_reducible refine Kd.C_alloc ?_ _) | (with_reducible refine Kd.C_drewN ?_ _) | (with_reducible refine Kd.C_drew ?_))); (case side2 => exact (Kd.R_reads' HO224.out).2.1); (case side3 => repeat (first | exact (Kd.R_reads' HO220.out).2.2 | (with_reducible refine Kd.C_alloc ?_ _) | (with_reducible refine Kd.C_drewN ?_ _) | (with_reducible refine Kd.C_drew ?_))); (case side4 => exact (Kd.R_reads' HO220.out).2.1); rintro e w56 ⟨rfl, hb⟩; replace HO_1 := Aside0.mk (Kd.R_below (ra_ HO_1.out) hb); replace HO_4 := Aside0.mk (Kd.R_below (ra_ HO_4.out) hb); replace HO209 := Aside0.mk (Kd.R_below (ra_ HO209.out) hb); replace HO212 := Aside0.mk (Kd.R_below (ra_ HO212.out) hb); replace HO220 := Aside0.mk (Kd.R_below (ra_ HO220.out) hb); replace HO224 := Aside0.mk (Kd.R_below (ra_ HO224.out) hb); replace HB := Aside0.mk (below_step bw_ hb); (try clear hb); (try clear hb2); (try clear hk); (try clear hi))))
               go_ret
               exact ⟨fi_, bw_⟩
              ·replace c36 := Bool.eq_false_iff.mpr c36
               subst c36
               have H1 : (some false) = some true := by rw [if_neg (show ¬ (false = true) by decide)] at H; exact H
               exact absurd H1 (by (repeat' split) <;> simp)
             ·rw [if_neg c34] at H
              have c34b0 : ((t205.length : Int) == 1) = false := beq_eq_false_iff_ne.mpr c34
              have c34b1 : ((t205.length : Int) != 1) = true := bne_iff_ne.mpr c34
              exact absurd H (by simp)
            ·rw [if_neg c33] at H
             have c33b0 : (t207 == 0) = false := beq_eq_false_iff_ne.mpr c33
             have c33b1 : (t207 != 0) = true := bne_iff_ne.mpr c33
             exact absurd H (by simp)
           ·replace c32 := Bool.eq_false_iff.mpr c32
            subst c32
            have H1 : (some false) = some true := by rw [if_neg (show ¬ (false = true) by decide)] at H; exact H
            exact absurd H1 (by (repeat' split) <;> simp)
          ·replace c31 := Bool.eq_false_iff.mpr c31
           subst c31
           have H1 : (some false) = some true := by rw [if_neg (show ¬ (false = true) by decide)] at H; exact H
           exact absurd H1 (by (repeat' split) <;> simp)
         ·replace c29 := Bool.eq_false_iff.mpr c29
          subst c29
          have H1 : (if t213 = true then (some false) else (some false)) = some true := by rw [if_neg (show ¬ (false = true) by decide)] at H; exact H
          exact absurd H1 (by (repeat' split) <;> simp)
        ·replace c27 := Bool.eq_false_iff.mpr c27
         subst c27
         have H1 : (if t213 = true then (some false) else (some false)) = some true := by rw [if_neg (show ¬ (false = true) by decide)] at H; exact H
         exact absurd H1 (by (repeat' split) <;> simp)
       ·replace c25 := Bool.eq_false_iff.mpr c25
        subst c25
        have H1 : (if t213 = true then (some false) else (some false)) = some true := by rw [if_neg (show ¬ (false = true) by decide)] at H; exact H
        exact absurd H1 (by (repeat' split) <;> simp)
end Go.Proofs.Ytfnfjkddlnnolaa.P
