import Derived.Test.YtagkgddkpnbfoaaHknown3
namespace Go.Proofs.Ytagkgddkpnbfoaa.P
open Go.RowKit Go.Proofs.YtagkgddkpnbfoaaW.PrintWords Go.Proofs.YtagkgddkpnbfoaaW.PrintLast Go.Proofs.YtagkgddkpnbfoaaW.PrintMore
attribute [local go_sem] max2_int min2_int max_two min_two max_three min_three max_four min_four   -- for this text's walks alone
set_option linter.unusedVariables false
set_option linter.unusedSimpArgs false
open Kd
set_option maxHeartbeats 8000000 in
set_option maxRecDepth 100000 in
theorem drayagelaw20_JournalKnown.calls (k : Nat)  (r : Bool) (w : World) (h : drayagelaw20_JournalKnown.f k  = some r) :
  Calls Try.prog 8 #[] w fun e w' => e = .returned (.bool r) ∧ Below w.heap.size w w' := by
 have hu25 := Try.underlying25
 have hu49 := Try.underlying49
 have HB := kAs (Below.refl w.heap.size w)
 have H : (drayagelaw20_JournalKnown.l0 k (([(-9223372036854775808), (-2), (-1), 0, 1, 2, 3, 4, 7, 8, 23, 24, 255, 256, 65535, 65536, 9223372036854775807] : List Int)) 0) = some r := h
 clear h
 obtain ⟨y306, hy306⟩ : ∃ y_ : List Int, y_ = (([(-9223372036854775808), (-2), (-1), 0, 1, 2, 3, 4, 7, 8, 23, 24, 255, 256, 65535, 65536, 9223372036854775807] : List Int)) := ⟨_, rfl⟩
 replace H : (drayagelaw20_JournalKnown.l0 k y306 0) = some r := by first | (rw [hy306]; with_reducible exact H) | (have H2_ := (Option.bind_some _ _).symm.trans H; rw [hy306]; with_reducible exact H2_) | (have H2_ := (Option.bind_some _ _).symm.trans H; with_reducible exact H2_) | with_reducible exact H | (rw [hy306]; exact H) | exact H
 have Ny306 := kAs hy306
 clear hy306
 have H' := kAs H
 clear H
 go_enter Try.func8, Try.ntmps8
 go_wp2_with (first | ((with_reducible refine gate_dst (N := 15) rfl ?_); refine R_lit (Kd.int .i64) _ 3 ?hg (N := 15) ?hd (xs := ([(-9223372036854775808), (-2), (-1), 0, 1, 2, 3, 4, 7, 8, 23, 24, 255, 256, 65535, 65536, 9223372036854775807] : List Int)) (inner := [.int .i64 (-9223372036854775808), .int .i64 (-2), .int .i64 (-1), .int .i64 0, .int .i64 1, .int .i64 2, .int .i64 3, .int .i64 4, .int .i64 7, .int .i64 8, .int .i64 23, .int .i64 24, .int .i64 255, .int .i64 256, .int .i64 65535, .int .i64 65536, .int .i64 9223372036854775807]) (ok := fun _ => True) (okp := fun _ => True) ?hr ?hp (fun _ hk => hk) trivial (Below.refl _ _) (Nat.le_refl _) (by simp) ?_; (case hd => rfl); (case hg => rfl); (case hr => first | (go_simp; done) | (go_simp; rfl)); (case hp => exact (Reps.one (show Kd.M (Kd.int .i64) _ _ _ (-9223372036854775808) [.int .i64 (-9223372036854775808)] from rfl) (Reps.one (show Kd.M (Kd.int .i64) _ _ _ (-2) [.int .i64 (-2)] from rfl) (Reps.one (show Kd.M (Kd.int .i64) _ _ _ (-1) [.int .i64 (-1)] from rfl) (Reps.one (show Kd.M (Kd.int .i64) _ _ _ 0 [.int .i64 0] from rfl) (Reps.one (show Kd.M (Kd.int .i64) _ _ _ 1 [.int .i64 1] from rfl) (Reps.one (show Kd.M (Kd.int .i64) _ _ _ 2 [.int .i64 2] from rfl) (Reps.one (show Kd.M (Kd.int .i64) _ _ _ 3 [.int .i64 3] from rfl) (Reps.one (show Kd.M (Kd.int .i64) _ _ _ 4 [.int .i64 4] from rfl) (Reps.one (show Kd.M (Kd.int .i64) _ _ _ 7 [.int .i64 7] from rfl) (Reps.one (show Kd.M (Kd.int .i64) _ _ _ 8 [.int .i64 8] from rfl) (Reps.one (show Kd.M (Kd.int .i64) _ _ _ 23 [.int .i64 23] from rfl) (Reps.one (show Kd.M (Kd.int .i64) _ _ _ 24 [.int .i64 24] from rfl) (Reps.one (show Kd.M (Kd.int .i64) _ _ _ 255 [.int .i64 255] from rfl) (Reps.one (show Kd.M (Kd.int .i64) _ _ _ 256 [.int .i64 256] from rfl) (Reps.one (show Kd.M (Kd.int .i64) _ _ _ 65535 [.int .i64 65535] from rfl) (Reps.one (show Kd.M (Kd.int .i64) _ _ _ 65536 [.int .i64 65536] from rfl) (Reps.one (show Kd.M (Kd.int .i64) _ _ _ 9223372036854775807 [.int .i64 9223372036854775807] from rfl) (Reps.none _ _))))))))))))))))))); intro v307 w1 ho2 hb hg_ hnew_; clear hg_ hnew_; (first | rw [← Ny306.out] at ho2 | (simp only [Int.reduceToNat] at ho2; rw [← Ny306.out] at ho2)); have HO308 := kAs (R_lower ho2 (below_size bw_)); replace HB := kAs (below_step bw_ hb); clear hb ho2))
 go_loopg [2] k (fun kq v2 w' => ∃ (x2_1 : Int), v2 = .int .i64 x2_1 ∧ Aside0 (drayagelaw20_JournalKnown.l0 kq y306 x2_1 = some r) ∧ Aside0 (kq ≤ k) ∧ Aside0 (Kd.R (Kd.int .i64) 3 w' w.heap.size (fun _ => True) v307 y306) ∧ Aside0 (Below w.heap.size w w'))
 case atStart => exact ⟨(0), fs_, H', ⟨Nat.le_refl _⟩, ⟨ra_ HO308.out⟩, ⟨bw_⟩⟩
 case round =>
  clear H'
  (try clear p2)
  obtain ⟨x2_1, rfl, HA, HK1, HO_1, HB⟩ := hrel
  cases gk with
  | zero => exact absurd HA.out (by simp [drayagelaw20_JournalKnown.l0])
  | succ k1 =>
   have H := HA.out
   clear HA
   simp only [drayagelaw20_JournalKnown.l0] at H
   by_cases c3 : x2_1 < (y306.length : Int)
   ·rw [if_pos c3] at H
    have c3b0 : decide (x2_1 < (y306.length : Int)) = true := decide_eq_true c3
    clear c3
    by_cases c4 : 0 ≤ x2_1
    ·rw [if_pos c4] at H
     have c4b0 : decide (0 ≤ x2_1) = true := decide_eq_true c4
     clear c4
     have H' := kAs H
     clear H
     obtain ⟨Ao5, co5, eo5⟩ := R_slice HO_1.out
     subst eo5
     have p309 : 0 ≤ (x2_1 : Int) := of_decide_eq_true (by first | (with_reducible assumption) | assumption)
     have q309 : x2_1 < (y306.length : Int) := of_decide_eq_true (by first | (with_reducible assumption) | assumption)
     obtain ⟨ad309, e309, hx309_0⟩ := Kd.at_int (R_reads' HO_1.out).2.2 x2_1 p309 q309
     cases e309
     replace p309 := eq_true p309
     replace q309 := eq_true q309
     go_wp2
     go_loopg [4] k1 (fun kq v4 w' => ∃ (x4_2 : Int), v4 = .int .i64 x4_2 ∧ Aside0 (drayagelaw20_JournalKnown.l1 kq y306 x2_1 (rd y306 x2_1) x4_2 = some r) ∧ Aside0 (kq ≤ k1) ∧ Aside0 (Kd.R (Kd.int .i64) 3 w' w.heap.size (fun _ => True) (.slice (some ad309) y306.length co5) y306) ∧ Aside0 (Below w.heap.size w w'))
     case atStart => exact ⟨(0), fs_, H', ⟨Nat.le_refl _⟩, ⟨ra_ HO_1.out⟩, ⟨bw_⟩⟩
     case round =>
      clear H'
      (try clear p2); (try clear c3); (try clear c3b0); (try clear p3); (try clear q3); (try clear hx3); (try clear c4); (try clear c4b0); (try clear hx309_0); (try clear p2); (try clear p309); (try clear q309)
      obtain ⟨x4_2, rfl, HA, HK2, HO_1, HB⟩ := hrel
      cases gk with
      | zero => exact absurd HA.out (by simp [drayagelaw20_JournalKnown.l1])
      | succ k2 =>
       have H := HA.out
       clear HA
       simp only [drayagelaw20_JournalKnown.l1] at H
       by_cases c6 : x4_2 < 8
       ·rw [if_pos c6] at H
        have c6b0 : decide (x4_2 < 8) = true := decide_eq_true c6
        clear c6
        obtain ⟨y310, hy310⟩ : ∃ y_ : List Int, y_ = (([(rd y306 x2_1)] : List Int)) := ⟨_, rfl⟩
        replace H : (drayagelaw20_JournalKnown.l2 k2 y306 x2_1 (rd y306 x2_1) x4_2 (([(⟨x4_2, (rd y306 x2_1), 0, ([] : List Int), ([] : List (S49))⟩ : S25), (⟨x4_2, 1, (rd y306 x2_1), ([] : List Int), ([] : List (S49))⟩ : S25), (⟨x4_2, 1, 0, y310, ([] : List (S49))⟩ : S25), (⟨x4_2, 0, 0, (([0, (rd y306 x2_1)] : List Int)), ([] : List (S49))⟩ : S25), (⟨x4_2, 0, 0, ([] : List Int), (([(⟨(rd y306 x2_1), 0, 0⟩ : S49)] : List (S49)))⟩ : S25), (⟨x4_2, 0, 0, ([] : List Int), (([(⟨2, (rd y306 x2_1), 0⟩ : S49)] : List (S49)))⟩ : S25), (⟨x4_2, 0, 0, ([] : List Int), (([(⟨2, 0, (rd y306 x2_1)⟩ : S49)] : List (S49)))⟩ : S25), (⟨x4_2, 0, 0, ([] : List Int), (([(⟨1, 0, (rd y306 x2_1)⟩ : S49)] : List (S49)))⟩ : S25)] : List (S25))) 0) = some r := by first | (rw [hy310]; with_reducible exact H) | (have H2_ := (Option.bind_some _ _).symm.trans H; rw [hy310]; with_reducible exact H2_) | (have H2_ := (Option.bind_some _ _).symm.trans H; with_reducible exact H2_) | with_reducible exact H | (rw [hy310]; exact H) | exact H
        have Ny310 := kAs hy310
        clear hy310
        obtain ⟨y313, hy313⟩ : ∃ y_ : List Int, y_ = (([0, (rd y306 x2_1)] : List Int)) := ⟨_, rfl⟩
        replace H : (drayagelaw20_JournalKnown.l2 k2 y306 x2_1 (rd y306 x2_1) x4_2 (([(⟨x4_2, (rd y306 x2_1), 0, ([] : List Int), ([] : List (S49))⟩ : S25), (⟨x4_2, 1, (rd y306 x2_1), ([] : List Int), ([] : List (S49))⟩ : S25), (⟨x4_2, 1, 0, y310, ([] : List (S49))⟩ : S25), (⟨x4_2, 0, 0, y313, ([] : List (S49))⟩ : S25), (⟨x4_2, 0, 0, ([] : List Int), (([(⟨(rd y306 x2_1), 0, 0⟩ : S49)] : List (S49)))⟩ : S25), (⟨x4_2, 0, 0, ([] : List Int), (([(⟨2, (rd y306 x2_1), 0⟩ : S49)] : List (S49)))⟩ : S25), (⟨x4_2, 0, 0, ([] : List Int), (([(⟨2, 0, (rd y306 x2_1)⟩ : S49)] : List (S49)))⟩ : S25), (⟨x4_2, 0, 0, ([] : List Int), (([(⟨1, 0, (rd y306 x2_1)⟩ : S49)] : List (S49)))⟩ : S25)] : List (S25))) 0) = some r := by first | (rw [hy313]; with_reducible exact H) | (have H2_ := (Option.bind_some _ _).symm.trans H; rw [hy313]; with_reducible exact H2_) | (have H2_ := (Option.bind_some _ _).symm.trans H; with_reducible exact H2_) | with_reducible exact H | (rw [hy313]; exact H) | exact H
        have Ny313 := kAs hy313
        clear hy313
        obtain ⟨y316, hy316⟩ : ∃ y_ : List (S49), y_ = (([(⟨(rd y306 x2_1), 0, 0⟩ : S49)] : List (S49))) := ⟨_, rfl⟩
        replace H : (drayagelaw20_JournalKnown.l2 k2 y306 x2_1 (rd y306 x2_1) x4_2 (([(⟨x4_2, (rd y306 x2_1), 0, ([] : List Int), ([] : List (S49))⟩ : S25), (⟨x4_2, 1, (rd y306 x2_1), ([] : List Int), ([] : List (S49))⟩ : S25), (⟨x4_2, 1, 0, y310, ([] : List (S49))⟩ : S25), (⟨x4_2, 0, 0, y313, ([] : List (S49))⟩ : S25), (⟨x4_2, 0, 0, ([] : List Int), y316⟩ : S25), (⟨x4_2, 0, 0, ([] : List Int), (([(⟨2, (rd y306 x2_1), 0⟩ : S49)] : List (S49)))⟩ : S25), (⟨x4_2, 0, 0, ([] : List Int), (([(⟨2, 0, (rd y306 x2_1)⟩ : S49)] : List (S49)))⟩ : S25), (⟨x4_2, 0, 0, ([] : List Int), (([(⟨1, 0, (rd y306 x2_1)⟩ : S49)] : List (S49)))⟩ : S25)] : List (S25))) 0) = some r := by first | (rw [hy316]; with_reducible exact H) | (have H2_ := (Option.bind_some _ _).symm.trans H; rw [hy316]; with_reducible exact H2_) | (have H2_ := (Option.bind_some _ _).symm.trans H; with_reducible exact H2_) | with_reducible exact H | (rw [hy316]; exact H) | exact H
        have Ny316 := kAs hy316
        clear hy316
        obtain ⟨y319, hy319⟩ : ∃ y_ : List (S49), y_ = (([(⟨2, (rd y306 x2_1), 0⟩ : S49)] : List (S49))) := ⟨_, rfl⟩
        replace H : (drayagelaw20_JournalKnown.l2 k2 y306 x2_1 (rd y306 x2_1) x4_2 (([(⟨x4_2, (rd y306 x2_1), 0, ([] : List Int), ([] : List (S49))⟩ : S25), (⟨x4_2, 1, (rd y306 x2_1), ([] : List Int), ([] : List (S49))⟩ : S25), (⟨x4_2, 1, 0, y310, ([] : List (S49))⟩ : S25), (⟨x4_2, 0, 0, y313, ([] : List (S49))⟩ : S25), (⟨x4_2, 0, 0, ([] : List Int), y316⟩ : S25), (⟨x4_2, 0, 0, ([] : List Int), y319⟩ : S25), (⟨x4_2, 0, 0, ([] : List Int), (([(⟨2, 0, (rd y306 x2_1)⟩ : S49)] : List (S49)))⟩ : S25), (⟨x4_2, 0, 0, ([] : List Int), (([(⟨1, 0, (rd y306 x2_1)⟩ : S49)] : List (S49)))⟩ : S25)] : List (S25))) 0) = some r := by first | (rw [hy319]; with_reducible exact H) | (have H2_ := (Option.bind_some _ _).symm.trans H; rw [hy319]; with_reducible exact H2_) | (have H2_ := (Option.bind_some _ _).symm.trans H; with_reducible exact H2_) | with_reducible exact H | (rw [hy319]; exact H) | exact H
        have Ny319 := kAs hy319
        clear hy319
        obtain ⟨y322, hy322⟩ : ∃ y_ : List (S49), y_ = (([(⟨2, 0, (rd y306 x2_1)⟩ : S49)] : List (S49))) := ⟨_, rfl⟩
        replace H : (drayagelaw20_JournalKnown.l2 k2 y306 x2_1 (rd y306 x2_1) x4_2 (([(⟨x4_2, (rd y306 x2_1), 0, ([] : List Int), ([] : List (S49))⟩ : S25), (⟨x4_2, 1, (rd y306 x2_1), ([] : List Int), ([] : List (S49))⟩ : S25), (⟨x4_2, 1, 0, y310, ([] : List (S49))⟩ : S25), (⟨x4_2, 0, 0, y313, ([] : List (S49))⟩ : S25), (⟨x4_2, 0, 0, ([] : List Int), y316⟩ : S25), (⟨x4_2, 0, 0, ([] : List Int), y319⟩ : S25), (⟨x4_2, 0, 0, ([] : List Int), y322⟩ : S25), (⟨x4_2, 0, 0, ([] : List Int), (([(⟨1, 0, (rd y306 x2_1)⟩ : S49)] : List (S49)))⟩ : S25)] : List (S25))) 0) = some r := by first | (rw [hy322]; with_reducible exact H) | (have H2_ := (Option.bind_some _ _).symm.trans H; rw [hy322]; with_reducible exact H2_) | (have H2_ := (Option.bind_some _ _).symm.trans H; with_reducible exact H2_) | with_reducible exact H | (rw [hy322]; exact H) | exact H
        have Ny322 := kAs hy322
        clear hy322
        obtain ⟨y325, hy325⟩ : ∃ y_ : List (S49), y_ = (([(⟨1, 0, (rd y306 x2_1)⟩ : S49)] : List (S49))) := ⟨_, rfl⟩
        replace H : (drayagelaw20_JournalKnown.l2 k2 y306 x2_1 (rd y306 x2_1) x4_2 (([(⟨x4_2, (rd y306 x2_1), 0, ([] : List Int), ([] : List (S49))⟩ : S25), (⟨x4_2, 1, (rd y306 x2_1), ([] : List Int), ([] : List (S49))⟩ : S25), (⟨x4_2, 1, 0, y310, ([] : List (S49))⟩ : S25), (⟨x4_2, 0, 0, y313, ([] : List (S49))⟩ : S25), (⟨x4_2, 0, 0, ([] : List Int), y316⟩ : S25), (⟨x4_2, 0, 0, ([] : List Int), y319⟩ : S25), (⟨x4_2, 0, 0, ([] : List Int), y322⟩ : S25), (⟨x4_2, 0, 0, ([] : List Int), y325⟩ : S25)] : List (S25))) 0) = some r := by first | (rw [hy325]; with_reducible exact H) | (have H2_ := (Option.bind_some _ _).symm.trans H; rw [hy325]; with_reducible exact H2_) | (have H2_ := (Option.bind_some _ _).symm.trans H; with_reducible exact H2_) | with_reducible exact H | (rw [hy325]; exact H) | exact H
        have Ny325 := kAs hy325
        clear hy325
        obtain ⟨y328, hy328⟩ : ∃ y_ : List (S25), y_ = (([(⟨x4_2, (rd y306 x2_1), 0, ([] : List Int), ([] : List (S49))⟩ : S25), (⟨x4_2, 1, (rd y306 x2_1), ([] : List Int), ([] : List (S49))⟩ : S25), (⟨x4_2, 1, 0, y310, ([] : List (S49))⟩ : S25), (⟨x4_2, 0, 0, y313, ([] : List (S49))⟩ : S25), (⟨x4_2, 0, 0, ([] : List Int), y316⟩ : S25), (⟨x4_2, 0, 0, ([] : List Int), y319⟩ : S25), (⟨x4_2, 0, 0, ([] : List Int), y322⟩ : S25), (⟨x4_2, 0, 0, ([] : List Int), y325⟩ : S25)] : List (S25))) := ⟨_, rfl⟩
        replace H : (drayagelaw20_JournalKnown.l2 k2 y306 x2_1 (rd y306 x2_1) x4_2 y328 0) = some r := by first | (rw [hy328]; with_reducible exact H) | (have H2_ := (Option.bind_some _ _).symm.trans H; rw [hy328]; with_reducible exact H2_) | (have H2_ := (Option.bind_some _ _).symm.trans H; with_reducible exact H2_) | with_reducible exact H | (rw [hy328]; exact H) | exact H
        have Ny328 := kAs hy328
        clear hy328
        have H' := kAs H
        clear H
        go_wp2_with (first | ((with_reducible refine gate_dst (N := 38) rfl ?_); refine R_lit (Kd.int .i64) _ 3 ?hg (N := 38) ?hd (xs := ([(rd y306 x2_1)] : List Int)) (inner := [.int .i64 (rd y306 x2_1)]) (ok := fun _ => True) (okp := fun _ => True) ?hr ?hp (fun _ hk => hk) trivial (Below.refl _ _) (Nat.le_refl _) (by simp) ?_; (case hd => rfl); (case hg => rfl); (case hr => first | (go_simp; done) | (go_simp; rfl)); (case hp => exact (Reps.one (show Kd.M (Kd.int .i64) _ _ _ (rd y306 x2_1) [.int .i64 (rd y306 x2_1)] from rfl) (Reps.none _ _))); intro v311 w7 ho8 hb hg_ hnew_; clear hg_ hnew_; (first | rw [← Ny310.out] at ho8 | (simp only [Int.reduceToNat] at ho8; rw [← Ny310.out] at ho8)); have HO312 := kAs (R_lower (R_new' ho8 (R_lt (ra_ HO_1.out))) (below_size bw_)); replace HO_1 := kAs (R_elder' (ra_ HO_1.out) (R_base ho8) hb); replace HB := kAs (below_step bw_ hb); clear hb ho8; obtain ⟨Ao9, co9, eo9⟩ := R_slice HO312.out; subst eo9) | ((with_reducible refine gate_dst (N := 42) rfl ?_); refine R_lit (Kd.int .i64) _ 3 ?hg (N := 42) ?hd (xs := ([0, (rd y306 x2_1)] : List Int)) (inner := [.int .i64 0, .int .i64 (rd y306 x2_1)]) (ok := fun _ => True) (okp := fun _ => True) ?hr ?hp (fun _ hk => hk) trivial (Below.refl _ _) (Nat.le_refl _) (by simp) ?_; (case hd => rfl); (case hg => rfl); (case hr => first | (go_simp; done) | (go_simp; rfl)); (case hp => exact (Reps.one (show Kd.M (Kd.int .i64) _ _ _ 0 [.int .i64 0] from rfl) (Reps.one (show Kd.M (Kd.int .i64) _ _ _ (rd y306 x2_1) [.int .i64 (rd y306 x2_1)] from rfl) (Reps.none _ _)))); intro v314 w10 ho11 hb hg_ hnew_; clear hg_ hnew_; (first | rw [← Ny313.out] at ho11 | (simp only [Int.reduceToNat] at ho11; rw [← Ny313.out] at ho11)); have HO315 := kAs (R_lower (R_new' (R_new' ho11 (R_lt (ra_ HO_1.out))) (R_lt (ra_ HO312.out))) (below_size bw_)); replace HO_1 := kAs (R_elder' (ra_ HO_1.out) (R_base ho11) hb); replace HO312 := kAs (R_elder' (ra_ HO312.out) (R_base ho11) hb); replace HB := kAs (below_step bw_ hb); clear hb ho11; obtain ⟨Ao12, co12, eo12⟩ := R_slice HO315.out; subst eo12) | ((with_reducible refine gate_dst (N := 47) rfl ?_); refine R_lit k49 _ 49 ?hg (N := 47) ?hd (xs := ([(⟨(rd y306 x2_1), 0, 0⟩ : S49)] : List (S49))) (inner := [.int .i64 (rd y306 x2_1), .int .i64 0, .int .i64 0]) (ok := fun _ => True) (okp := fun _ => True) ?hr ?hp (fun _ hk => hk) trivial (Below.refl _ _) (Nat.le_refl _) (by simp) ?_; (case hd => rfl); (case hg => rfl); (case hr => first | (go_simp; done) | (go_simp; rfl)); (case hp => exact (Reps.c3 (show Kd.M k49 _ _ _ (⟨(rd y306 x2_1), 0, 0⟩ : S49) [.int .i64 (rd y306 x2_1), .int .i64 0, .int .i64 0] from (k49_mkM _ _ _ (⟨(rd y306 x2_1), 0, 0⟩ : S49) )) (Reps.none _ _))); intro v317 w13 ho14 hb hg_ hnew_; clear hg_ hnew_; (first | rw [← Ny316.out] at ho14 | (simp only [Int.reduceToNat] at ho14; rw [← Ny316.out] at ho14)); replace HO_1 := kAs (R_below (ra_ HO_1.out) hb); replace HO312 := kAs (R_below (ra_ HO312.out) hb); replace HO315 := kAs (R_below (ra_ HO315.out) hb); have HO318 := kAs (R_lower ho14 (below_size bw_)); replace HB := kAs (below_step bw_ hb); clear hb ho14; obtain ⟨Ao15, co15, eo15⟩ := R_slice HO318.out; subst eo15) | ((with_reducible refine gate_dst (N := 52) rfl ?_); refine R_lit k49 _ 49 ?hg (N := 52) ?hd (xs := ([(⟨2, (rd y306 x2_1), 0⟩ : S49)] : List (S49))) (inner := [.int .i64 2, .int .i64 (rd y306 x2_1), .int .i64 0]) (ok := fun _ => True) (okp := fun _ => True) ?hr ?hp (fun _ hk => hk) trivial (Below.refl _ _) (Nat.le_refl _) (by simp) ?_; (case hd => rfl); (case hg => rfl); (case hr => first | (go_simp; done) | (go_simp; rfl)); (case hp => exact (Reps.c3 (show Kd.M k49 _ _ _ (⟨2, (rd y306 x2_1), 0⟩ : S49) [.int .i64 2, .int .i64 (rd y306 x2_1), .int .i64 0] from (k49_mkM _ _ _ (⟨2, (rd y306 x2_1), 0⟩ : S49) )) (Reps.none _ _))); intro v320 w16 ho17 hb hg_ hnew_; clear hg_ hnew_; (first | rw [← Ny319.out] at ho17 | (simp only [Int.reduceToNat] at ho17; rw [← Ny319.out] at ho17)); replace HO_1 := kAs (R_below (ra_ HO_1.out) hb); replace HO312 := kAs (R_below (ra_ HO312.out) hb); replace HO315 := kAs (R_below (ra_ HO315.out) hb); have HO321 := kAs (R_lower (R_new' ho17 (R_lt (ra_ HO318.out))) (below_size bw_)); replace HO318 := kAs (R_elder' (ra_ HO318.out) (R_base ho17) hb); replace HB := kAs (below_step bw_ hb); clear hb ho17; obtain ⟨Ao18, co18, eo18⟩ := R_slice HO321.out; subst eo18) | ((with_reducible refine gate_dst (N := 57) rfl ?_); refine R_lit k49 _ 49 ?hg (N := 57) ?hd (xs := ([(⟨2, 0, (rd y306 x2_1)⟩ : S49)] : List (S49))) (inner := [.int .i64 2, .int .i64 0, .int .i64 (rd y306 x2_1)]) (ok := fun _ => True) (okp := fun _ => True) ?hr ?hp (fun _ hk => hk) trivial (Below.refl _ _) (Nat.le_refl _) (by simp) ?_; (case hd => rfl); (case hg => rfl); (case hr => first | (go_simp; done) | (go_simp; rfl)); (case hp => exact (Reps.c3 (show Kd.M k49 _ _ _ (⟨2, 0, (rd y306 x2_1)⟩ : S49) [.int .i64 2, .int .i64 0, .int .i64 (rd y306 x2_1)] from (k49_mkM _ _ _ (⟨2, 0, (rd y306 x2_1)⟩ : S49) )) (Reps.none _ _))); intro v323 w19 ho20 hb hg_ hnew_; clear hg_ hnew_; (first | rw [← Ny322.out] at ho20 | (simp only [Int.reduceToNat] at ho20; rw [← Ny322.out] at ho20)); replace HO_1 := kAs (R_below (ra_ HO_1.out) hb); replace HO312 := kAs (R_below (ra_ HO312.out) hb); replace HO315 := kAs (R_below (ra_ HO315.out) hb); have HO324 := kAs (R_lower (R_new' (R_new' ho20 (R_lt (ra_ HO318.out))) (R_lt (ra_ HO321.out))) (below_size bw_)); replace HO318 := kAs (R_elder' (ra_ HO318.out) (R_base ho20) hb); replace HO321 := kAs (R_elder' (ra_ HO321.out) (R_base ho20) hb); replace HB := kAs (below_step bw_ hb); clear hb ho20; obtain ⟨Ao21, co21, eo21⟩ := R_slice HO324.out; subst eo21) | ((with_reducible refine gate_dst (N := 62) rfl ?_); refine R_lit k49 _ 49 ?hg (N := 62) ?hd (xs := ([(⟨1, 0, (rd y306 x2_1)⟩ : S49)] : List (S49))) (inner := [.int .i64 1, .int .i64 0, .int .i64 (rd y306 x2_1)]) (ok := fun _ => True) (okp := fun _ => True) ?hr ?hp (fun _ hk => hk) trivial (Below.refl _ _) (Nat.le_refl _) (by simp) ?_; (case hd => rfl); (case hg => rfl); (case hr => first | (go_simp; done) | (go_simp; rfl)); (case hp => exact (Reps.c3 (show Kd.M k49 _ _ _ (⟨1, 0, (rd y306 x2_1)⟩ : S49) [.int .i64 1, .int .i64 0, .int .i64 (rd y306 x2_1)] from (k49_mkM _ _ _ (⟨1, 0, (rd y306 x2_1)⟩ : S49) )) (Reps.none _ _))); intro v326 w22 ho23 hb hg_ hnew_; clear hg_ hnew_; (first | rw [← Ny325.out] at ho23 | (simp only [Int.reduceToNat] at ho23; rw [← Ny325.out] at ho23)); replace HO_1 := kAs (R_below (ra_ HO_1.out) hb); replace HO312 := kAs (R_below (ra_ HO312.out) hb); replace HO315 := kAs (R_below (ra_ HO315.out) hb); have HO327 := kAs (R_lower (R_new' (R_new' (R_new' ho23 (R_lt (ra_ HO318.out))) (R_lt (ra_ HO321.out))) (R_lt (ra_ HO324.out))) (below_size bw_)); replace HO318 := kAs (R_elder' (ra_ HO318.out) (R_base ho23) hb); replace HO321 := kAs (R_elder' (ra_ HO321.out) (R_base ho23) hb); replace HO324 := kAs (R_elder' (ra_ HO324.out) (R_base ho23) hb); replace HB := kAs (below_step bw_ hb); clear hb ho23; obtain ⟨Ao24, co24, eo24⟩ := R_slice HO327.out; subst eo24) | ((with_reducible refine gate_dst (N := 64) rfl ?_); refine N_lit k25 _ 25 ?hg (N' := 64) ?hd (xs := ([(⟨x4_2, (rd y306 x2_1), 0, ([] : List Int), ([] : List (S49))⟩ : S25), (⟨x4_2, 1, (rd y306 x2_1), ([] : List Int), ([] : List (S49))⟩ : S25), (⟨x4_2, 1, 0, y310, ([] : List (S49))⟩ : S25), (⟨x4_2, 0, 0, y313, ([] : List (S49))⟩ : S25), (⟨x4_2, 0, 0, ([] : List Int), y316⟩ : S25), (⟨x4_2, 0, 0, ([] : List Int), y319⟩ : S25), (⟨x4_2, 0, 0, ([] : List Int), y322⟩ : S25), (⟨x4_2, 0, 0, ([] : List Int), y325⟩ : S25)] : List (S25))) (inner := [.int .i64 x4_2, .int .i64 (rd y306 x2_1), .int .i64 0, .slice none 0 0, .slice none 0 0, .int .i64 x4_2, .int .i64 1, .int .i64 (rd y306 x2_1), .slice none 0 0, .slice none 0 0, .int .i64 x4_2, .int .i64 1, .int .i64 0, .slice Ao9 y310.length co9, .slice none 0 0, .int .i64 x4_2, .int .i64 0, .int .i64 0, .slice Ao12 y313.length co12, .slice none 0 0, .int .i64 x4_2, .int .i64 0, .int .i64 0, .slice none 0 0, .slice Ao15 y316.length co15, .int .i64 x4_2, .int .i64 0, .int .i64 0, .slice none 0 0, .slice Ao18 y319.length co18, .int .i64 x4_2, .int .i64 0, .int .i64 0, .slice none 0 0, .slice Ao21 y322.length co21, .int .i64 x4_2, .int .i64 0, .int .i64 0, .slice none 0 0, .slice Ao24 y325.length co24]) (ok := (fun k_ => some k_ ≠ (.slice (some ad309) y306.length co5 : Value).ownBlock)) (okp := (fun k_ => some k_ ≠ (.slice (some ad309) y306.length co5 : Value).ownBlock)) ?hr ?hp (fun _ hk => hk) ((show ∀ k_, w22.heap.size ≤ k_ → (fun k_ => some k_ ≠ (.slice (some ad309) y306.length co5 : Value).ownBlock) k_ from fun k_ hk => Kd.fresh' (R_lt (ra_ HO_1.out)) k_ hk) _ (Nat.le_refl _)) (Below.refl _ _) (Nat.le_refl _) (by simp) ?_; (case hd => rfl); (case hg => rfl); (case hr => first | (go_simp; done) | (go_simp; rfl)); (case hp => exact (Reps.c5 (show Kd.FK k25 _ _ (⟨x4_2, (rd y306 x2_1), 0, ([] : List Int), ([] : List (S49))⟩ : S25) [.int .i64 x4_2, .int .i64 (rd y306 x2_1), .int .i64 0, .slice none 0 0, .slice none 0 0] from (k25_mkF _ _ (⟨x4_2, (rd y306 x2_1), 0, ([] : List Int), ([] : List (S49))⟩ : S25) (Nat.le_refl _) (F_nil _ _ _) (Nat.le_refl _) (F_nil _ _ _))) (Reps.c5 (show Kd.FK k25 _ _ (⟨x4_2, 1, (rd y306 x2_1), ([] : List Int), ([] : List (S49))⟩ : S25) [.int .i64 x4_2, .int .i64 1, .int .i64 (rd y306 x2_1), .slice none 0 0, .slice none 0 0] from (k25_mkF _ _ (⟨x4_2, 1, (rd y306 x2_1), ([] : List Int), ([] : List (S49))⟩ : S25) (Nat.le_refl _) (F_nil _ _ _) (Nat.le_refl _) (F_nil _ _ _))) (Reps.c5 (show Kd.FK k25 _ _ (⟨x4_2, 1, 0, y310, ([] : List (S49))⟩ : S25) [.int .i64 x4_2, .int .i64 1, .int .i64 0, .slice Ao9 y310.length co9, .slice none 0 0] from (k25_mkF _ _ (⟨x4_2, 1, 0, y310, ([] : List (S49))⟩ : S25) (R_reads' (R_mono (ok' := (fun k_ => some k_ ≠ (.slice (some ad309) y306.length co5 : Value).ownBlock)) (HO312.out) (fun k_ hk => hk.1.2))).2.1 (R_F (R_mono (ok' := (fun k_ => some k_ ≠ (.slice (some ad309) y306.length co5 : Value).ownBlock)) (HO312.out) (fun k_ hk => hk.1.2))) (Nat.le_refl _) (F_nil _ _ _))) (Reps.c5 (show Kd.FK k25 _ _ (⟨x4_2, 0, 0, y313, ([] : List (S49))⟩ : S25) [.int .i64 x4_2, .int .i64 0, .int .i64 0, .slice Ao12 y313.length co12, .slice none 0 0] from (k25_mkF _ _ (⟨x4_2, 0, 0, y313, ([] : List (S49))⟩ : S25) (R_reads' (R_mono (ok' := (fun k_ => some k_ ≠ (.slice (some ad309) y306.length co5 : Value).ownBlock)) (HO315.out) (fun k_ hk => hk.1.2))).2.1 (R_F (R_mono (ok' := (fun k_ => some k_ ≠ (.slice (some ad309) y306.length co5 : Value).ownBlock)) (HO315.out) (fun k_ hk => hk.1.2))) (Nat.le_refl _) (F_nil _ _ _))) (Reps.c5 (show Kd.FK k25 _ _ (⟨x4_2, 0, 0, ([] : List Int), y316⟩ : S25) [.int .i64 x4_2, .int .i64 0, .int .i64 0, .slice none 0 0, .slice Ao15 y316.length co15] from (k25_mkF _ _ (⟨x4_2, 0, 0, ([] : List Int), y316⟩ : S25) (Nat.le_refl _) (F_nil _ _ _) (R_reads' (R_mono (ok' := (fun k_ => some k_ ≠ (.slice (some ad309) y306.length co5 : Value).ownBlock)) (R_apart' (HO318.out) (R_typed HO_1.out) (by decide)) (fun k_ hk => hk.2))).2.1 (R_F (R_mono (ok' := (fun k_ => some k_ ≠ (.slice (some ad309) y306.length co5 : Value).ownBlock)) (R_apart' (HO318.out) (R_typed HO_1.out) (by decide)) (fun k_ hk => hk.2))))) (Reps.c5 (show Kd.FK k25 _ _ (⟨x4_2, 0, 0, ([] : List Int), y319⟩ : S25) [.int .i64 x4_2, .int .i64 0, .int .i64 0, .slice none 0 0, .slice Ao18 y319.length co18] from (k25_mkF _ _ (⟨x4_2, 0, 0, ([] : List Int), y319⟩ : S25) (Nat.le_refl _) (F_nil _ _ _) (R_reads' (R_mono (ok' := (fun k_ => some k_ ≠ (.slice (some ad309) y306.length co5 : Value).ownBlock)) (R_apart' (HO321.out) (R_typed HO_1.out) (by decide)) (fun k_ hk => hk.2))).2.1 (R_F (R_mono (ok' := (fun k_ => some k_ ≠ (.slice (some ad309) y306.length co5 : Value).ownBlock)) (R_apart' (HO321.out) (R_typed HO_1.out) (by decide)) (fun k_ hk => hk.2))))) (Reps.c5 (show Kd.FK k25 _ _ (⟨x4_2, 0, 0, ([] : List Int), y322⟩ : S25) [.int .i64 x4_2, .int .i64 0, .int .i64 0, .slice none 0 0, .slice Ao21 y322.length co21] from (k25_mkF _ _ (⟨x4_2, 0, 0, ([] : List Int), y322⟩ : S25) (Nat.le_refl _) (F_nil _ _ _) (R_reads' (R_mono (ok' := (fun k_ => some k_ ≠ (.slice (some ad309) y306.length co5 : Value).ownBlock)) (R_apart' (HO324.out) (R_typed HO_1.out) (by decide)) (fun k_ hk => hk.2))).2.1 (R_F (R_mono (ok' := (fun k_ => some k_ ≠ (.slice (some ad309) y306.length co5 : Value).ownBlock)) (R_apart' (HO324.out) (R_typed HO_1.out) (by decide)) (fun k_ hk => hk.2))))) (Reps.c5 (show Kd.FK k25 _ _ (⟨x4_2, 0, 0, ([] : List Int), y325⟩ : S25) [.int .i64 x4_2, .int .i64 0, .int .i64 0, .slice none 0 0, .slice Ao24 y325.length co24] from (k25_mkF _ _ (⟨x4_2, 0, 0, ([] : List Int), y325⟩ : S25) (Nat.le_refl _) (F_nil _ _ _) (R_reads' (R_mono (ok' := (fun k_ => some k_ ≠ (.slice (some ad309) y306.length co5 : Value).ownBlock)) (R_apart' (HO327.out) (R_typed HO_1.out) (by decide)) (fun k_ hk => hk.2))).2.1 (R_F (R_mono (ok' := (fun k_ => some k_ ≠ (.slice (some ad309) y306.length co5 : Value).ownBlock)) (R_apart' (HO327.out) (R_typed HO_1.out) (by decide)) (fun k_ hk => hk.2))))) (Reps.none _ _)))))))))); intro v329 w25 ho26 hb hg_ hnew_; clear hg_ hnew_; (first | rw [← Ny328.out] at ho26 | (simp only [Int.reduceToNat] at ho26; rw [← Ny328.out] at ho26)); replace HO_1 := kAs (R_below (ra_ HO_1.out) hb); have HO330 := kAs (N_lower ho26 (below_size bw_)); replace HB := kAs (below_step bw_ hb); clear HO312 HO315 HO318 HO321 HO324 HO327; clear hb ho26))
        go_loopg [6] k2 (fun kq v6 w' => ∃ (x6_3 : Int), v6 = .int .i64 x6_3 ∧ Aside0 (drayagelaw20_JournalKnown.l2 kq y306 x2_1 (rd y306 x2_1) x4_2 y328 x6_3 = some r) ∧ Aside0 (kq ≤ k2) ∧ Aside0 (Kd.R (Kd.int .i64) 3 w' w.heap.size (fun _ => True) (.slice (some ad309) y306.length co5) y306) ∧ Aside0 (Kd.N k25 25 w' w.heap.size (fun k_ => some k_ ≠ ((.slice (some ad309) y306.length co5) : Value).ownBlock) v329 y328) ∧ Aside0 (Below w.heap.size w w'))
        case atStart => exact ⟨(0), fs_, H', ⟨Nat.le_refl _⟩, ⟨by (with_reducible repeat first | apply R_alloc | apply R_drewN | apply R_drew); exact R_mono HO_1.out (fun _ hk => trivial)⟩, ⟨by (with_reducible repeat first | apply N_alloc | apply N_drewN | apply N_drew); exact HO330.out⟩, ⟨bw_⟩⟩
        case round =>
         clear H'
         (try clear p2); (try clear c3); (try clear c3b0); (try clear p3); (try clear q3); (try clear hx3); (try clear c4); (try clear c4b0); (try clear c5); (try clear c6); (try clear c6b0); (try clear c8); (try clear hx309_0); (try clear p2); (try clear p3); (try clear p309); (try clear q3); (try clear q309)
         obtain ⟨x6_3, rfl, HA, HK3, HO_1, HO_5, HB⟩ := hrel
         cases gk with
         | zero => exact absurd HA.out (by simp [drayagelaw20_JournalKnown.l2])
         | succ k3 =>
          have H := HA.out
          clear HA
          simp only [drayagelaw20_JournalKnown.l2] at H
          by_cases c27 : x6_3 < (y328.length : Int)
          ·rw [if_pos c27] at H
           have c27b0 : decide (x6_3 < (y328.length : Int)) = true := decide_eq_true c27
           clear c27
           by_cases c28 : 0 ≤ x6_3
           ·rw [if_pos c28] at H
            have c28b0 : decide (0 ≤ x6_3) = true := decide_eq_true c28
            clear c28
            obtain ⟨y332, hy332⟩ : ∃ y_ : List Int, y_ = (([((rd y306 x2_1)) % 256, 255, 0] : List Int)) := ⟨_, rfl⟩
            replace H : ((drayagelaw20_JournalBytes.f ((rd_T25 y328 x6_3).f0) ((rd_T25 y328 x6_3).f1) ((rd_T25 y328 x6_3).f2) ((rd_T25 y328 x6_3).f3) ((rd_T25 y328 x6_3).f4) y332).bind fun t335 => (if t335 = true then (drayagelaw20_JournalKnown.l2 k3 y306 x2_1 (rd y306 x2_1) x4_2 y328 (wrap64 (x6_3 + 1))) else (some false))) = some r := by first | (rw [hy332]; with_reducible exact H) | (have H2_ := (Option.bind_some _ _).symm.trans H; rw [hy332]; with_reducible exact H2_) | (have H2_ := (Option.bind_some _ _).symm.trans H; with_reducible exact H2_) | with_reducible exact H | (rw [hy332]; exact H) | exact H
            have Ny332 := kAs hy332
            clear hy332
            replace H := Option.bind_eq_some_iff.mp H
            obtain ⟨t335, A290, H⟩ := H
            try dsimp only at H
            have A29 := kAs A290
            clear A290
            by_cases c30 : t335 = true
            ·subst c30
             rw [if_pos rfl] at H
             have H' := kAs H
             clear H
             obtain ⟨Ao31, co31, eo31⟩ := N_slice HO_5.out
             subst eo31
             have p331 : 0 ≤ (x6_3 : Int) := of_decide_eq_true (by first | (with_reducible assumption) | assumption)
             have q331 : x6_3 < (y328.length : Int) := of_decide_eq_true (by first | (with_reducible assumption) | assumption)
             obtain ⟨ad331, A331_3, c331_3, A331_4, c331_4, e331, hx331_0, hx331_1, hx331_2, hx331_3, hx331_4, hl331_3, hi331_3, hl331_4, hi331_4⟩ := at_T25 (N_reads' HO_5.out).2.2 x6_3 p331 q331
             cases e331
             obtain ⟨ce331, hce331, hMe331, hcc331⟩ := N_get HO_5.out z25 x6_3 p331 (by first | exact q331 | exact of_decide_eq_true (by first | (with_reducible assumption) | assumption) | (have e_ := (N_reads' HO_5.out).1; omega))
             obtain ⟨ua331_3, uc331_3, ua331_4, uc331_4, rfl, ul331_3, ge331_3, ul331_4, ge331_4⟩ := k25_openF hMe331
             have hv331_3 := hcc331 3 _ rfl
             rw [add_field _ _ 3 (by omega)] at hv331_3
             replace hv331_3 := Option.some.inj (hv331_3.symm.trans hx331_3)
             injection hv331_3 with hva_ hvn_ hvc_
             rw [hva_] at ge331_3
             rw [hvc_] at ul331_3
             have HL331_3 := kAs (show Kd.V (Kd.int .i64) 3 _ w.heap.size _ _ ((rd_T25 y328 x6_3).f3) from V_mk ul331_3 ge331_3)
             clear hva_ hvn_ hvc_ ge331_3 ul331_3
             have hv331_4 := hcc331 4 _ rfl
             rw [add_field _ _ 4 (by omega)] at hv331_4
             replace hv331_4 := Option.some.inj (hv331_4.symm.trans hx331_4)
             injection hv331_4 with hva_ hvn_ hvc_
             rw [hva_] at ge331_4
             rw [hvc_] at ul331_4
             have HL331_4 := kAs (show Kd.V k49 49 _ w.heap.size _ _ ((rd_T25 y328 x6_3).f4) from V_mk ul331_4 ge331_4)
             clear hva_ hvn_ hvc_ ge331_4 ul331_4
             clear hcc331 hce331
             have HR331_3 := kAs hi331_3
             have HC331_3 := kAs hl331_3
             clear hi331_3 hl331_3
             have HR331_4 := kAs hi331_4
             have HC331_4 := kAs hl331_4
             clear hi331_4 hl331_4
             replace p331 := eq_true p331
             replace q331 := eq_true q331
             go_wp2_with (first | ((with_reducible refine gate_dst (N := 77) rfl ?_); refine R_lit (Kd.int .u8) _ 5 ?hg (N := 77) ?hd (xs := ([((rd y306 x2_1)) % 256, 255, 0] : List Int)) (inner := [.int .u8 (((rd y306 x2_1)) % 256), .int .u8 255, .int .u8 0]) (ok := fun _ => True) (okp := fun _ => True) ?hr ?hp (fun _ hk => hk) trivial (Below.refl _ _) (Nat.le_refl _) (by simp) ?_; (case hd => rfl); (case hg => rfl); (case hr => first | (go_simp; done) | (go_simp; rfl)); (case hp => exact (Reps.one (show Kd.M (Kd.int .u8) _ _ _ (((rd y306 x2_1)) % 256) [.int .u8 (((rd y306 x2_1)) % 256)] from rfl) (Reps.one (show Kd.M (Kd.int .u8) _ _ _ 255 [.int .u8 255] from rfl) (Reps.one (show Kd.M (Kd.int .u8) _ _ _ 0 [.int .u8 0] from rfl) (Reps.none _ _))))); intro v333 w32 ho33 hb hg_ hnew_; clear hg_ hnew_; (first | rw [← Ny332.out] at ho33 | (simp only [Int.reduceToNat] at ho33; rw [← Ny332.out] at ho33)); replace HO_1 := kAs (R_below (ra_ HO_1.out) hb); replace HO_5 := kAs (N_elder' (by (with_reducible repeat first | apply N_alloc | apply N_drewN | apply N_drew); exact HO_5.out) (R_base ho33) hb); replace HL331_3 := kAs (V_elder' (by (with_reducible repeat first | apply V_alloc | apply V_drewN | apply V_drew); exact HL331_3.out) (R_base ho33) hb); replace HL331_4 := kAs (V_elder' (by (with_reducible repeat first | apply V_alloc | apply V_drewN | apply V_drew); exact HL331_4.out) (R_base ho33) hb); have HO334 := kAs (R_lower ho33 (below_size bw_)); replace HR331_3 := kAs (C_below (by repeat (first | (with_reducible exact HR331_3.out) | (with_reducible refine C_alloc ?_ _) | (with_reducible refine C_drewN ?_ _) | (with_reducible refine C_drew ?_) | exact HR331_3.out)) hb); replace HR331_4 := kAs (C_below (by repeat (first | (with_reducible exact HR331_4.out) | (with_reducible refine C_alloc ?_ _) | (with_reducible refine C_drewN ?_ _) | (with_reducible refine C_drew ?_) | exact HR331_4.out)) hb); replace HB := kAs (below_step bw_ hb); clear hb ho33; obtain ⟨Ao34, co34, eo34⟩ := R_slice HO334.out; subst eo34) | ((with_reducible refine gate_callee (f := 3) rfl ?_); refine goesL_ (some 78) rfl rfl Try.func3 (by kernel_rfl) rfl #[.agg #[.int .i64 ((rd_T25 y328 x6_3).f0), .int .i64 ((rd_T25 y328 x6_3).f1), .int .i64 ((rd_T25 y328 x6_3).f2), .slice A331_3 ((rd_T25 y328 x6_3).f3).length c331_3, .slice A331_4 ((rd_T25 y328 x6_3).f4).length c331_4], .slice Ao34 y332.length co34] rfl ca_ ?_; (with_reducible refine (drayagelaw20_JournalBytes.calls ((rd_T25 y328 x6_3).f0) ((rd_T25 y328 x6_3).f1) ((rd_T25 y328 x6_3).f2) _ _ ((rd_T25 y328 x6_3).f3) _ _ ((rd_T25 y328 x6_3).f4) _ _ y332 true _ ?side1 ?side2 ?side3 ?side4 ?side5 ?side6 A29.out).mono ?_); (case side1 => repeat (first | exact (by repeat (first | (with_reducible exact HR331_3.out) | (with_reducible refine C_alloc ?_ _) | (with_reducible refine C_drewN ?_ _) | (with_reducible refine C_drew ?_) | exact HR331_3.out)) | (with_reducible refine C_alloc ?_ _) | (with_reducible refine C_drewN ?_ _) | (with_reducible refine C_drew ?_))); (case side2 => exact HC331_3.out); (case side3 => repeat (first | exact (by repeat (first | (with_reducible exact HR331_4.out) | (with_reducible refine C_alloc ?_ _) | (with_reducible refine C_drewN ?_ _) | (with_reducible refine C_drew ?_) | exact HR331_4.out)) | (with_reducible refine C_alloc ?_ _) | (with_reducible refine C_drewN ?_ _) | (with_reducible refine C_drew ?_))); (case side4 => exact HC331_4.out); (case side5 => repeat (first | exact (R_reads' HO334.out).2.2 | (with_reducible refine C_alloc ?_ _) | (with_reducible refine C_drewN ?_ _) | (with_reducible refine C_drew ?_))); (case side6 => exact (R_reads' HO334.out).2.1); rintro e w35 ⟨rfl, hb⟩; refine ⟨_, rfl, ?_⟩; replace HO_1 := kAs (R_below (ra_ HO_1.out) hb); replace HO_5 := kAs (N_below (by (with_reducible repeat first | apply N_alloc | apply N_drewN | apply N_drew); exact HO_5.out) hb); replace HL331_3 := kAs (V_below (by (with_reducible repeat first | apply V_alloc | apply V_drewN | apply V_drew); exact HL331_3.out) hb); replace HL331_4 := kAs (V_below (by (with_reducible repeat first | apply V_alloc | apply V_drewN | apply V_drew); exact HL331_4.out) hb); replace HO334 := kAs (R_below (ra_ HO334.out) hb); replace HR331_3 := kAs (C_below (by repeat (first | (with_reducible exact HR331_3.out) | (with_reducible refine C_alloc ?_ _) | (with_reducible refine C_drewN ?_ _) | (with_reducible refine C_drew ?_) | exact HR331_3.out)) hb); replace HR331_4 := kAs (C_below (by repeat (first | (with_reducible exact HR331_4.out) | (with_reducible refine C_alloc ?_ _) | (with_reducible refine C_drewN ?_ _) | (with_reducible refine C_drew ?_) | exact HR331_4.out)) hb); replace HB := kAs (below_step bw_ hb); (try clear hb); (try clear hb2); (try clear hk); (try clear hi)))
             go_roundg k3
             case measure => have := HK1.out; have := HK2.out; have := HK3.out; omega
             case rel => exact ⟨(wrap64 (x6_3 + 1)), fs_, H', ⟨by have := HK1.out; have := HK2.out; have := HK3.out; omega⟩, ⟨ra_ HO_1.out⟩, ⟨by (with_reducible repeat first | apply N_alloc | apply N_drewN | apply N_drew); exact N_mono HO_5.out (fun _ hk => hk.1)⟩, ⟨bw_⟩⟩
            ·replace c30 := Bool.eq_false_iff.mpr c30
             subst c30
             have H1 : (some false) = some r := by rw [if_neg (show ¬ (false = true) by decide)] at H; exact H
             clear H
             have H := H1
             clear H1
             obtain rfl := Option.some.inj H
             obtain ⟨Ao36, co36, eo36⟩ := N_slice HO_5.out
             subst eo36
             have p331 : 0 ≤ (x6_3 : Int) := of_decide_eq_true (by first | (with_reducible assumption) | assumption)
             have q331 : x6_3 < (y328.length : Int) := of_decide_eq_true (by first | (with_reducible assumption) | assumption)
             obtain ⟨ad331, A331_3, c331_3, A331_4, c331_4, e331, hx331_0, hx331_1, hx331_2, hx331_3, hx331_4, hl331_3, hi331_3, hl331_4, hi331_4⟩ := at_T25 (N_reads' HO_5.out).2.2 x6_3 p331 q331
             cases e331
             obtain ⟨ce331, hce331, hMe331, hcc331⟩ := N_get HO_5.out z25 x6_3 p331 (by first | exact q331 | exact of_decide_eq_true (by first | (with_reducible assumption) | assumption) | (have e_ := (N_reads' HO_5.out).1; omega))
             obtain ⟨ua331_3, uc331_3, ua331_4, uc331_4, rfl, ul331_3, ge331_3, ul331_4, ge331_4⟩ := k25_openF hMe331
             have hv331_3 := hcc331 3 _ rfl
             rw [add_field _ _ 3 (by omega)] at hv331_3
             replace hv331_3 := Option.some.inj (hv331_3.symm.trans hx331_3)
             injection hv331_3 with hva_ hvn_ hvc_
             rw [hva_] at ge331_3
             rw [hvc_] at ul331_3
             have HL331_3 := kAs (show Kd.V (Kd.int .i64) 3 _ w.heap.size _ _ ((rd_T25 y328 x6_3).f3) from V_mk ul331_3 ge331_3)
             clear hva_ hvn_ hvc_ ge331_3 ul331_3
             have hv331_4 := hcc331 4 _ rfl
             rw [add_field _ _ 4 (by omega)] at hv331_4
             replace hv331_4 := Option.some.inj (hv331_4.symm.trans hx331_4)
             injection hv331_4 with hva_ hvn_ hvc_
             rw [hva_] at ge331_4
             rw [hvc_] at ul331_4
             have HL331_4 := kAs (show Kd.V k49 49 _ w.heap.size _ _ ((rd_T25 y328 x6_3).f4) from V_mk ul331_4 ge331_4)
             clear hva_ hvn_ hvc_ ge331_4 ul331_4
             clear hcc331 hce331
             have HR331_3 := kAs hi331_3
             have HC331_3 := kAs hl331_3
             clear hi331_3 hl331_3
             have HR331_4 := kAs hi331_4
             have HC331_4 := kAs hl331_4
             clear hi331_4 hl331_4
             replace p331 := eq_true p331
             replace q331 := eq_true q331
             go_wp2_with (first | ((with_reducible refine gate_dst (N := 77) rfl ?_); refine R_lit (Kd.int .u8) _ 5 ?hg (N := 77) ?hd (xs := ([((rd y306 x2_1)) % 256, 255, 0] : List Int)) (inner := [.int .u8 (((rd y306 x2_1)) % 256), .int .u8 255, .int .u8 0]) (ok := fun _ => True) (okp := fun _ => True) ?hr ?hp (fun _ hk => hk) trivial (Below.refl _ _) (Nat.le_refl _) (by simp) ?_; (case hd => rfl); (case hg => rfl); (case hr => first | (go_simp; done) | (go_simp; rfl)); (case hp => exact (Reps.one (show Kd.M (Kd.int .u8) _ _ _ (((rd y306 x2_1)) % 256) [.int .u8 (((rd y306 x2_1)) % 256)] from rfl) (Reps.one (show Kd.M (Kd.int .u8) _ _ _ 255 [.int .u8 255] from rfl) (Reps.one (show Kd.M (Kd.int .u8) _ _ _ 0 [.int .u8 0] from rfl) (Reps.none _ _))))); intro v333 w37 ho38 hb hg_ hnew_; clear hg_ hnew_; (first | rw [← Ny332.out] at ho38 | (simp only [Int.reduceToNat] at ho38; rw [← Ny332.out] at ho38)); replace HO_1 := kAs (R_below (ra_ HO_1.out) hb); replace HO_5 := kAs (N_elder' (by (with_reducible repeat first | apply N_alloc | apply N_drewN | apply N_drew); exact HO_5.out) (R_base ho38) hb); replace HL331_3 := kAs (V_elder' (by (with_reducible repeat first | apply V_alloc | apply V_drewN | apply V_drew); exact HL331_3.out) (R_base ho38) hb); replace HL331_4 := kAs (V_elder' (by (with_reducible repeat first | apply V_alloc | apply V_drewN | apply V_drew); exact HL331_4.out) (R_base ho38) hb); have HO334 := kAs (R_lower ho38 (below_size bw_)); replace HR331_3 := kAs (C_below (by repeat (first | (with_reducible exact HR331_3.out) | (with_reducible refine C_alloc ?_ _) | (with_reducible refine C_drewN ?_ _) | (with_reducible refine C_drew ?_) | exact HR331_3.out)) hb); replace HR331_4 := kAs (C_below (by repeat (first | (with_reducible exact HR331_4.out) | (with_reducible refine C_alloc ?_ _) | (with_reducible refine C_drewN ?_ _) | (with_reducible refine C_drew ?_) | exact HR331_4.out)) hb); replace HB := kAs (below_step bw_ hb); clear hb ho38; obtain ⟨Ao39, co39, eo39⟩ := R_slice HO334.out; subst eo39) | ((with_reducible refine gate_callee (f := 3) rfl ?_); refine goesL_ (some 78) rfl rfl Try.func3 (by kernel_rfl) rfl #[.agg #[.int .i64 ((rd_T25 y328 x6_3).f0), .int .i64 ((rd_T25 y328 x6_3).f1), .int .i64 ((rd_T25 y328 x6_3).f2), .slice A331_3 ((rd_T25 y328 x6_3).f3).length c331_3, .slice A331_4 ((rd_T25 y328 x6_3).f4).length c331_4], .slice Ao39 y332.length co39] rfl ca_ ?_; (with_reducible refine (drayagelaw20_JournalBytes.calls ((rd_T25 y328 x6_3).f0) ((rd_T25 y328 x6_3).f1) ((rd_T25 y328 x6_3).f2) _ _ ((rd_T25 y328 x6_3).f3) _ _ ((rd_T25 y328 x6_3).f4) _ _ y332 false _ ?side1 ?side2 ?side3 ?side4 ?side5 ?side6 A29.out).mono ?_); (case side1 => repeat (first | exact (by repeat (first | (with_reducible exact HR331_3.out) | (with_reducible refine C_alloc ?_ _) | (with_reducible refine C_drewN ?_ _) | (with_reducible refine C_drew ?_) | exact HR331_3.out)) | (with_reducible refine C_alloc ?_ _) | (with_reducible refine C_drewN ?_ _) | (with_reducible refine C_drew ?_))); (case side2 => exact HC331_3.out); (case side3 => repeat (first | exact (by repeat (first | (with_reducible exact HR331_4.out) | (with_reducible refine C_alloc ?_ _) | (with_reducible refine C_drewN ?_ _) | (with_reducible refine C_drew ?_) | exact HR331_4.out)) | (with_reducible refine C_alloc ?_ _) | (with_reducible refine C_drewN ?_ _) | (with_reducible refine C_drew ?_))); (case side4 => exact HC331_4.out); (case side5 => repeat (first | exact (R_reads' HO334.out).2.2 | (with_reducible refine C_alloc ?_ _) | (with_reducible refine C_drewN ?_ _) | (with_reducible refine C_drew ?_))); (case side6 => exact (R_reads' HO334.out).2.1); rintro e w40 ⟨rfl, hb⟩; refine ⟨_, rfl, ?_⟩; replace HO_1 := kAs (R_below (ra_ HO_1.out) hb); replace HO_5 := kAs (N_below (by (with_reducible repeat first | apply N_alloc | apply N_drewN | apply N_drew); exact HO_5.out) hb); replace HL331_3 := kAs (V_below (by (with_reducible repeat first | apply V_alloc | apply V_drewN | apply V_drew); exact HL331_3.out) hb); replace HL331_4 := kAs (V_below (by (with_reducible repeat first | apply V_alloc | apply V_drewN | apply V_drew); exact HL331_4.out) hb); replace HO334 := kAs (R_below (ra_ HO334.out) hb); replace HR331_3 := kAs (C_below (by repeat (first | (with_reducible exact HR331_3.out) | (with_reducible refine C_alloc ?_ _) | (with_reducible refine C_drewN ?_ _) | (with_reducible refine C_drew ?_) | exact HR331_3.out)) hb); replace HR331_4 := kAs (C_below (by repeat (first | (with_reducible exact HR331_4.out) | (with_reducible refine C_alloc ?_ _) | (with_reducible refine C_drewN ?_ _) | (with_reducible refine C_drew ?_) | exact HR331_4.out)) hb); replace HB := kAs (below_step bw_ hb); (try clear hb); (try clear hb2); (try clear hk); (try clear hi)))
             go_ret
             exact ⟨fi_, bw_⟩
           ·rw [if_neg c28] at H
            exact absurd H (by simp)
          ·rw [if_neg c27] at H
           have c27b0 : decide (x6_3 < (y328.length : Int)) = false := decide_eq_false c27
           clear c27
           have H' := kAs H
           clear H
           obtain ⟨Ao41, co41, eo41⟩ := N_slice HO_5.out
           subst eo41
           go_wp2
           go_roundg k3
           case measure => have := HK1.out; have := HK2.out; have := HK3.out; omega
           case rel => exact ⟨(wrap64 (x4_2 + 1)), fs_, H', ⟨by have := HK1.out; have := HK2.out; have := HK3.out; omega⟩, ⟨ra_ HO_1.out⟩, ⟨bw_⟩⟩
       ·rw [if_neg c6] at H
        have c6b0 : decide (x4_2 < 8) = false := decide_eq_false c6
        clear c6
        have H' := kAs H
        clear H
        go_wp2
        go_roundg k2
        case measure => have := HK1.out; have := HK2.out; omega
        case rel => exact ⟨(wrap64 (x2_1 + 1)), fs_, H', ⟨by have := HK1.out; have := HK2.out; omega⟩, ⟨ra_ HO_1.out⟩, ⟨bw_⟩⟩
    ·rw [if_neg c4] at H
     exact absurd H (by simp)
   ·rw [if_neg c3] at H
    have c3b0 : decide (x2_1 < (y306.length : Int)) = false := decide_eq_false c3
    clear c3
    by_cases c42 : 24 ≤ 35184372088832
    ·rw [if_pos c42] at H
     have c42b0 := eq_true c42
     have c42b1 : decide (24 ≤ 35184372088832) = true := decide_eq_true c42
     clear c42
     obtain ⟨y336, hy336⟩ : ∃ y_ : List Int, y_ = (List.replicate 24 0) := ⟨_, rfl⟩
     replace H : (if 255 ≤ 11728124029610 then (drayagelaw20_JournalKnown.l3 k1 0 1 0 0 y336 (List.replicate 255 z49)) else (none)) = some r := by first | (rw [hy336]; with_reducible exact H) | (have H2_ := (Option.bind_some _ _).symm.trans H; rw [hy336]; with_reducible exact H2_) | (have H2_ := (Option.bind_some _ _).symm.trans H; with_reducible exact H2_) | with_reducible exact H | (rw [hy336]; exact H) | exact H
     have Ny336 := kAs hy336
     clear hy336
     by_cases c43 : 255 ≤ 11728124029610
     ·rw [if_pos c43] at H
      have c43b0 := eq_true c43
      have c43b1 : decide (255 ≤ 11728124029610) = true := decide_eq_true c43
      clear c43
      obtain ⟨y339, hy339⟩ : ∃ y_ : List (S49), y_ = (List.replicate 255 z49) := ⟨_, rfl⟩
      replace H : (drayagelaw20_JournalKnown.l3 k1 0 1 0 0 y336 y339) = some r := by first | (rw [hy339]; with_reducible exact H) | (have H2_ := (Option.bind_some _ _).symm.trans H; rw [hy339]; with_reducible exact H2_) | (have H2_ := (Option.bind_some _ _).symm.trans H; with_reducible exact H2_) | with_reducible exact H | (rw [hy339]; exact H) | exact H
      have Ny339 := kAs hy339
      clear hy339
      have H' := kAs H
      clear H
      obtain ⟨Ao44, co44, eo44⟩ := R_slice HO_1.out
      subst eo44
      try go_wp2
      replace HO_1 := kAs (R_drew HO_1.out)
      replace HB := kAs (below_drew1 HB.out)
      refine start_ (n := 5) (S := fun w' => True) (ds := []) #[false, false, false, false, false] (by kernel_rfl) rfl rfl trivial (fun hHeld => ?_)
      generalize wr.drew = w45 at HO_1 HB hHeld ⊢
      refine join_ (σ := Value × Value × Nat) 1 #[true, true, true, true, false] (fun s_ => [(80, s_.1), (81, s_.2.1), (7, .pointer (some ⟨s_.2.2, 0, none⟩)), (82, .agg #[.int .i64 1, .int .i64 0, .int .i64 0, s_.1, s_.2.1])]) (fun s_ w' => (Kd.R (Kd.int .i64) 3 w' w.heap.size (fun k_ => some k_ ≠ (.slice Ao44 y306.length co44 : Value).ownBlock) s_.1 y336) ∧ (Kd.R k49 49 w' w.heap.size (fun _ => True) s_.2.1 y339) ∧ (Kd.R (Kd.int .i64) 3 w' w.heap.size (fun k_ => some k_ ≠ (s_.1 : Value).ownBlock) (.slice Ao44 y306.length co44) y306) ∧ (w'.heap[s_.2.2]? = some (.cells #[.int .i64 0, .int .i64 0, .int .i64 0, .slice none 0 0, .slice none 0 0] 25 (0, 0))) ∧ (w.heap.size ≤ s_.2.2) ∧ (w.heap.size ≤ s_.2.2) ∧ (Below w.heap.size w w')) ?_ ?_
      rotate_left
      ·intro hJ0_1_3
       refine join_ (σ := Value × Value) 2 #[true, true, true, false, false] (fun s_ => [(80, s_.1), (81, s_.2), (82, .agg #[.int .i64 1, .int .i64 0, .int .i64 0, s_.1, s_.2])]) (fun s_ w' => (Kd.R (Kd.int .i64) 3 w' w.heap.size (fun k_ => some k_ ≠ (.slice Ao44 y306.length co44 : Value).ownBlock) s_.1 y336) ∧ (Kd.R k49 49 w' w.heap.size (fun _ => True) s_.2 y339) ∧ (Kd.R (Kd.int .i64) 3 w' w.heap.size (fun k_ => some k_ ≠ (s_.1 : Value).ownBlock) (.slice Ao44 y306.length co44) y306) ∧ (Below w.heap.size w w')) ?_ ?_
       rotate_left
       ·intro hJ0_1
        refine join_ (σ := Value × Nat) 3 #[true, false, false, true, false] (fun s_ => [(80, s_.1), (7, .pointer (some ⟨s_.2, 0, none⟩))]) (fun s_ w' => (Kd.R (Kd.int .i64) 3 w' w.heap.size (fun k_ => some k_ ≠ (.slice Ao44 y306.length co44 : Value).ownBlock) s_.1 y336) ∧ (Kd.R (Kd.int .i64) 3 w' w.heap.size (fun k_ => some k_ ≠ (s_.1 : Value).ownBlock) (.slice Ao44 y306.length co44) y306) ∧ (w'.heap[s_.2]? = some (.cells #[.int .i64 0, .int .i64 0, .int .i64 0, .slice none 0 0, .slice none 0 0] 25 (0, 0))) ∧ (w.heap.size ≤ s_.2) ∧ (w.heap.size ≤ s_.2) ∧ (Below w.heap.size w w')) ?_ ?_
        rotate_left
        ·intro hJ0_3
         refine join_ (σ := Value × Nat) 3 #[false, true, false, true, false] (fun s_ => [(81, s_.1), (7, .pointer (some ⟨s_.2, 0, none⟩))]) (fun s_ w' => (Kd.R k49 49 w' w.heap.size (fun _ => True) s_.1 y339) ∧ (Kd.R (Kd.int .i64) 3 w' w.heap.size (fun _ => True) (.slice Ao44 y306.length co44) y306) ∧ (w'.heap[s_.2]? = some (.cells #[.int .i64 0, .int .i64 0, .int .i64 0, .slice none 0 0, .slice none 0 0] 25 (0, 0))) ∧ (w.heap.size ≤ s_.2) ∧ (w.heap.size ≤ s_.2) ∧ (Below w.heap.size w w')) ?_ ?_
         rotate_left
         ·intro hJ1_3
          refine join_ (σ := Value) 4 #[true, false, false, false, false] (fun s_ => [(80, s_)]) (fun s_ w' => (Kd.R (Kd.int .i64) 3 w' w.heap.size (fun k_ => some k_ ≠ (.slice Ao44 y306.length co44 : Value).ownBlock) s_ y336) ∧ (Kd.R (Kd.int .i64) 3 w' w.heap.size (fun k_ => some k_ ≠ (s_ : Value).ownBlock) (.slice Ao44 y306.length co44) y306) ∧ (Below w.heap.size w w')) ?_ ?_
          rotate_left
          ·intro hJ0
           refine join_ (σ := Value) 4 #[false, true, false, false, false] (fun s_ => [(81, s_)]) (fun s_ w' => (Kd.R k49 49 w' w.heap.size (fun _ => True) s_ y339) ∧ (Kd.R (Kd.int .i64) 3 w' w.heap.size (fun _ => True) (.slice Ao44 y306.length co44) y306) ∧ (Below w.heap.size w w')) ?_ ?_
           rotate_left
           ·intro hJ1
            refine join_ (σ := Nat) 4 #[false, false, false, true, false] (fun s_ => [(7, .pointer (some ⟨s_, 0, none⟩))]) (fun s_ w' => (Kd.R (Kd.int .i64) 3 w' w.heap.size (fun _ => True) (.slice Ao44 y306.length co44) y306) ∧ (w'.heap[s_]? = some (.cells #[.int .i64 0, .int .i64 0, .int .i64 0, .slice none 0 0, .slice none 0 0] 25 (0, 0))) ∧ (w.heap.size ≤ s_) ∧ (w.heap.size ≤ s_) ∧ (Below w.heap.size w w')) ?_ ?_
            rotate_left
            ·intro hJ3
             refine three_ (i := 0) (j := 1) (k := 3) (Ni := some 80) (Nj := some 81) (Nk := some 7) #[true, false, false, false, false] #[false, true, false, false, false] #[false, false, false, true, false] rfl rfl rfl rfl rfl rfl (by kernel_rfl) (by decide) (by decide) (by decide) (fun K hK => ?_) (fun K hK => ?_) (fun K hK => ?_)
             ·skip
              refine R_make_step (Kd.int .i64) _ 3 (by rfl) (N := 80) rfl 22 _ _ rfl 24 rfl rfl Try.underlying22 (.int .i64 0) 8 info3 rfl (by decide) (by omega) 0 (ok := fun _ => True) (okp := fun _ => True) rfl (fun _ hk => hk) trivial (by omega) (by omega) (Below.refl _ _) (Nat.le_refl _) ?_
              intro v337 w46 ho47 hb hg_ hnew_
              clear hg_ hnew_
              (first | rw [← Ny336.out] at ho47 | (simp only [Int.reduceToNat] at ho47; rw [← Ny336.out] at ho47))
              have HO338 := kAs (R_lower (R_new' ho47 (R_lt (ra_ HO_1.out))) (below_size bw_))
              replace HO_1 := kAs (R_elder' (ra_ HO_1.out) (R_base ho47) hb)
              replace HB := kAs (below_step bw_ hb)
              clear hb ho47
              refine hK.out _ _ trivial (fun hHeld => ?_)
              clear hK K
              refine norm_ (a' := ?_) ?_ ?_
              rotate_left
              ·show Act.put _ (some 80) _ = _
               simp only [Act.put, List.setIfInBounds_toArray, List.set_cons_zero, List.set_cons_succ, i64_w, i32_w]
               rfl
              exact norm_ (by first | (simp only [putAll, Act.put, List.setIfInBounds_toArray, List.set_cons_zero, List.set_cons_succ]; done) | (simp only [putAll, Act.put, List.setIfInBounds_toArray, List.set_cons_zero, List.set_cons_succ]; rfl)) (hJ0 (v337) _ ⟨(by (with_reducible repeat first | apply R_alloc | apply R_drewN | apply R_drew); exact R_mono HO338.out (fun _ hk => hk.2)), (by (with_reducible repeat first | apply R_alloc | apply R_drewN | apply R_drew); exact R_mono HO_1.out (fun _ hk => hk.2)), bw_⟩)
             ·skip
              refine R_make_step k49 _ 49 (by rfl) (N := 81) rfl 23 _ _ rfl 255 rfl rfl Try.underlying23 (.agg #[(.int .i64 0), (.int .i64 0), (.int .i64 0)]) 24 info49 rfl (by decide) (by omega) z49 (ok := fun _ => True) (okp := fun _ => True) (k49_mkM _ _ _ z49 ) (fun _ hk => hk) trivial (by omega) (by omega) (Below.refl _ _) (Nat.le_refl _) ?_
              intro v340 w46 ho47 hb hg_ hnew_
              clear hg_ hnew_
              (first | rw [← Ny339.out] at ho47 | (simp only [Int.reduceToNat] at ho47; rw [← Ny339.out] at ho47))
              replace HO_1 := kAs (R_below (ra_ HO_1.out) hb)
              have HO341 := kAs (R_lower ho47 (below_size bw_))
              replace HB := kAs (below_step bw_ hb)
              clear hb ho47
              refine hK.out _ _ trivial (fun hHeld => ?_)
              clear hK K
              refine norm_ (a' := ?_) ?_ ?_
              rotate_left
              ·show Act.put _ (some 81) _ = _
               simp only [Act.put, List.setIfInBounds_toArray, List.set_cons_zero, List.set_cons_succ, i64_w, i32_w]
               rfl
              exact norm_ (by first | (simp only [putAll, Act.put, List.setIfInBounds_toArray, List.set_cons_zero, List.set_cons_succ]; done) | (simp only [putAll, Act.put, List.setIfInBounds_toArray, List.set_cons_zero, List.set_cons_succ]; rfl)) (hJ1 (v340) _ ⟨(ra_ HO341.out), (ra_ HO_1.out), bw_⟩)
             ·skip
              refine box_step ?hg (N := 7) ?hd (cs := #[.int .i64 0, .int .i64 0, .int .i64 0, .slice none 0 0, .slice none 0 0]) (t := 25) ?hr ?_; (case hd => rfl); (case hg => rfl); (case hr => first | (go_simp; done) | (go_simp; rfl))
              intro ga hg w46 hbox hb
              replace HO_1 := kAs (R_below (ra_ HO_1.out) hb)
              have Ka := kAs (hbox)
              have GW342 := kAs ((by rw [hg]; exact (below_size bw_) : w.heap.size ≤ ga))
              have Ea := kAs ((by rw [hg]; exact (below_size bw_) : w.heap.size ≤ ga))
              replace HB := kAs (below_step bw_ hb)
              clear hb hbox hg
              refine hK.out _ _ trivial (fun hHeld => ?_)
              clear hK K
              refine norm_ (a' := ?_) ?_ ?_
              rotate_left
              ·show Act.put _ (some 7) _ = _
               simp only [Act.put, List.setIfInBounds_toArray, List.set_cons_zero, List.set_cons_succ, i64_w, i32_w]
               rfl
              exact norm_ (by first | (simp only [putAll, Act.put, List.setIfInBounds_toArray, List.set_cons_zero, List.set_cons_succ]; done) | (simp only [putAll, Act.put, List.setIfInBounds_toArray, List.set_cons_zero, List.set_cons_succ]; rfl)) (hJ3 (ga) _ ⟨(ra_ HO_1.out), (by (with_reducible repeat first | refine blk_drewN ?_ _ | refine blk_drew ?_ | refine blk_alloc ?_ _); exact Ka.out), GW342.out, Ea.out, (by repeat (first | (with_reducible first | exact HB.out | apply below_alloc | apply pw_below_drewN | apply below_drew1 | refine below_set ?_ Ea.out) | exact HB.out))⟩)
            ·skip
             rintro ga w47 ⟨h0_, h1_, h2_, h3_, h4_⟩
             have n0_ : Aside0 (Kd.R (Kd.int .i64) 3 w47 w.heap.size (fun _ => True) (.slice Ao44 y306.length co44) y306) := ⟨h0_⟩
             have n1_ : Aside0 (w47.heap[ga]? = some (.cells #[.int .i64 0, .int .i64 0, .int .i64 0, .slice none 0 0, .slice none 0 0] 25 (0, 0))) := ⟨h1_⟩
             have n2_ : Aside0 (w.heap.size ≤ ga) := ⟨h2_⟩
             have n3_ : Aside0 (w.heap.size ≤ ga) := ⟨h3_⟩
             have n4_ : Aside0 (Below w.heap.size w w47) := ⟨h4_⟩
             clear HO_1
             clear HB
             clear h0_ h1_ h2_ h3_ h4_
             have HO_1 := n0_
             have Ka := n1_
             have GW342 := n2_
             have Ea := n3_
             have HB := n4_
             clear n0_ n1_ n2_ n3_ n4_
             have hHeld := trivial
             refine norm_ (a' := ?_) ?_ ?_
             rotate_left
             ·simp only [putAll, Act.put, List.setIfInBounds_toArray, List.set_cons_zero, List.set_cons_succ]
              rfl
             refine two_ (i := 0) (j := 1) (Ni := some 80) (Nj := some 81) #[true, false, false, true, false] #[false, true, false, true, false] rfl rfl rfl rfl (by kernel_rfl) (by decide) (by decide) (fun K hK => ?_) (fun K hK => ?_)
             ·skip
              refine R_make_step (Kd.int .i64) _ 3 (by rfl) (N := 80) rfl 22 _ _ rfl 24 rfl rfl Try.underlying22 (.int .i64 0) 8 info3 rfl (by decide) (by omega) 0 (ok := fun _ => True) (okp := fun _ => True) rfl (fun _ hk => hk) trivial (by omega) (by omega) (Below.refl _ _) (Nat.le_refl _) ?_
              intro v337 w48 ho49 hb hg_ hnew_
              clear hg_ hnew_
              (first | rw [← Ny336.out] at ho49 | (simp only [Int.reduceToNat] at ho49; rw [← Ny336.out] at ho49))
              have HO338 := kAs (R_lower (R_new' ho49 (R_lt (ra_ HO_1.out))) (below_size (by repeat (first | (with_reducible first | exact HB.out | apply below_alloc | apply pw_below_drewN | apply below_drew1 | refine below_set ?_ Ea.out) | exact HB.out))))
              replace HO_1 := kAs (R_elder' (ra_ HO_1.out) (R_base ho49) hb)
              replace Ka := kAs (blk_below (g := ga) (o := .cells #[.int .i64 0, .int .i64 0, .int .i64 0, .slice none 0 0, .slice none 0 0] 25 (0, 0)) (by (with_reducible repeat first | refine blk_drewN ?_ _ | refine blk_drew ?_ | refine blk_alloc ?_ _); exact Ka.out) hb)
              replace HB := kAs (below_step (by repeat (first | (with_reducible first | exact HB.out | apply below_alloc | apply pw_below_drewN | apply below_drew1 | refine below_set ?_ Ea.out) | exact HB.out)) hb)
              clear hb ho49
              refine hK.out _ _ trivial (fun hHeld => ?_)
              clear hK K
              refine norm_ (a' := ?_) ?_ ?_
              rotate_left
              ·show Act.put _ (some 80) _ = _
               simp only [Act.put, List.setIfInBounds_toArray, List.set_cons_zero, List.set_cons_succ, i64_w, i32_w]
               rfl
              exact norm_ (by first | (simp only [putAll, Act.put, List.setIfInBounds_toArray, List.set_cons_zero, List.set_cons_succ]; done) | (simp only [putAll, Act.put, List.setIfInBounds_toArray, List.set_cons_zero, List.set_cons_succ]; rfl)) (hJ0_3 (v337, ga) _ ⟨(by (with_reducible repeat first | apply R_alloc | apply R_drewN | apply R_drew); exact R_mono HO338.out (fun _ hk => hk.2)), (by (with_reducible repeat first | apply R_alloc | apply R_drewN | apply R_drew); exact R_mono HO_1.out (fun _ hk => hk.2)), (by (with_reducible repeat first | refine blk_drewN ?_ _ | refine blk_drew ?_ | refine blk_alloc ?_ _); exact Ka.out), GW342.out, Ea.out, (by repeat (first | (with_reducible first | exact HB.out | apply below_alloc | apply pw_below_drewN | apply below_drew1 | refine below_set ?_ Ea.out) | exact HB.out))⟩)
             ·skip
              refine R_make_step k49 _ 49 (by rfl) (N := 81) rfl 23 _ _ rfl 255 rfl rfl Try.underlying23 (.agg #[(.int .i64 0), (.int .i64 0), (.int .i64 0)]) 24 info49 rfl (by decide) (by omega) z49 (ok := fun _ => True) (okp := fun _ => True) (k49_mkM _ _ _ z49 ) (fun _ hk => hk) trivial (by omega) (by omega) (Below.refl _ _) (Nat.le_refl _) ?_
              intro v340 w48 ho49 hb hg_ hnew_
              clear hg_ hnew_
              (first | rw [← Ny339.out] at ho49 | (simp only [Int.reduceToNat] at ho49; rw [← Ny339.out] at ho49))
              replace HO_1 := kAs (R_below (ra_ HO_1.out) hb)
              have HO341 := kAs (R_lower ho49 (below_size (by repeat (first | (with_reducible first | exact HB.out | apply below_alloc | apply pw_below_drewN | apply below_drew1 | refine below_set ?_ Ea.out) | exact HB.out))))
              replace Ka := kAs (blk_below (g := ga) (o := .cells #[.int .i64 0, .int .i64 0, .int .i64 0, .slice none 0 0, .slice none 0 0] 25 (0, 0)) (by (with_reducible repeat first | refine blk_drewN ?_ _ | refine blk_drew ?_ | refine blk_alloc ?_ _); exact Ka.out) hb)
              replace HB := kAs (below_step (by repeat (first | (with_reducible first | exact HB.out | apply below_alloc | apply pw_below_drewN | apply below_drew1 | refine below_set ?_ Ea.out) | exact HB.out)) hb)
              clear hb ho49
              refine hK.out _ _ trivial (fun hHeld => ?_)
              clear hK K
              refine norm_ (a' := ?_) ?_ ?_
              rotate_left
              ·show Act.put _ (some 81) _ = _
               simp only [Act.put, List.setIfInBounds_toArray, List.set_cons_zero, List.set_cons_succ, i64_w, i32_w]
               rfl
              exact norm_ (by first | (simp only [putAll, Act.put, List.setIfInBounds_toArray, List.set_cons_zero, List.set_cons_succ]; done) | (simp only [putAll, Act.put, List.setIfInBounds_toArray, List.set_cons_zero, List.set_cons_succ]; rfl)) (hJ1_3 (v340, ga) _ ⟨(ra_ HO341.out), (ra_ HO_1.out), (by (with_reducible repeat first | refine blk_drewN ?_ _ | refine blk_drew ?_ | refine blk_alloc ?_ _); exact Ka.out), GW342.out, Ea.out, (by repeat (first | (with_reducible first | exact HB.out | apply below_alloc | apply pw_below_drewN | apply below_drew1 | refine below_set ?_ Ea.out) | exact HB.out))⟩)
           ·skip
            rintro v340 w48 ⟨h0_, h1_, h2_⟩
            have n0_ : Aside0 (Kd.R k49 49 w48 w.heap.size (fun _ => True) v340 y339) := ⟨h0_⟩
            have n1_ : Aside0 (Kd.R (Kd.int .i64) 3 w48 w.heap.size (fun _ => True) (.slice Ao44 y306.length co44) y306) := ⟨h1_⟩
            have n2_ : Aside0 (Below w.heap.size w w48) := ⟨h2_⟩
            clear HO_1
            clear HB
            clear h0_ h1_ h2_
            have HO341 := n0_
            have HO_1 := n1_
            have HB := n2_
            clear n0_ n1_ n2_
            have hHeld := trivial
            refine norm_ (a' := ?_) ?_ ?_
            rotate_left
            ·simp only [putAll, Act.put, List.setIfInBounds_toArray, List.set_cons_zero, List.set_cons_succ]
             rfl
            refine two_ (i := 0) (j := 3) (Ni := some 80) (Nj := some 7) #[true, true, false, false, false] #[false, true, false, true, false] rfl rfl rfl rfl (by kernel_rfl) (by decide) (by decide) (fun K hK => ?_) (fun K hK => ?_)
            ·skip
             refine R_make_step (Kd.int .i64) _ 3 (by rfl) (N := 80) rfl 22 _ _ rfl 24 rfl rfl Try.underlying22 (.int .i64 0) 8 info3 rfl (by decide) (by omega) 0 (ok := fun _ => True) (okp := fun _ => True) rfl (fun _ hk => hk) trivial (by omega) (by omega) (Below.refl _ _) (Nat.le_refl _) ?_
             intro v337 w49 ho50 hb hg_ hnew_
             clear hg_ hnew_
             (first | rw [← Ny336.out] at ho50 | (simp only [Int.reduceToNat] at ho50; rw [← Ny336.out] at ho50))
             replace HO341 := kAs (R_below (ra_ HO341.out) hb)
             have HO338 := kAs (R_lower (R_new' ho50 (R_lt (ra_ HO_1.out))) (below_size bw_))
             replace HO_1 := kAs (R_elder' (ra_ HO_1.out) (R_base ho50) hb)
             replace HB := kAs (below_step bw_ hb)
             clear hb ho50
             obtain ⟨Ao51, co51, eo51⟩ := R_slice HO341.out
             (first | subst eo51 | (injection eo51 with f1_ f2_ f3_; have f4_ := f1_.symm; have f5_ := f3_.symm; clear f1_ f2_ f3_; subst f4_; subst f5_))
             obtain ⟨Ao52, co52, eo52⟩ := R_slice HO338.out
             (first | subst eo52 | (injection eo52 with f1_ f2_ f3_; have f4_ := f1_.symm; have f5_ := f3_.symm; clear f1_ f2_ f3_; subst f4_; subst f5_))
             refine hK.out _ _ trivial (fun hHeld => ?_)
             clear hK K
             refine norm_ (a' := ?_) ?_ ?_
             rotate_left
             ·show Act.put _ (some 80) _ = _
              simp only [Act.put, List.setIfInBounds_toArray, List.set_cons_zero, List.set_cons_succ, i64_w, i32_w]
              rfl
             refine pureS_ (i := 2) (N := some 82) (v := ?_) (a' := ?_) rfl rfl (by kernel_rfl) (fun _ _ _ h => h) (Or.inl ⟨by rfl, ?_⟩) ?_ ?_
             rotate_left; (· intro w'; go_simp; with_reducible rfl); rotate_left; (· simp only [Act.put, List.setIfInBounds_toArray, List.set_cons_zero, List.set_cons_succ, i64_w, i32_w]; rfl)
             exact norm_ (by first | (simp only [putAll, Act.put, List.setIfInBounds_toArray, List.set_cons_zero, List.set_cons_succ]; done) | (simp only [putAll, Act.put, List.setIfInBounds_toArray, List.set_cons_zero, List.set_cons_succ]; rfl)) (hJ0_1 (.slice Ao52 y336.length co52, .slice Ao51 y339.length co51) _ ⟨(by (with_reducible repeat first | apply R_alloc | apply R_drewN | apply R_drew); exact R_mono HO338.out (fun _ hk => hk.2)), (ra_ HO341.out), (by (with_reducible repeat first | apply R_alloc | apply R_drewN | apply R_drew); exact R_mono HO_1.out (fun _ hk => hk.2)), bw_⟩)
            ·skip
             refine box_step ?hg (N := 7) ?hd (cs := #[.int .i64 0, .int .i64 0, .int .i64 0, .slice none 0 0, .slice none 0 0]) (t := 25) ?hr ?_; (case hd => rfl); (case hg => rfl); (case hr => first | (go_simp; done) | (go_simp; rfl))
             intro ga hg w49 hbox hb
             replace HO_1 := kAs (R_below (ra_ HO_1.out) hb)
             replace HO341 := kAs (R_below (ra_ HO341.out) hb)
             have Ka := kAs (hbox)
             have GW342 := kAs ((by rw [hg]; exact (below_size bw_) : w.heap.size ≤ ga))
             have Ea := kAs ((by rw [hg]; exact (below_size bw_) : w.heap.size ≤ ga))
             replace HB := kAs (below_step bw_ hb)
             clear hb hbox hg
             refine hK.out _ _ trivial (fun hHeld => ?_)
             clear hK K
             refine norm_ (a' := ?_) ?_ ?_
             rotate_left
             ·show Act.put _ (some 7) _ = _
              simp only [Act.put, List.setIfInBounds_toArray, List.set_cons_zero, List.set_cons_succ, i64_w, i32_w]
              rfl
             exact norm_ (by first | (simp only [putAll, Act.put, List.setIfInBounds_toArray, List.set_cons_zero, List.set_cons_succ]; done) | (simp only [putAll, Act.put, List.setIfInBounds_toArray, List.set_cons_zero, List.set_cons_succ]; rfl)) (hJ1_3 (v340, ga) _ ⟨(ra_ HO341.out), (ra_ HO_1.out), (by (with_reducible repeat first | refine blk_drewN ?_ _ | refine blk_drew ?_ | refine blk_alloc ?_ _); exact Ka.out), GW342.out, Ea.out, (by repeat (first | (with_reducible first | exact HB.out | apply below_alloc | apply pw_below_drewN | apply below_drew1 | refine below_set ?_ Ea.out) | exact HB.out))⟩)
          ·skip
           rintro v337 w48 ⟨h0_, h1_, h2_⟩
           have n0_ : Aside0 (Kd.R (Kd.int .i64) 3 w48 w.heap.size (fun k_ => some k_ ≠ (.slice Ao44 y306.length co44 : Value).ownBlock) v337 y336) := ⟨h0_⟩
           have n1_ : Aside0 (Kd.R (Kd.int .i64) 3 w48 w.heap.size (fun k_ => some k_ ≠ (v337 : Value).ownBlock) (.slice Ao44 y306.length co44) y306) := ⟨h1_⟩
           have n2_ : Aside0 (Below w.heap.size w w48) := ⟨h2_⟩
           clear HO_1
           clear HB
           clear h0_ h1_ h2_
           have HO338 := n0_
           have HO_1 := n1_
           have HB := n2_
           clear n0_ n1_ n2_
           have hHeld := trivial
           refine norm_ (a' := ?_) ?_ ?_
           rotate_left
           ·simp only [putAll, Act.put, List.setIfInBounds_toArray, List.set_cons_zero, List.set_cons_succ]
            rfl
           refine two_ (i := 1) (j := 3) (Ni := some 81) (Nj := some 7) #[true, true, false, false, false] #[true, false, false, true, false] rfl rfl rfl rfl (by kernel_rfl) (by decide) (by decide) (fun K hK => ?_) (fun K hK => ?_)
           ·skip
            refine R_make_step k49 _ 49 (by rfl) (N := 81) rfl 23 _ _ rfl 255 rfl rfl Try.underlying23 (.agg #[(.int .i64 0), (.int .i64 0), (.int .i64 0)]) 24 info49 rfl (by decide) (by omega) z49 (ok := fun _ => True) (okp := fun _ => True) (k49_mkM _ _ _ z49 ) (fun _ hk => hk) trivial (by omega) (by omega) (Below.refl _ _) (Nat.le_refl _) ?_
            intro v340 w49 ho50 hb hg_ hnew_
            clear hg_ hnew_
            (first | rw [← Ny339.out] at ho50 | (simp only [Int.reduceToNat] at ho50; rw [← Ny339.out] at ho50))
            replace HO_1 := kAs (R_below (ra_ HO_1.out) hb)
            replace HO338 := kAs (R_below (ra_ HO338.out) hb)
            have HO341 := kAs (R_lower ho50 (below_size bw_))
            replace HB := kAs (below_step bw_ hb)
            clear hb ho50
            obtain ⟨Ao51, co51, eo51⟩ := R_slice HO341.out
            (first | subst eo51 | (injection eo51 with f1_ f2_ f3_; have f4_ := f1_.symm; have f5_ := f3_.symm; clear f1_ f2_ f3_; subst f4_; subst f5_))
            obtain ⟨Ao52, co52, eo52⟩ := R_slice HO338.out
            (first | subst eo52 | (injection eo52 with f1_ f2_ f3_; have f4_ := f1_.symm; have f5_ := f3_.symm; clear f1_ f2_ f3_; subst f4_; subst f5_))
            refine hK.out _ _ trivial (fun hHeld => ?_)
            clear hK K
            refine norm_ (a' := ?_) ?_ ?_
            rotate_left
            ·show Act.put _ (some 81) _ = _
             simp only [Act.put, List.setIfInBounds_toArray, List.set_cons_zero, List.set_cons_succ, i64_w, i32_w]
             rfl
            refine pureS_ (i := 2) (N := some 82) (v := ?_) (a' := ?_) rfl rfl (by kernel_rfl) (fun _ _ _ h => h) (Or.inl ⟨by rfl, ?_⟩) ?_ ?_
            rotate_left; (· intro w'; go_simp; with_reducible rfl); rotate_left; (· simp only [Act.put, List.setIfInBounds_toArray, List.set_cons_zero, List.set_cons_succ, i64_w, i32_w]; rfl)
            exact norm_ (by first | (simp only [putAll, Act.put, List.setIfInBounds_toArray, List.set_cons_zero, List.set_cons_succ]; done) | (simp only [putAll, Act.put, List.setIfInBounds_toArray, List.set_cons_zero, List.set_cons_succ]; rfl)) (hJ0_1 (.slice Ao52 y336.length co52, .slice Ao51 y339.length co51) _ ⟨(ra_ HO338.out), (ra_ HO341.out), (ra_ HO_1.out), bw_⟩)
           ·skip
            refine box_step ?hg (N := 7) ?hd (cs := #[.int .i64 0, .int .i64 0, .int .i64 0, .slice none 0 0, .slice none 0 0]) (t := 25) ?hr ?_; (case hd => rfl); (case hg => rfl); (case hr => first | (go_simp; done) | (go_simp; rfl))
            intro ga hg w49 hbox hb
            replace HO_1 := kAs (R_below (ra_ HO_1.out) hb)
            replace HO338 := kAs (R_below (ra_ HO338.out) hb)
            have Ka := kAs (hbox)
            have GW342 := kAs ((by rw [hg]; exact (below_size bw_) : w.heap.size ≤ ga))
            have Ea := kAs ((by rw [hg]; exact (below_size bw_) : w.heap.size ≤ ga))
            replace HB := kAs (below_step bw_ hb)
            clear hb hbox hg
            refine hK.out _ _ trivial (fun hHeld => ?_)
            clear hK K
            refine norm_ (a' := ?_) ?_ ?_
            rotate_left
            ·show Act.put _ (some 7) _ = _
             simp only [Act.put, List.setIfInBounds_toArray, List.set_cons_zero, List.set_cons_succ, i64_w, i32_w]
             rfl
            exact norm_ (by first | (simp only [putAll, Act.put, List.setIfInBounds_toArray, List.set_cons_zero, List.set_cons_succ]; done) | (simp only [putAll, Act.put, List.setIfInBounds_toArray, List.set_cons_zero, List.set_cons_succ]; rfl)) (hJ0_3 (v337, ga) _ ⟨(ra_ HO338.out), (ra_ HO_1.out), (by (with_reducible repeat first | refine blk_drewN ?_ _ | refine blk_drew ?_ | refine blk_alloc ?_ _); exact Ka.out), GW342.out, Ea.out, (by repeat (first | (with_reducible first | exact HB.out | apply below_alloc | apply pw_below_drewN | apply below_drew1 | refine below_set ?_ Ea.out) | exact HB.out))⟩)
         ·skip
          rintro ⟨v340, ga⟩ w49 ⟨h0_, h1_, h2_, h3_, h4_, h5_⟩
          have n0_ : Aside0 (Kd.R k49 49 w49 w.heap.size (fun _ => True) v340 y339) := ⟨h0_⟩
          have n1_ : Aside0 (Kd.R (Kd.int .i64) 3 w49 w.heap.size (fun _ => True) (.slice Ao44 y306.length co44) y306) := ⟨h1_⟩
          have n2_ : Aside0 (w49.heap[ga]? = some (.cells #[.int .i64 0, .int .i64 0, .int .i64 0, .slice none 0 0, .slice none 0 0] 25 (0, 0))) := ⟨h2_⟩
          have n3_ : Aside0 (w.heap.size ≤ ga) := ⟨h3_⟩
          have n4_ : Aside0 (w.heap.size ≤ ga) := ⟨h4_⟩
          have n5_ : Aside0 (Below w.heap.size w w49) := ⟨h5_⟩
          clear HO_1
          clear HB
          clear h0_ h1_ h2_ h3_ h4_ h5_
          have HO341 := n0_
          have HO_1 := n1_
          have Ka := n2_
          have GW342 := n3_
          have Ea := n4_
          have HB := n5_
          clear n0_ n1_ n2_ n3_ n4_ n5_
          have hHeld := trivial
          refine norm_ (a' := ?_) ?_ ?_
          rotate_left
          ·simp only [putAll, Act.put, List.setIfInBounds_toArray, List.set_cons_zero, List.set_cons_succ]
           rfl
          refine oneS_ (i := 0) (N := some 80) rfl rfl (by kernel_rfl) (by decide) (fun K hK => ?_)
          refine R_make_step (Kd.int .i64) _ 3 (by rfl) (N := 80) rfl 22 _ _ rfl 24 rfl rfl Try.underlying22 (.int .i64 0) 8 info3 rfl (by decide) (by omega) 0 (ok := fun _ => True) (okp := fun _ => True) rfl (fun _ hk => hk) trivial (by omega) (by omega) (Below.refl _ _) (Nat.le_refl _) ?_
          intro v337 w50 ho51 hb hg_ hnew_
          clear hg_ hnew_
          (first | rw [← Ny336.out] at ho51 | (simp only [Int.reduceToNat] at ho51; rw [← Ny336.out] at ho51))
          replace HO341 := kAs (R_below (ra_ HO341.out) hb)
          have HO338 := kAs (R_lower (R_new' ho51 (R_lt (ra_ HO_1.out))) (below_size (by repeat (first | (with_reducible first | exact HB.out | apply below_alloc | apply pw_below_drewN | apply below_drew1 | refine below_set ?_ Ea.out) | exact HB.out))))
          replace HO_1 := kAs (R_elder' (ra_ HO_1.out) (R_base ho51) hb)
          replace Ka := kAs (blk_below (g := ga) (o := .cells #[.int .i64 0, .int .i64 0, .int .i64 0, .slice none 0 0, .slice none 0 0] 25 (0, 0)) (by (with_reducible repeat first | refine blk_drewN ?_ _ | refine blk_drew ?_ | refine blk_alloc ?_ _); exact Ka.out) hb)
          replace HB := kAs (below_step (by repeat (first | (with_reducible first | exact HB.out | apply below_alloc | apply pw_below_drewN | apply below_drew1 | refine below_set ?_ Ea.out) | exact HB.out)) hb)
          clear hb ho51
          obtain ⟨Ao52, co52, eo52⟩ := R_slice HO341.out
          (first | subst eo52 | (injection eo52 with f1_ f2_ f3_; have f4_ := f1_.symm; have f5_ := f3_.symm; clear f1_ f2_ f3_; subst f4_; subst f5_))
          obtain ⟨Ao53, co53, eo53⟩ := R_slice HO338.out
          (first | subst eo53 | (injection eo53 with f1_ f2_ f3_; have f4_ := f1_.symm; have f5_ := f3_.symm; clear f1_ f2_ f3_; subst f4_; subst f5_))
          refine hK.out _ _ trivial (fun hHeld => ?_)
          clear hK K
          refine norm_ (a' := ?_) ?_ ?_
          rotate_left
          ·show Act.put _ (some 80) _ = _
           simp only [Act.put, List.setIfInBounds_toArray, List.set_cons_zero, List.set_cons_succ, i64_w, i32_w]
           rfl
          refine pureS_ (i := 2) (N := some 82) (v := ?_) (a' := ?_) rfl rfl (by kernel_rfl) (fun _ _ _ h => h) (Or.inl ⟨by rfl, ?_⟩) ?_ ?_
          rotate_left; (· intro w'; go_simp; with_reducible rfl); rotate_left; (· simp only [Act.put, List.setIfInBounds_toArray, List.set_cons_zero, List.set_cons_succ, i64_w, i32_w]; rfl)
          exact norm_ (by first | (simp only [putAll, Act.put, List.setIfInBounds_toArray, List.set_cons_zero, List.set_cons_succ]; done) | (simp only [putAll, Act.put, List.setIfInBounds_toArray, List.set_cons_zero, List.set_cons_succ]; rfl)) (hJ0_1_3 (.slice Ao53 y336.length co53, .slice Ao52 y339.length co52, ga) _ ⟨(by (with_reducible repeat first | apply R_alloc | apply R_drewN | apply R_drew); exact R_mono HO338.out (fun _ hk => hk.2)), (ra_ HO341.out), (by (with_reducible repeat first | apply R_alloc | apply R_drewN | apply R_drew); exact R_mono HO_1.out (fun _ hk => hk.2)), (by (with_reducible repeat first | refine blk_drewN ?_ _ | refine blk_drew ?_ | refine blk_alloc ?_ _); exact Ka.out), GW342.out, Ea.out, (by repeat (first | (with_reducible first | exact HB.out | apply below_alloc | apply pw_below_drewN | apply below_drew1 | refine below_set ?_ Ea.out) | exact HB.out))⟩)
        ·skip
         rintro ⟨v337, ga⟩ w49 ⟨h0_, h1_, h2_, h3_, h4_, h5_⟩
         have n0_ : Aside0 (Kd.R (Kd.int .i64) 3 w49 w.heap.size (fun k_ => some k_ ≠ (.slice Ao44 y306.length co44 : Value).ownBlock) v337 y336) := ⟨h0_⟩
         have n1_ : Aside0 (Kd.R (Kd.int .i64) 3 w49 w.heap.size (fun k_ => some k_ ≠ (v337 : Value).ownBlock) (.slice Ao44 y306.length co44) y306) := ⟨h1_⟩
         have n2_ : Aside0 (w49.heap[ga]? = some (.cells #[.int .i64 0, .int .i64 0, .int .i64 0, .slice none 0 0, .slice none 0 0] 25 (0, 0))) := ⟨h2_⟩
         have n3_ : Aside0 (w.heap.size ≤ ga) := ⟨h3_⟩
         have n4_ : Aside0 (w.heap.size ≤ ga) := ⟨h4_⟩
         have n5_ : Aside0 (Below w.heap.size w w49) := ⟨h5_⟩
         clear HO_1
         clear HB
         clear h0_ h1_ h2_ h3_ h4_ h5_
         have HO338 := n0_
         have HO_1 := n1_
         have Ka := n2_
         have GW342 := n3_
         have Ea := n4_
         have HB := n5_
         clear n0_ n1_ n2_ n3_ n4_ n5_
         have hHeld := trivial
         refine norm_ (a' := ?_) ?_ ?_
         rotate_left
         ·simp only [putAll, Act.put, List.setIfInBounds_toArray, List.set_cons_zero, List.set_cons_succ]
          rfl
         refine oneS_ (i := 1) (N := some 81) rfl rfl (by kernel_rfl) (by decide) (fun K hK => ?_)
         refine R_make_step k49 _ 49 (by rfl) (N := 81) rfl 23 _ _ rfl 255 rfl rfl Try.underlying23 (.agg #[(.int .i64 0), (.int .i64 0), (.int .i64 0)]) 24 info49 rfl (by decide) (by omega) z49 (ok := fun _ => True) (okp := fun _ => True) (k49_mkM _ _ _ z49 ) (fun _ hk => hk) trivial (by omega) (by omega) (Below.refl _ _) (Nat.le_refl _) ?_
         intro v340 w50 ho51 hb hg_ hnew_
         clear hg_ hnew_
         (first | rw [← Ny339.out] at ho51 | (simp only [Int.reduceToNat] at ho51; rw [← Ny339.out] at ho51))
         replace HO_1 := kAs (R_below (ra_ HO_1.out) hb)
         replace HO338 := kAs (R_below (ra_ HO338.out) hb)
         have HO341 := kAs (R_lower ho51 (below_size (by repeat (first | (with_reducible first | exact HB.out | apply below_alloc | apply pw_below_drewN | apply below_drew1 | refine below_set ?_ Ea.out) | exact HB.out))))
         replace Ka := kAs (blk_below (g := ga) (o := .cells #[.int .i64 0, .int .i64 0, .int .i64 0, .slice none 0 0, .slice none 0 0] 25 (0, 0)) (by (with_reducible repeat first | refine blk_drewN ?_ _ | refine blk_drew ?_ | refine blk_alloc ?_ _); exact Ka.out) hb)
         replace HB := kAs (below_step (by repeat (first | (with_reducible first | exact HB.out | apply below_alloc | apply pw_below_drewN | apply below_drew1 | refine below_set ?_ Ea.out) | exact HB.out)) hb)
         clear hb ho51
         obtain ⟨Ao52, co52, eo52⟩ := R_slice HO341.out
         (first | subst eo52 | (injection eo52 with f1_ f2_ f3_; have f4_ := f1_.symm; have f5_ := f3_.symm; clear f1_ f2_ f3_; subst f4_; subst f5_))
         obtain ⟨Ao53, co53, eo53⟩ := R_slice HO338.out
         (first | subst eo53 | (injection eo53 with f1_ f2_ f3_; have f4_ := f1_.symm; have f5_ := f3_.symm; clear f1_ f2_ f3_; subst f4_; subst f5_))
         refine hK.out _ _ trivial (fun hHeld => ?_)
         clear hK K
         refine norm_ (a' := ?_) ?_ ?_
         rotate_left
         ·show Act.put _ (some 81) _ = _
          simp only [Act.put, List.setIfInBounds_toArray, List.set_cons_zero, List.set_cons_succ, i64_w, i32_w]
          rfl
         refine pureS_ (i := 2) (N := some 82) (v := ?_) (a' := ?_) rfl rfl (by kernel_rfl) (fun _ _ _ h => h) (Or.inl ⟨by rfl, ?_⟩) ?_ ?_
         rotate_left; (· intro w'; go_simp; with_reducible rfl); rotate_left; (· simp only [Act.put, List.setIfInBounds_toArray, List.set_cons_zero, List.set_cons_succ, i64_w, i32_w]; rfl)
         exact norm_ (by first | (simp only [putAll, Act.put, List.setIfInBounds_toArray, List.set_cons_zero, List.set_cons_succ]; done) | (simp only [putAll, Act.put, List.setIfInBounds_toArray, List.set_cons_zero, List.set_cons_succ]; rfl)) (hJ0_1_3 (.slice Ao53 y336.length co53, .slice Ao52 y339.length co52, ga) _ ⟨(ra_ HO338.out), (ra_ HO341.out), (ra_ HO_1.out), (by (with_reducible repeat first | refine blk_drewN ?_ _ | refine blk_drew ?_ | refine blk_alloc ?_ _); exact Ka.out), GW342.out, Ea.out, (by repeat (first | (with_reducible first | exact HB.out | apply below_alloc | apply pw_below_drewN | apply below_drew1 | refine below_set ?_ Ea.out) | exact HB.out))⟩)
       ·skip
        rintro ⟨v337, v340⟩ w52 ⟨h0_, h1_, h2_, h3_⟩
        have n0_ : Aside0 (Kd.R (Kd.int .i64) 3 w52 w.heap.size (fun k_ => some k_ ≠ (.slice Ao44 y306.length co44 : Value).ownBlock) v337 y336) := ⟨h0_⟩
        have n1_ : Aside0 (Kd.R k49 49 w52 w.heap.size (fun _ => True) v340 y339) := ⟨h1_⟩
        have n2_ : Aside0 (Kd.R (Kd.int .i64) 3 w52 w.heap.size (fun k_ => some k_ ≠ (v337 : Value).ownBlock) (.slice Ao44 y306.length co44) y306) := ⟨h2_⟩
        have n3_ : Aside0 (Below w.heap.size w w52) := ⟨h3_⟩
        clear HO_1
        clear HB
        clear h0_ h1_ h2_ h3_
        have HO338 := n0_
        have HO341 := n1_
        have HO_1 := n2_
        have HB := n3_
        clear n0_ n1_ n2_ n3_
        have hHeld := trivial
        obtain ⟨Ao53, co53, eo53⟩ := R_slice HO341.out
        (first | subst eo53 | (injection eo53 with f1_ f2_ f3_; have f4_ := f1_.symm; have f5_ := f3_.symm; clear f1_ f2_ f3_; subst f4_; subst f5_))
        obtain ⟨Ao54, co54, eo54⟩ := R_slice HO338.out
        (first | subst eo54 | (injection eo54 with f1_ f2_ f3_; have f4_ := f1_.symm; have f5_ := f3_.symm; clear f1_ f2_ f3_; subst f4_; subst f5_))
        refine norm_ (a' := ?_) ?_ ?_
        rotate_left
        ·simp only [putAll, Act.put, List.setIfInBounds_toArray, List.set_cons_zero, List.set_cons_succ]
         rfl
        refine oneS_ (i := 3) (N := some 7) rfl rfl (by kernel_rfl) (by decide) (fun K hK => ?_)
        refine box_step ?hg (N := 7) ?hd (cs := #[.int .i64 0, .int .i64 0, .int .i64 0, .slice none 0 0, .slice none 0 0]) (t := 25) ?hr ?_; (case hd => rfl); (case hg => rfl); (case hr => first | (go_simp; done) | (go_simp; rfl))
        intro ga hg w55 hbox hb
        replace HO_1 := kAs (R_below (ra_ HO_1.out) hb)
        replace HO338 := kAs (R_below (ra_ HO338.out) hb)
        replace HO341 := kAs (R_below (ra_ HO341.out) hb)
        have Ka := kAs (hbox)
        have GW342 := kAs ((by rw [hg]; exact (below_size bw_) : w.heap.size ≤ ga))
        have Ea := kAs ((by rw [hg]; exact (below_size bw_) : w.heap.size ≤ ga))
        replace HB := kAs (below_step bw_ hb)
        clear hb hbox hg
        refine hK.out _ _ trivial (fun hHeld => ?_)
        clear hK K
        refine norm_ (a' := ?_) ?_ ?_
        rotate_left
        ·show Act.put _ (some 7) _ = _
         simp only [Act.put, List.setIfInBounds_toArray, List.set_cons_zero, List.set_cons_succ, i64_w, i32_w]
         rfl
        exact norm_ (by first | (simp only [putAll, Act.put, List.setIfInBounds_toArray, List.set_cons_zero, List.set_cons_succ]; done) | (simp only [putAll, Act.put, List.setIfInBounds_toArray, List.set_cons_zero, List.set_cons_succ]; rfl)) (hJ0_1_3 (.slice Ao54 y336.length co54, .slice Ao53 y339.length co53, ga) _ ⟨(ra_ HO338.out), (ra_ HO341.out), (ra_ HO_1.out), (by (with_reducible repeat first | refine blk_drewN ?_ _ | refine blk_drew ?_ | refine blk_alloc ?_ _); exact Ka.out), GW342.out, Ea.out, (by repeat (first | (with_reducible first | exact HB.out | apply below_alloc | apply pw_below_drewN | apply below_drew1 | refine below_set ?_ Ea.out) | exact HB.out))⟩)
      rintro ⟨v337, v340, ga⟩ w53 ⟨h0_, h1_, h2_, h3_, h4_, h5_, h6_⟩
      have n0_ : Aside0 (Kd.R (Kd.int .i64) 3 w53 w.heap.size (fun k_ => some k_ ≠ (.slice Ao44 y306.length co44 : Value).ownBlock) v337 y336) := ⟨h0_⟩
      have n1_ : Aside0 (Kd.R k49 49 w53 w.heap.size (fun _ => True) v340 y339) := ⟨h1_⟩
      have n2_ : Aside0 (Kd.R (Kd.int .i64) 3 w53 w.heap.size (fun k_ => some k_ ≠ (v337 : Value).ownBlock) (.slice Ao44 y306.length co44) y306) := ⟨h2_⟩
      have n3_ : Aside0 (w53.heap[ga]? = some (.cells #[.int .i64 0, .int .i64 0, .int .i64 0, .slice none 0 0, .slice none 0 0] 25 (0, 0))) := ⟨h3_⟩
      have n4_ : Aside0 (w.heap.size ≤ ga) := ⟨h4_⟩
      have n5_ : Aside0 (w.heap.size ≤ ga) := ⟨h5_⟩
      have n6_ : Aside0 (Below w.heap.size w w53) := ⟨h6_⟩
      clear HO_1
      clear HB
      clear h0_ h1_ h2_ h3_ h4_ h5_ h6_
      have HO338 := n0_
      have HO341 := n1_
      have HO_1 := n2_
      have Ka := n3_
      have GW342 := n4_
      have Ea := n5_
      have HB := n6_
      clear n0_ n1_ n2_ n3_ n4_ n5_ n6_
      have hHeld := trivial
      obtain ⟨Ao54, co54, eo54⟩ := R_slice HO341.out
      (first | subst eo54 | (injection eo54 with f1_ f2_ f3_; have f4_ := f1_.symm; have f5_ := f3_.symm; clear f1_ f2_ f3_; subst f4_; subst f5_))
      obtain ⟨Ao55, co55, eo55⟩ := R_slice HO338.out
      (first | subst eo55 | (injection eo55 with f1_ f2_ f3_; have f4_ := f1_.symm; have f5_ := f3_.symm; clear f1_ f2_ f3_; subst f4_; subst f5_))
      refine norm_ (a' := ?_) ?_ ?_
      rotate_left
      ·simp only [putAll, Act.put, List.setIfInBounds_toArray, List.set_cons_zero, List.set_cons_succ]
       rfl
      refine oneS_ (i := 4) (N := none) rfl rfl (by kernel_rfl) (by decide) (fun K hK => ?_)
      have hs56 : w53.cell? ⟨ga, 0, none⟩ = some (.int .i64 0) := (blk_cell Ka.out 0).trans rfl
      have hfs56 := blk_frozen Ka.out 0
      have hs57 : w53.cell? ⟨ga, 1, none⟩ = some (.int .i64 0) := (blk_cell Ka.out 1).trans rfl
      have hfs57 := blk_frozen Ka.out 1
      have hs58 : w53.cell? ⟨ga, 2, none⟩ = some (.int .i64 0) := (blk_cell Ka.out 2).trans rfl
      have hfs58 := blk_frozen Ka.out 2
      have hs59 : w53.cell? ⟨ga, 3, none⟩ = some (.slice none 0 0) := (blk_cell Ka.out 3).trans rfl
      have hfs59 := blk_frozen Ka.out 3
      have hs60 : w53.cell? ⟨ga, 4, none⟩ = some (.slice none 0 0) := (blk_cell Ka.out 4).trans rfl
      have hfs60 := blk_frozen Ka.out 4
      refine skip_ (w1 := ?_) (by rfl) rfl ?_ ?_
      rotate_left
      ·go_simp
       rfl
      refine hK.out _ _ trivial (fun hHeld => ?_)
      clear hK K
      refine done_ (by kernel_rfl) ?_
      try go_wp2
      go_loopg [8] k1 (fun kq v8 w' => ∃ (x8_2 : Int) (xq : List (S49)) (u343004 : Value), v8 = .int .i64 x8_2 ∧ Aside0 (drayagelaw20_JournalKnown.l3 kq x8_2 1 0 0 y336 xq = some r) ∧ Aside0 (kq ≤ k1) ∧ Aside0 (Kd.R (Kd.int .i64) 3 w' w.heap.size (fun _ => True) (.slice Ao55 y336.length co55) y336) ∧ Aside0 (Kd.R k49 49 w' w.heap.size (fun _ => True) u343004 xq) ∧ Aside0 (w'.heap[ga]? = some (.cells #[.int .i64 1, .int .i64 0, .int .i64 0, (.slice Ao55 y336.length co55), u343004] 25 (0, 0))) ∧ Aside0 (Below w.heap.size w w'))
      case atStart => exact ⟨(0), (y339), (.slice Ao54 y339.length co54), fs_, H', ⟨Nat.le_refl _⟩, ⟨by (with_reducible repeat first | apply R_alloc | apply R_drewN | apply R_drew); exact R_mono (R_far (p := ⟨ga, 4, none⟩) (R_far (p := ⟨ga, 3, none⟩) (R_far (p := ⟨ga, 2, none⟩) (R_far (p := ⟨ga, 1, none⟩) (R_far (p := ⟨ga, 0, none⟩) (R_types HO338.out Ka.out (by decide)) (fun _ hk => hk.2) (.int .i64 1)) (fun _ hk => hk.2) (.int .i64 0)) (fun _ hk => hk.2) (.int .i64 0)) (fun _ hk => hk.2) (.slice Ao55 y336.length co55)) (fun _ hk => hk.2) (.slice Ao54 y339.length co54)) (fun _ hk => trivial)⟩, ⟨by (with_reducible repeat first | apply R_alloc | apply R_drewN | apply R_drew); exact R_mono (R_far (p := ⟨ga, 4, none⟩) (R_far (p := ⟨ga, 3, none⟩) (R_far (p := ⟨ga, 2, none⟩) (R_far (p := ⟨ga, 1, none⟩) (R_far (p := ⟨ga, 0, none⟩) (R_types HO341.out Ka.out (by decide)) (fun _ hk => hk.2) (.int .i64 1)) (fun _ hk => hk.2) (.int .i64 0)) (fun _ hk => hk.2) (.int .i64 0)) (fun _ hk => hk.2) (.slice Ao55 y336.length co55)) (fun _ hk => hk.2) (.slice Ao54 y339.length co54)) (fun _ hk => trivial)⟩, ⟨by (with_reducible repeat first | refine blk_drewN ?_ _ | refine blk_drew ?_ | refine blk_alloc ?_ _); refine blk_put (cs := #[.int .i64 1, .int .i64 0, .int .i64 0, .slice Ao55 y336.length co55, .slice none 0 0]) ?_ 4 _ rfl; (with_reducible repeat first | refine blk_drewN ?_ _ | refine blk_drew ?_ | refine blk_alloc ?_ _); refine blk_put (cs := #[.int .i64 1, .int .i64 0, .int .i64 0, .slice none 0 0, .slice none 0 0]) ?_ 3 _ rfl; (with_reducible repeat first | refine blk_drewN ?_ _ | refine blk_drew ?_ | refine blk_alloc ?_ _); refine blk_put (cs := #[.int .i64 1, .int .i64 0, .int .i64 0, .slice none 0 0, .slice none 0 0]) ?_ 2 _ rfl; (with_reducible repeat first | refine blk_drewN ?_ _ | refine blk_drew ?_ | refine blk_alloc ?_ _); refine blk_put (cs := #[.int .i64 1, .int .i64 0, .int .i64 0, .slice none 0 0, .slice none 0 0]) ?_ 1 _ rfl; (with_reducible repeat first | refine blk_drewN ?_ _ | refine blk_drew ?_ | refine blk_alloc ?_ _); refine blk_put (cs := #[.int .i64 0, .int .i64 0, .int .i64 0, .slice none 0 0, .slice none 0 0]) ?_ 0 _ rfl; (with_reducible repeat first | refine blk_drewN ?_ _ | refine blk_drew ?_ | refine blk_alloc ?_ _); exact Ka.out⟩, ⟨by repeat (first | (with_reducible first | exact HB.out | apply below_alloc | apply pw_below_drewN | apply below_drew1 | refine below_set ?_ Ea.out) | exact HB.out)⟩⟩
      case round =>
       clear H'
       (try clear p2); (try clear c4); (try clear c42); (try clear c42b0); (try clear c42b1); (try clear c43); (try clear c43b0); (try clear c43b1)
       obtain ⟨x8_2, xq, u343004, rfl, HA, HK2, Ga, Gb, Ka, HB⟩ := hrel
       cases gk with
       | zero => exact absurd HA.out (by simp [drayagelaw20_JournalKnown.l3])
       | succ k2 =>
        have H := HA.out
        clear HA
        simp only [drayagelaw20_JournalKnown.l3] at H
        by_cases c61 : x8_2 < 255
        ·rw [if_pos c61] at H
         have c61b0 : decide (x8_2 < 255) = true := decide_eq_true c61
         clear c61
         by_cases c62 : 0 ≤ x8_2
         ·rw [if_pos c62] at H
          have c62b0 : decide (0 ≤ x8_2) = true := decide_eq_true c62
          clear c62
          by_cases c63 : x8_2 < (xq.length : Int)
          ·rw [if_pos c63] at H
           have c63b0 : decide (x8_2 < (xq.length : Int)) = true := decide_eq_true c63
           clear c63
           obtain ⟨y343, hy343⟩ : ∃ y_ : List (S49), y_ = (xq.set (x8_2 : Int).toNat (⟨2, Int.tmod x8_2 24, Int.tmod x8_2 8⟩ : S49)) := ⟨_, rfl⟩
           replace H : (drayagelaw20_JournalKnown.l3 k2 (wrap64 (x8_2 + 1)) 1 0 0 y336 y343) = some r := by first | (rw [hy343]; with_reducible exact H) | (have H2_ := (Option.bind_some _ _).symm.trans H; rw [hy343]; with_reducible exact H2_) | (have H2_ := (Option.bind_some _ _).symm.trans H; with_reducible exact H2_) | with_reducible exact H | (rw [hy343]; exact H) | exact H
           have Ny343 := kAs hy343
           clear hy343
           have H' := kAs H
           clear H
           have hcz65_0 : wr.cell? ⟨ga, 0, none⟩ = some (.int .i64 1) := (blk_cell Ka.out 0).trans rfl
           have hcz65_1 : wr.cell? ⟨ga, 1, none⟩ = some (.int .i64 0) := (blk_cell Ka.out 1).trans rfl
           have hcz65_2 : wr.cell? ⟨ga, 2, none⟩ = some (.int .i64 0) := (blk_cell Ka.out 2).trans rfl
           have hcz65_3 : wr.cell? ⟨ga, 3, none⟩ = some (.slice Ao55 y336.length co55) := (blk_cell Ka.out 3).trans rfl
           have hcz65_4 : wr.cell? ⟨ga, 4, none⟩ = some (u343004) := (blk_cell Ka.out 4).trans rfl
           have hfz65_0 := blk_frozen Ka.out 0
           have hfz65_1 := blk_frozen Ka.out 1
           have hfz65_2 := blk_frozen Ka.out 2
           have hfz65_3 := blk_frozen Ka.out 3
           have hfz65_4 := blk_frozen Ka.out 4
           have p64 : 0 ≤ (x8_2 : Int) := of_decide_eq_true (by first | (with_reducible assumption) | assumption)
           have q64 : (x8_2 : Int) < ((xq.length : Int) : Int) := of_decide_eq_true (by first | (with_reducible assumption) | assumption)
           obtain ⟨go64, co64, eo64, gb64, gl64, cl64, HG64⟩ := R_form Gb.out (by omega)
           (first | cases eo64 | (injection eo64 with ea_ en_ ec_; (first | subst ea_ | (injection ea_ with ea_; subst ea_)); subst ec_; clear en_))
           have GB64 := kAs gb64
           have GG64 := kAs HG64
           clear gb64 gl64 HG64
           obtain ⟨ce64, hcl64, hM64, hcc64, hfr64⟩ := R_elem Gb.out z49 (x8_2 : Int) p64 q64
           obtain rfl := k49_openM hM64
           have hx64_0 : wr.cell? ⟨go64, (x8_2 : Int).toNat * 3, none⟩ = some (.int .i64 ((rd_T49 xq x8_2).f0)) := hcc64 0 _ rfl
           have hx64_1 : wr.cell? ⟨go64, (x8_2 : Int).toNat * 3 + 1, none⟩ = some (.int .i64 ((rd_T49 xq x8_2).f1)) := hcc64 1 _ rfl
           have hx64_2 : wr.cell? ⟨go64, (x8_2 : Int).toNat * 3 + 2, none⟩ = some (.int .i64 ((rd_T49 xq x8_2).f2)) := hcc64 2 _ rfl
           have hf64_0 : wr.frozen? ⟨go64, (x8_2 : Int).toNat * 3, none⟩ = false := hfr64 0
           have hf64_1 : wr.frozen? ⟨go64, (x8_2 : Int).toNat * 3 + 1, none⟩ = false := hfr64 1
           have hf64_2 : wr.frozen? ⟨go64, (x8_2 : Int).toNat * 3 + 2, none⟩ = false := hfr64 2
           clear hcl64 hcc64 hfr64 hM64
           replace p64 := eq_true p64
           replace q64 := eq_true q64
           have HX66 := kAs (show Kd.R k49 49 wr w.heap.size (fun _ => True) (.slice (some ⟨go64, 0, none⟩) xq.length co64) xq from (ra_ Gb.out))
           obtain ⟨ce66, hcl66, hM66, hcc66, hfr66⟩ := R_elem HX66.out z49 (x8_2 : Int) (of_decide_eq_true (by first | (with_reducible assumption) | assumption)) (by have h_ : (x8_2 : Int) < ((xq.length : Int) : Int) := of_decide_eq_true (by first | (with_reducible assumption) | assumption); first | exact h_ | (have e_ := (R_reads' Gb.out).1; omega) | simpa using h_)
           obtain rfl := k49_openM hM66
           have HP66 := R_seg HX66.out (x8_2 : Int) (of_decide_eq_true (by first | (with_reducible assumption) | assumption)) (by have h_ : (x8_2 : Int) < ((xq.length : Int) : Int) := of_decide_eq_true (by first | (with_reducible assumption) | assumption); first | exact h_ | (have e_ := (R_reads' Gb.out).1; omega) | simpa using h_) (seg := [.int .i64 2, .int .i64 (Int.tmod x8_2 24), .int .i64 (Int.tmod x8_2 8)]) (j := 0) hcl66 hcc66 (show 3 ≤ 3 from by decide) (x' := (⟨2, Int.tmod x8_2 24, Int.tmod x8_2 8⟩ : S49)) (k49_mkM _ _ _ (⟨2, Int.tmod x8_2 24, Int.tmod x8_2 8⟩ : S49) ) (fun _ hk => hk)
           have hx66_0 := hcc66 0 _ rfl
           (try simp only [show (k49).sz = 3 from rfl, Nat.mul_one, Nat.add_zero] at hx66_0)
           have hf66_0 := hfr66 0
           (try simp only [show (k49).sz = 3 from rfl, Nat.mul_one, Nat.add_zero] at hf66_0)
           have hx66_1 := hcc66 1 _ rfl
           (try simp only [show (k49).sz = 3 from rfl, Nat.mul_one, Nat.add_zero] at hx66_1)
           have hf66_1 := hfr66 1
           (try simp only [show (k49).sz = 3 from rfl, Nat.mul_one, Nat.add_zero] at hf66_1)
           have hx66_2 := hcc66 2 _ rfl
           (try simp only [show (k49).sz = 3 from rfl, Nat.mul_one, Nat.add_zero] at hx66_2)
           have hf66_2 := hfr66 2
           (try simp only [show (k49).sz = 3 from rfl, Nat.mul_one, Nat.add_zero] at hf66_2)
           clear hcl66 hcc66 hfr66 hM66
           go_wp2_with (first | ((with_reducible refine gate_store (t := 49) (p := 95) rfl ?_); refine store_event (t := 49) (p := 95) (v := ?vo_w67) (w1 := (((wr.setCell ⟨go64, (x8_2 : Int).toNat * 3, none⟩ (.int .i64 2)).setCell ⟨go64, (x8_2 : Int).toNat * 3 + 1, none⟩ (.int .i64 (Int.tmod x8_2 24))).setCell ⟨go64, (x8_2 : Int).toNat * 3 + 2, none⟩ (.int .i64 (Int.tmod x8_2 8)))) ?hg ?ho ?hn ?hr ?_; (case ho => rfl); (case hg => rfl); (case hn => rfl); (case hr => first | (go_simp; done) | (go_simp; rfl)); intro w67 hw; have hg : wr.grownBy w67 (some go64) := (by rw [hw]; exact HP66.2); have hp_ : Kd.R k49 49 w67 w.heap.size (fun _ => True) (.slice (some ⟨go64, 0, none⟩) xq.length co64) y343 := (by rw [hw, Ny343.out]; exact HP66.1); clear HP66; replace Ga := kAs (R_over' (v := (.slice (some ⟨go64, 0, none⟩) xq.length co64)) (ra_ Ga.out) (R_typed Gb.out) (by decide) hg); replace Ka := kAs (blk_grown (g := ga) (o := .cells #[.int .i64 1, .int .i64 0, .int .i64 0, .slice Ao55 y336.length co55, .slice (some ⟨go64, 0, none⟩) xq.length co64] 25 (0, 0)) (by (with_reducible repeat first | refine blk_drewN ?_ _ | refine blk_drew ?_ | refine blk_alloc ?_ _); exact Ka.out) hg (R_ne Gb.out Ka.out (by decide))); replace Gb := kAs (hp_); replace HB := kAs ((by rw [hw]; exact below_set (below_set (below_set (HB.out) GB64.out) GB64.out) GB64.out : Below w.heap.size w w67)); clear hg hw hp_))
           go_roundg k2
           case measure => have := HK1.out; have := HK2.out; omega
           case rel => exact ⟨(wrap64 (x8_2 + 1)), (y343), (.slice (some ⟨go64, 0, none⟩) xq.length co64), fs_, H', ⟨by have := HK1.out; have := HK2.out; omega⟩, ⟨ra_ Ga.out⟩, ⟨ra_ Gb.out⟩, ⟨by (with_reducible repeat first | refine blk_drewN ?_ _ | refine blk_drew ?_ | refine blk_alloc ?_ _); exact Ka.out⟩, ⟨by repeat (first | (with_reducible first | exact HB.out | apply below_alloc | apply pw_below_drewN | apply below_drew1 | refine below_set ?_ Ea.out) | exact HB.out)⟩⟩
          ·rw [if_neg c63] at H
           exact absurd H (by simp)
         ·rw [if_neg c62] at H
          exact absurd H (by simp)
        ·rw [if_neg c61] at H
         have c61b0 : decide (x8_2 < 255) = false := decide_eq_false c61
         clear c61
         by_cases c68 : 25 ≤ 35184372088832
         ·rw [if_pos c68] at H
          have c68b0 := eq_true c68
          have c68b1 : decide (25 ≤ 35184372088832) = true := decide_eq_true c68
          clear c68
          obtain ⟨y346, hy346⟩ : ∃ y_ : List Int, y_ = (List.replicate 25 0) := ⟨_, rfl⟩
          replace H : ((some (([] : List (S49)) : List (S49))).bind fun y349 => (if y349.length + xq.length < 5864062014805 then (if 0 < (xq.length : Int) then (if (y349 ++ xq).length < 5864062014805 then (drayagelaw20_JournalKnown.l4 k2 (([[], (([0, 8, 255, 247, 3, 0, 0, 0] : List Int)), (([0, 9, 255, 246, 1, 0, 0, 0, 41] : List Int)), (([255, 255, 0, 0, 1, 0, 0, 0] : List Int)), (([0, 7, 255, 248, 0, 0, 0] : List Int))] : List (List Int))) 0) else (none)) else (none)) else (none))) = some r := by first | (rw [hy346]; with_reducible exact H) | (have H2_ := (Option.bind_some _ _).symm.trans H; rw [hy346]; with_reducible exact H2_) | (have H2_ := (Option.bind_some _ _).symm.trans H; with_reducible exact H2_) | with_reducible exact H | (rw [hy346]; exact H) | exact H
          have Ny346 := kAs hy346
          clear hy346
          obtain ⟨y349, hy349⟩ : ∃ y_ : List (S49), y_ = (([] : List (S49))) := ⟨_, rfl⟩
          replace H : (if y349.length + xq.length < 5864062014805 then (if 0 < (xq.length : Int) then (if (y349 ++ xq).length < 5864062014805 then (drayagelaw20_JournalKnown.l4 k2 (([[], (([0, 8, 255, 247, 3, 0, 0, 0] : List Int)), (([0, 9, 255, 246, 1, 0, 0, 0, 41] : List Int)), (([255, 255, 0, 0, 1, 0, 0, 0] : List Int)), (([0, 7, 255, 248, 0, 0, 0] : List Int))] : List (List Int))) 0) else (none)) else (none)) else (none)) = some r := by first | (rw [hy349]; with_reducible exact H) | (have H2_ := (Option.bind_some _ _).symm.trans H; rw [hy349]; with_reducible exact H2_) | (have H2_ := (Option.bind_some _ _).symm.trans H; with_reducible exact H2_) | with_reducible exact H | (rw [hy349]; exact H) | exact H
          have Ny349 := kAs hy349
          clear hy349
          by_cases c69 : y349.length + xq.length < 5864062014805
          ·rw [if_pos c69] at H
           have LMc69 := kAs c69
           clear c69
           obtain ⟨y352, hy352⟩ : ∃ y_ : List (S49), y_ = (y349 ++ xq) := ⟨_, rfl⟩
           replace H : (if 0 < (xq.length : Int) then (if y352.length < 5864062014805 then (drayagelaw20_JournalKnown.l4 k2 (([[], (([0, 8, 255, 247, 3, 0, 0, 0] : List Int)), (([0, 9, 255, 246, 1, 0, 0, 0, 41] : List Int)), (([255, 255, 0, 0, 1, 0, 0, 0] : List Int)), (([0, 7, 255, 248, 0, 0, 0] : List Int))] : List (List Int))) 0) else (none)) else (none)) = some r := by first | (rw [hy352]; with_reducible exact H) | (have H2_ := (Option.bind_some _ _).symm.trans H; rw [hy352]; with_reducible exact H2_) | (have H2_ := (Option.bind_some _ _).symm.trans H; with_reducible exact H2_) | with_reducible exact H | (rw [hy352]; exact H) | exact H
           have Ny352 := kAs hy352
           clear hy352
           by_cases c70 : 0 < (xq.length : Int)
           ·rw [if_pos c70] at H
            have c70b0 : decide (0 < (xq.length : Int)) = true := decide_eq_true c70
            have c70b1 : decide (0 < xq.length) = true := decide_eq_true (by omega)
            clear c70
            by_cases c71 : y352.length < 5864062014805
            ·rw [if_pos c71] at H
             have LMc71 := kAs c71
             clear c71
             obtain ⟨y356, hy356⟩ : ∃ y_ : List (S49), y_ = (y352 ++ [(⟨(rd_T49 xq 0).f0, (rd_T49 xq 0).f1, (rd_T49 xq 0).f2⟩ : S49)]) := ⟨_, rfl⟩
             replace H : (drayagelaw20_JournalKnown.l4 k2 (([[], (([0, 8, 255, 247, 3, 0, 0, 0] : List Int)), (([0, 9, 255, 246, 1, 0, 0, 0, 41] : List Int)), (([255, 255, 0, 0, 1, 0, 0, 0] : List Int)), (([0, 7, 255, 248, 0, 0, 0] : List Int))] : List (List Int))) 0) = some r := by first | (rw [hy356]; with_reducible exact H) | (have H2_ := (Option.bind_some _ _).symm.trans H; rw [hy356]; with_reducible exact H2_) | (have H2_ := (Option.bind_some _ _).symm.trans H; with_reducible exact H2_) | with_reducible exact H | (rw [hy356]; exact H) | exact H
             have Ny356 := kAs hy356
             clear hy356
             obtain ⟨y359, hy359⟩ : ∃ y_ : List Int, y_ = (([0, 8, 255, 247, 3, 0, 0, 0] : List Int)) := ⟨_, rfl⟩
             replace H : (drayagelaw20_JournalKnown.l4 k2 (([[], y359, (([0, 9, 255, 246, 1, 0, 0, 0, 41] : List Int)), (([255, 255, 0, 0, 1, 0, 0, 0] : List Int)), (([0, 7, 255, 248, 0, 0, 0] : List Int))] : List (List Int))) 0) = some r := by first | (rw [hy359]; with_reducible exact H) | (have H2_ := (Option.bind_some _ _).symm.trans H; rw [hy359]; with_reducible exact H2_) | (have H2_ := (Option.bind_some _ _).symm.trans H; with_reducible exact H2_) | with_reducible exact H | (rw [hy359]; exact H) | exact H
             have Ny359 := kAs hy359
             clear hy359
             obtain ⟨y362, hy362⟩ : ∃ y_ : List Int, y_ = (([0, 9, 255, 246, 1, 0, 0, 0, 41] : List Int)) := ⟨_, rfl⟩
             replace H : (drayagelaw20_JournalKnown.l4 k2 (([[], y359, y362, (([255, 255, 0, 0, 1, 0, 0, 0] : List Int)), (([0, 7, 255, 248, 0, 0, 0] : List Int))] : List (List Int))) 0) = some r := by first | (rw [hy362]; with_reducible exact H) | (have H2_ := (Option.bind_some _ _).symm.trans H; rw [hy362]; with_reducible exact H2_) | (have H2_ := (Option.bind_some _ _).symm.trans H; with_reducible exact H2_) | with_reducible exact H | (rw [hy362]; exact H) | exact H
             have Ny362 := kAs hy362
             clear hy362
             obtain ⟨y365, hy365⟩ : ∃ y_ : List Int, y_ = (([255, 255, 0, 0, 1, 0, 0, 0] : List Int)) := ⟨_, rfl⟩
             replace H : (drayagelaw20_JournalKnown.l4 k2 (([[], y359, y362, y365, (([0, 7, 255, 248, 0, 0, 0] : List Int))] : List (List Int))) 0) = some r := by first | (rw [hy365]; with_reducible exact H) | (have H2_ := (Option.bind_some _ _).symm.trans H; rw [hy365]; with_reducible exact H2_) | (have H2_ := (Option.bind_some _ _).symm.trans H; with_reducible exact H2_) | with_reducible exact H | (rw [hy365]; exact H) | exact H
             have Ny365 := kAs hy365
             clear hy365
             obtain ⟨y368, hy368⟩ : ∃ y_ : List Int, y_ = (([0, 7, 255, 248, 0, 0, 0] : List Int)) := ⟨_, rfl⟩
             replace H : (drayagelaw20_JournalKnown.l4 k2 (([[], y359, y362, y365, y368] : List (List Int))) 0) = some r := by first | (rw [hy368]; with_reducible exact H) | (have H2_ := (Option.bind_some _ _).symm.trans H; rw [hy368]; with_reducible exact H2_) | (have H2_ := (Option.bind_some _ _).symm.trans H; with_reducible exact H2_) | with_reducible exact H | (rw [hy368]; exact H) | exact H
             have Ny368 := kAs hy368
             clear hy368
             obtain ⟨y371, hy371⟩ : ∃ y_ : List (List Int), y_ = (([[], y359, y362, y365, y368] : List (List Int))) := ⟨_, rfl⟩
             replace H : (drayagelaw20_JournalKnown.l4 k2 y371 0) = some r := by first | (rw [hy371]; with_reducible exact H) | (have H2_ := (Option.bind_some _ _).symm.trans H; rw [hy371]; with_reducible exact H2_) | (have H2_ := (Option.bind_some _ _).symm.trans H; with_reducible exact H2_) | with_reducible exact H | (rw [hy371]; exact H) | exact H
             have Ny371 := kAs hy371
             clear hy371
             have H' := kAs H
             clear H
             try go_wp2
             replace Ga := kAs (R_drew Ga.out)
             replace Gb := kAs (R_drew Gb.out)
             replace Ka := kAs (blk_drew Ka.out)
             replace HB := kAs (below_drew1 HB.out)
             refine start_ (n := 6) (S := fun w' => w'.cell? ⟨ga, 0, none⟩ = some (.int .i64 1) ∧ w'.cell? ⟨ga, 1, none⟩ = some (.int .i64 0) ∧ w'.cell? ⟨ga, 2, none⟩ = some (.int .i64 0) ∧ w'.cell? ⟨ga, 3, none⟩ = some (.slice Ao55 y336.length co55) ∧ w'.cell? ⟨ga, 4, none⟩ = some (u343004)) (ds := []) #[false, false, false, false, false, false] (by kernel_rfl) rfl rfl ⟨(blk_cell Ka.out 0).trans rfl, (blk_cell Ka.out 1).trans rfl, (blk_cell Ka.out 2).trans rfl, (blk_cell Ka.out 3).trans rfl, (blk_cell Ka.out 4).trans rfl⟩ (fun hHeld => ?_)
             generalize wr.drew = w72 at Ga Gb Ka HB hHeld ⊢
             refine takeS_ (i := 0) (N := some 96) (v := ?_) (a' := ?_) rfl rfl (by kernel_rfl) (fun _ _ _ h => h) (Or.inl ⟨by rfl, ?_⟩) hHeld ?_ ?_
             rotate_left; (· rintro w' ⟨s0, s1, s2, s3, s4⟩; go_simp; with_reducible rfl); rotate_left; (· simp only [Act.put, List.setIfInBounds_toArray, List.set_cons_zero, List.set_cons_succ, i64_w, i32_w]; rfl)
             refine takeS_ (i := 1) (N := some 97) (v := ?_) (a' := ?_) rfl rfl (by kernel_rfl) (fun _ _ _ h => h) (Or.inl ⟨by rfl, ?_⟩) hHeld ?_ ?_
             rotate_left; (· rintro w' ⟨s0, s1, s2, s3, s4⟩; go_simp; with_reducible rfl); rotate_left; (· simp only [Act.put, List.setIfInBounds_toArray, List.set_cons_zero, List.set_cons_succ, i64_w, i32_w]; rfl)
             refine join_ (σ := Nat × Nat) 2 #[true, true, true, true, false, false] (fun s_ => [(9, .pointer (some ⟨s_.1, 0, none⟩)), (10, .pointer (some ⟨s_.2, 0, none⟩))]) (fun s_ w' => (w'.cell? ⟨ga, 0, none⟩ = some (.int .i64 1) ∧ w'.cell? ⟨ga, 1, none⟩ = some (.int .i64 0) ∧ w'.cell? ⟨ga, 2, none⟩ = some (.int .i64 0) ∧ w'.cell? ⟨ga, 3, none⟩ = some (.slice Ao55 y336.length co55) ∧ w'.cell? ⟨ga, 4, none⟩ = some (u343004)) ∧ (Kd.R (Kd.int .i64) 3 w' w.heap.size (fun _ => True) (.slice Ao55 y336.length co55) y336) ∧ (Kd.R k49 49 w' w.heap.size (fun _ => True) u343004 xq) ∧ (w'.heap[ga]? = some (.cells #[.int .i64 1, .int .i64 0, .int .i64 0, .slice Ao55 y336.length co55, u343004] 25 (0, 0))) ∧ (w'.heap[s_.1]? = some (.cells #[.int .i64 0, .int .i64 0, .int .i64 0, .slice none 0 0, .slice none 0 0] 25 (0, 0))) ∧ (w'.heap[s_.2]? = some (.cells #[.int .i64 0, .int .i64 0, .int .i64 0, .slice none 0 0, .slice none 0 0] 25 (0, 0))) ∧ (w.heap.size ≤ s_.1) ∧ (w.heap.size ≤ s_.1) ∧ (ga ≠ s_.1) ∧ (s_.1 ≠ ga) ∧ (s_.2 ≠ s_.1) ∧ (s_.1 ≠ s_.2) ∧ (w.heap.size ≤ s_.2) ∧ (w.heap.size ≤ s_.2) ∧ (ga ≠ s_.2) ∧ (s_.2 ≠ ga) ∧ (Below w.heap.size w w')) ?_ ?_
             rotate_left
             ·intro hCont
              refine two_ (i := 2) (j := 3) (Ni := some 9) (Nj := some 10) #[true, true, true, false, false, false] #[true, true, false, true, false, false] rfl rfl rfl rfl (by kernel_rfl) (by decide) (by decide) (fun K hK => ?_) (fun K hK => ?_)
              ·skip
               refine box_step ?hg (N := 9) ?hd (cs := #[.int .i64 0, .int .i64 0, .int .i64 0, .slice none 0 0, .slice none 0 0]) (t := 25) ?hr ?_; (case hd => rfl); (case hg => rfl); (case hr => first | (go_simp; done) | (go_simp; rfl))
               intro gb hg w73 hbox hb
               replace Ga := kAs (R_below (ra_ Ga.out) hb)
               replace Gb := kAs (R_below (ra_ Gb.out) hb)
               have Kb := kAs (hbox)
               have GW344 := kAs ((by rw [hg]; exact (below_size (by repeat (first | (with_reducible first | exact HB.out | apply below_alloc | apply pw_below_drewN | apply below_drew1 | refine below_set ?_ Ea.out) | exact HB.out))) : w.heap.size ≤ gb))
               have Eb := kAs ((by rw [hg]; exact (below_size (by repeat (first | (with_reducible first | exact HB.out | apply below_alloc | apply pw_below_drewN | apply below_drew1 | refine below_set ?_ Ea.out) | exact HB.out))) : w.heap.size ≤ gb))
               replace HB := kAs (below_step (by repeat (first | (with_reducible first | exact HB.out | apply below_alloc | apply pw_below_drewN | apply below_drew1 | refine below_set ?_ Ea.out) | exact HB.out)) hb)
               have Na := kAs ((by rw [hg]; exact Nat.ne_of_lt (blk_lt (g := ga) (o := .cells #[.int .i64 1, .int .i64 0, .int .i64 0, .slice Ao55 y336.length co55, u343004] 25 (0, 0)) (by (with_reducible repeat first | refine blk_drewN ?_ _ | refine blk_drew ?_ | refine blk_alloc ?_ _); exact Ka.out)) : ga ≠ gb))
               have Nc := kAs ((by rw [hg]; exact Nat.ne_of_gt (blk_lt (g := ga) (o := .cells #[.int .i64 1, .int .i64 0, .int .i64 0, .slice Ao55 y336.length co55, u343004] 25 (0, 0)) (by (with_reducible repeat first | refine blk_drewN ?_ _ | refine blk_drew ?_ | refine blk_alloc ?_ _); exact Ka.out)) : gb ≠ ga))
               replace Ka := kAs (blk_below (g := ga) (o := .cells #[.int .i64 1, .int .i64 0, .int .i64 0, .slice Ao55 y336.length co55, u343004] 25 (0, 0)) (by (with_reducible repeat first | refine blk_drewN ?_ _ | refine blk_drew ?_ | refine blk_alloc ?_ _); exact Ka.out) hb)
               clear hb hbox hg
               refine hK.out _ _ ⟨(blk_cell Ka.out 0).trans rfl, (blk_cell Ka.out 1).trans rfl, (blk_cell Ka.out 2).trans rfl, (blk_cell Ka.out 3).trans rfl, (blk_cell Ka.out 4).trans rfl⟩ (fun hHeld => ?_)
               clear hK K
               refine norm_ (a' := ?_) ?_ ?_
               rotate_left
               ·show Act.put _ (some 9) _ = _
                simp only [Act.put, List.setIfInBounds_toArray, List.set_cons_zero, List.set_cons_succ, i64_w, i32_w]
                rfl
               refine oneS_ (i := 3) (N := some 10) rfl rfl (by kernel_rfl) (by decide) (fun K hK => ?_)
               refine box_step ?hg (N := 10) ?hd (cs := #[.int .i64 0, .int .i64 0, .int .i64 0, .slice none 0 0, .slice none 0 0]) (t := 25) ?hr ?_; (case hd => rfl); (case hg => rfl); (case hr => first | (go_simp; done) | (go_simp; rfl))
               intro gc hg w74 hbox hb
               replace Ga := kAs (R_below (ra_ Ga.out) hb)
               replace Gb := kAs (R_below (ra_ Gb.out) hb)
               have Kc := kAs (hbox)
               have GW345 := kAs ((by rw [hg]; exact (below_size (by repeat (first | (with_reducible first | exact HB.out | apply below_alloc | apply pw_below_drewN | apply below_drew1 | refine below_set ?_ Ea.out | refine below_set ?_ Eb.out) | exact HB.out))) : w.heap.size ≤ gc))
               have Ec := kAs ((by rw [hg]; exact (below_size (by repeat (first | (with_reducible first | exact HB.out | apply below_alloc | apply pw_below_drewN | apply below_drew1 | refine below_set ?_ Ea.out | refine below_set ?_ Eb.out) | exact HB.out))) : w.heap.size ≤ gc))
               replace HB := kAs (below_step (by repeat (first | (with_reducible first | exact HB.out | apply below_alloc | apply pw_below_drewN | apply below_drew1 | refine below_set ?_ Ea.out | refine below_set ?_ Eb.out) | exact HB.out)) hb)
               have Nb := kAs ((by rw [hg]; exact Nat.ne_of_lt (blk_lt (g := ga) (o := .cells #[.int .i64 1, .int .i64 0, .int .i64 0, .slice Ao55 y336.length co55, u343004] 25 (0, 0)) (by (with_reducible repeat first | refine blk_drewN ?_ _ | refine blk_drew ?_ | refine blk_alloc ?_ _); exact Ka.out)) : ga ≠ gc))
               have Ne := kAs ((by rw [hg]; exact Nat.ne_of_gt (blk_lt (g := ga) (o := .cells #[.int .i64 1, .int .i64 0, .int .i64 0, .slice Ao55 y336.length co55, u343004] 25 (0, 0)) (by (with_reducible repeat first | refine blk_drewN ?_ _ | refine blk_drew ?_ | refine blk_alloc ?_ _); exact Ka.out)) : gc ≠ ga))
               replace Ka := kAs (blk_below (g := ga) (o := .cells #[.int .i64 1, .int .i64 0, .int .i64 0, .slice Ao55 y336.length co55, u343004] 25 (0, 0)) (by (with_reducible repeat first | refine blk_drewN ?_ _ | refine blk_drew ?_ | refine blk_alloc ?_ _); exact Ka.out) hb)
               have Nd := kAs ((by rw [hg]; exact Nat.ne_of_lt (blk_lt (g := gb) (o := .cells #[.int .i64 0, .int .i64 0, .int .i64 0, .slice none 0 0, .slice none 0 0] 25 (0, 0)) (by (with_reducible repeat first | refine blk_drewN ?_ _ | refine blk_drew ?_ | refine blk_alloc ?_ _); exact Kb.out)) : gb ≠ gc))
               have Nf := kAs ((by rw [hg]; exact Nat.ne_of_gt (blk_lt (g := gb) (o := .cells #[.int .i64 0, .int .i64 0, .int .i64 0, .slice none 0 0, .slice none 0 0] 25 (0, 0)) (by (with_reducible repeat first | refine blk_drewN ?_ _ | refine blk_drew ?_ | refine blk_alloc ?_ _); exact Kb.out)) : gc ≠ gb))
               replace Kb := kAs (blk_below (g := gb) (o := .cells #[.int .i64 0, .int .i64 0, .int .i64 0, .slice none 0 0, .slice none 0 0] 25 (0, 0)) (by (with_reducible repeat first | refine blk_drewN ?_ _ | refine blk_drew ?_ | refine blk_alloc ?_ _); exact Kb.out) hb)
               clear hb hbox hg
               refine hK.out _ _ ⟨(blk_cell Ka.out 0).trans rfl, (blk_cell Ka.out 1).trans rfl, (blk_cell Ka.out 2).trans rfl, (blk_cell Ka.out 3).trans rfl, (blk_cell Ka.out 4).trans rfl⟩ (fun hHeld => ?_)
               clear hK K
               refine norm_ (a' := ?_) ?_ ?_
               rotate_left
               ·show Act.put _ (some 10) _ = _
                simp only [Act.put, List.setIfInBounds_toArray, List.set_cons_zero, List.set_cons_succ, i64_w, i32_w]
                rfl
               exact norm_ (by simp only [putAll, Act.put, List.setIfInBounds_toArray, List.set_cons_zero, List.set_cons_succ]) (hCont (gb, gc) _ ⟨hHeld, (ra_ Ga.out), (ra_ Gb.out), (by (with_reducible repeat first | refine blk_drewN ?_ _ | refine blk_drew ?_ | refine blk_alloc ?_ _); exact Ka.out), (by (with_reducible repeat first | refine blk_drewN ?_ _ | refine blk_drew ?_ | refine blk_alloc ?_ _); exact Kb.out), (by (with_reducible repeat first | refine blk_drewN ?_ _ | refine blk_drew ?_ | refine blk_alloc ?_ _); exact Kc.out), GW344.out, Eb.out, Na.out, Nc.out, Nf.out, Nd.out, GW345.out, Ec.out, Nb.out, Ne.out, (by repeat (first | (with_reducible first | exact HB.out | apply below_alloc | apply pw_below_drewN | apply below_drew1 | refine below_set ?_ Ea.out | refine below_set ?_ Eb.out | refine below_set ?_ Ec.out) | exact HB.out))⟩)
              ·skip
               refine box_step ?hg (N := 10) ?hd (cs := #[.int .i64 0, .int .i64 0, .int .i64 0, .slice none 0 0, .slice none 0 0]) (t := 25) ?hr ?_; (case hd => rfl); (case hg => rfl); (case hr => first | (go_simp; done) | (go_simp; rfl))
               intro gc hg w73 hbox hb
               replace Ga := kAs (R_below (ra_ Ga.out) hb)
               replace Gb := kAs (R_below (ra_ Gb.out) hb)
               have Kc := kAs (hbox)
               have GW345 := kAs ((by rw [hg]; exact (below_size (by repeat (first | (with_reducible first | exact HB.out | apply below_alloc | apply pw_below_drewN | apply below_drew1 | refine below_set ?_ Ea.out) | exact HB.out))) : w.heap.size ≤ gc))
               have Ec := kAs ((by rw [hg]; exact (below_size (by repeat (first | (with_reducible first | exact HB.out | apply below_alloc | apply pw_below_drewN | apply below_drew1 | refine below_set ?_ Ea.out) | exact HB.out))) : w.heap.size ≤ gc))
               replace HB := kAs (below_step (by repeat (first | (with_reducible first | exact HB.out | apply below_alloc | apply pw_below_drewN | apply below_drew1 | refine below_set ?_ Ea.out) | exact HB.out)) hb)
               have Nb := kAs ((by rw [hg]; exact Nat.ne_of_lt (blk_lt (g := ga) (o := .cells #[.int .i64 1, .int .i64 0, .int .i64 0, .slice Ao55 y336.length co55, u343004] 25 (0, 0)) (by (with_reducible repeat first | refine blk_drewN ?_ _ | refine blk_drew ?_ | refine blk_alloc ?_ _); exact Ka.out)) : ga ≠ gc))
               have Ne := kAs ((by rw [hg]; exact Nat.ne_of_gt (blk_lt (g := ga) (o := .cells #[.int .i64 1, .int .i64 0, .int .i64 0, .slice Ao55 y336.length co55, u343004] 25 (0, 0)) (by (with_reducible repeat first | refine blk_drewN ?_ _ | refine blk_drew ?_ | refine blk_alloc ?_ _); exact Ka.out)) : gc ≠ ga))
               replace Ka := kAs (blk_below (g := ga) (o := .cells #[.int .i64 1, .int .i64 0, .int .i64 0, .slice Ao55 y336.length co55, u343004] 25 (0, 0)) (by (with_reducible repeat first | refine blk_drewN ?_ _ | refine blk_drew ?_ | refine blk_alloc ?_ _); exact Ka.out) hb)
               clear hb hbox hg
               refine hK.out _ _ ⟨(blk_cell Ka.out 0).trans rfl, (blk_cell Ka.out 1).trans rfl, (blk_cell Ka.out 2).trans rfl, (blk_cell Ka.out 3).trans rfl, (blk_cell Ka.out 4).trans rfl⟩ (fun hHeld => ?_)
               clear hK K
               refine norm_ (a' := ?_) ?_ ?_
               rotate_left
               ·show Act.put _ (some 10) _ = _
                simp only [Act.put, List.setIfInBounds_toArray, List.set_cons_zero, List.set_cons_succ, i64_w, i32_w]
                rfl
               refine oneS_ (i := 2) (N := some 9) rfl rfl (by kernel_rfl) (by decide) (fun K hK => ?_)
               refine box_step ?hg (N := 9) ?hd (cs := #[.int .i64 0, .int .i64 0, .int .i64 0, .slice none 0 0, .slice none 0 0]) (t := 25) ?hr ?_; (case hd => rfl); (case hg => rfl); (case hr => first | (go_simp; done) | (go_simp; rfl))
               intro gb hg w74 hbox hb
               replace Ga := kAs (R_below (ra_ Ga.out) hb)
               replace Gb := kAs (R_below (ra_ Gb.out) hb)
               have Kb := kAs (hbox)
               have GW344 := kAs ((by rw [hg]; exact (below_size (by repeat (first | (with_reducible first | exact HB.out | apply below_alloc | apply pw_below_drewN | apply below_drew1 | refine below_set ?_ Ea.out | refine below_set ?_ Ec.out) | exact HB.out))) : w.heap.size ≤ gb))
               have Eb := kAs ((by rw [hg]; exact (below_size (by repeat (first | (with_reducible first | exact HB.out | apply below_alloc | apply pw_below_drewN | apply below_drew1 | refine below_set ?_ Ea.out | refine below_set ?_ Ec.out) | exact HB.out))) : w.heap.size ≤ gb))
               replace HB := kAs (below_step (by repeat (first | (with_reducible first | exact HB.out | apply below_alloc | apply pw_below_drewN | apply below_drew1 | refine below_set ?_ Ea.out | refine below_set ?_ Ec.out) | exact HB.out)) hb)
               have Na := kAs ((by rw [hg]; exact Nat.ne_of_lt (blk_lt (g := ga) (o := .cells #[.int .i64 1, .int .i64 0, .int .i64 0, .slice Ao55 y336.length co55, u343004] 25 (0, 0)) (by (with_reducible repeat first | refine blk_drewN ?_ _ | refine blk_drew ?_ | refine blk_alloc ?_ _); exact Ka.out)) : ga ≠ gb))
               have Nc := kAs ((by rw [hg]; exact Nat.ne_of_gt (blk_lt (g := ga) (o := .cells #[.int .i64 1, .int .i64 0, .int .i64 0, .slice Ao55 y336.length co55, u343004] 25 (0, 0)) (by (with_reducible repeat first | refine blk_drewN ?_ _ | refine blk_drew ?_ | refine blk_alloc ?_ _); exact Ka.out)) : gb ≠ ga))
               replace Ka := kAs (blk_below (g := ga) (o := .cells #[.int .i64 1, .int .i64 0, .int .i64 0, .slice Ao55 y336.length co55, u343004] 25 (0, 0)) (by (with_reducible repeat first | refine blk_drewN ?_ _ | refine blk_drew ?_ | refine blk_alloc ?_ _); exact Ka.out) hb)
               have Nf := kAs ((by rw [hg]; exact Nat.ne_of_lt (blk_lt (g := gc) (o := .cells #[.int .i64 0, .int .i64 0, .int .i64 0, .slice none 0 0, .slice none 0 0] 25 (0, 0)) (by (with_reducible repeat first | refine blk_drewN ?_ _ | refine blk_drew ?_ | refine blk_alloc ?_ _); exact Kc.out)) : gc ≠ gb))
               have Nd := kAs ((by rw [hg]; exact Nat.ne_of_gt (blk_lt (g := gc) (o := .cells #[.int .i64 0, .int .i64 0, .int .i64 0, .slice none 0 0, .slice none 0 0] 25 (0, 0)) (by (with_reducible repeat first | refine blk_drewN ?_ _ | refine blk_drew ?_ | refine blk_alloc ?_ _); exact Kc.out)) : gb ≠ gc))
               replace Kc := kAs (blk_below (g := gc) (o := .cells #[.int .i64 0, .int .i64 0, .int .i64 0, .slice none 0 0, .slice none 0 0] 25 (0, 0)) (by (with_reducible repeat first | refine blk_drewN ?_ _ | refine blk_drew ?_ | refine blk_alloc ?_ _); exact Kc.out) hb)
               clear hb hbox hg
               refine hK.out _ _ ⟨(blk_cell Ka.out 0).trans rfl, (blk_cell Ka.out 1).trans rfl, (blk_cell Ka.out 2).trans rfl, (blk_cell Ka.out 3).trans rfl, (blk_cell Ka.out 4).trans rfl⟩ (fun hHeld => ?_)
               clear hK K
               refine norm_ (a' := ?_) ?_ ?_
               rotate_left
               ·show Act.put _ (some 9) _ = _
                simp only [Act.put, List.setIfInBounds_toArray, List.set_cons_zero, List.set_cons_succ, i64_w, i32_w]
                rfl
               exact norm_ (by simp only [putAll, Act.put, List.setIfInBounds_toArray, List.set_cons_zero, List.set_cons_succ]) (hCont (gb, gc) _ ⟨hHeld, (ra_ Ga.out), (ra_ Gb.out), (by (with_reducible repeat first | refine blk_drewN ?_ _ | refine blk_drew ?_ | refine blk_alloc ?_ _); exact Ka.out), (by (with_reducible repeat first | refine blk_drewN ?_ _ | refine blk_drew ?_ | refine blk_alloc ?_ _); exact Kb.out), (by (with_reducible repeat first | refine blk_drewN ?_ _ | refine blk_drew ?_ | refine blk_alloc ?_ _); exact Kc.out), GW344.out, Eb.out, Na.out, Nc.out, Nf.out, Nd.out, GW345.out, Ec.out, Nb.out, Ne.out, (by repeat (first | (with_reducible first | exact HB.out | apply below_alloc | apply pw_below_drewN | apply below_drew1 | refine below_set ?_ Ea.out | refine below_set ?_ Ec.out | refine below_set ?_ Eb.out) | exact HB.out))⟩)
             rintro ⟨gb, gc⟩ w75 ⟨hS_, h0_, h1_, h2_, h3_, h4_, h5_, h6_, h7_, h8_, h9_, h10_, h11_, h12_, h13_, h14_, h15_⟩
             have n0_ : Aside0 (Kd.R (Kd.int .i64) 3 w75 w.heap.size (fun _ => True) (.slice Ao55 y336.length co55) y336) := ⟨h0_⟩
             have n1_ : Aside0 (Kd.R k49 49 w75 w.heap.size (fun _ => True) u343004 xq) := ⟨h1_⟩
             have n2_ : Aside0 (w75.heap[ga]? = some (.cells #[.int .i64 1, .int .i64 0, .int .i64 0, .slice Ao55 y336.length co55, u343004] 25 (0, 0))) := ⟨h2_⟩
             have n3_ : Aside0 (w75.heap[gb]? = some (.cells #[.int .i64 0, .int .i64 0, .int .i64 0, .slice none 0 0, .slice none 0 0] 25 (0, 0))) := ⟨h3_⟩
             have n4_ : Aside0 (w75.heap[gc]? = some (.cells #[.int .i64 0, .int .i64 0, .int .i64 0, .slice none 0 0, .slice none 0 0] 25 (0, 0))) := ⟨h4_⟩
             have n5_ : Aside0 (w.heap.size ≤ gb) := ⟨h5_⟩
             have n6_ : Aside0 (w.heap.size ≤ gb) := ⟨h6_⟩
             have n7_ : Aside0 (ga ≠ gb) := ⟨h7_⟩
             have n8_ : Aside0 (gb ≠ ga) := ⟨h8_⟩
             have n9_ : Aside0 (gc ≠ gb) := ⟨h9_⟩
             have n10_ : Aside0 (gb ≠ gc) := ⟨h10_⟩
             have n11_ : Aside0 (w.heap.size ≤ gc) := ⟨h11_⟩
             have n12_ : Aside0 (w.heap.size ≤ gc) := ⟨h12_⟩
             have n13_ : Aside0 (ga ≠ gc) := ⟨h13_⟩
             have n14_ : Aside0 (gc ≠ ga) := ⟨h14_⟩
             have n15_ : Aside0 (Below w.heap.size w w75) := ⟨h15_⟩
             clear Ga
             clear Gb
             clear Ka
             clear HB
             clear h0_ h1_ h2_ h3_ h4_ h5_ h6_ h7_ h8_ h9_ h10_ h11_ h12_ h13_ h14_ h15_
             have Ga := n0_
             have Gb := n1_
             have Ka := n2_
             have Kb := n3_
             have Kc := n4_
             have GW344 := n5_
             have Eb := n6_
             have Na := n7_
             have Nc := n8_
             have Nf := n9_
             have Nd := n10_
             have GW345 := n11_
             have Ec := n12_
             have Nb := n13_
             have Ne := n14_
             have HB := n15_
             clear n0_ n1_ n2_ n3_ n4_ n5_ n6_ n7_ n8_ n9_ n10_ n11_ n12_ n13_ n14_ n15_
             have hHeld : w75.cell? ⟨ga, 0, none⟩ = some (.int .i64 1) ∧ w75.cell? ⟨ga, 1, none⟩ = some (.int .i64 0) ∧ w75.cell? ⟨ga, 2, none⟩ = some (.int .i64 0) ∧ w75.cell? ⟨ga, 3, none⟩ = some (.slice Ao55 y336.length co55) ∧ w75.cell? ⟨ga, 4, none⟩ = some (u343004) := hS_
             obtain ⟨Ao80, co80, eo80⟩ := R_slice Gb.out
             (first | subst eo80 | (injection eo80 with f1_ f2_ f3_; have f4_ := f1_.symm; have f5_ := f3_.symm; clear f1_ f2_ f3_; subst f4_; subst f5_))
             refine norm_ (a' := ?_) ?_ ?_
             rotate_left
             ·simp only [putAll, Act.put, List.setIfInBounds_toArray, List.set_cons_zero, List.set_cons_succ]
              rfl
             refine oneS_ (i := 4) (N := none) rfl rfl (by kernel_rfl) (by decide) (fun K hK => ?_)
             have hs76 : w75.cell? ⟨gb, 0, none⟩ = some (.int .i64 0) := (blk_cell Kb.out 0).trans rfl
             have hfs76 := blk_frozen Kb.out 0
             have hns76_0 := Na.out
             have hns76_2 := Nf.out
             have hms76_0 := Nc.out
             have hms76_2 := Nd.out
             have hs77 : w75.cell? ⟨gb, 1, none⟩ = some (.int .i64 0) := (blk_cell Kb.out 1).trans rfl
             have hfs77 := blk_frozen Kb.out 1
             have hns77_0 := Na.out
             have hns77_2 := Nf.out
             have hms77_0 := Nc.out
             have hms77_2 := Nd.out
             have hs78 : w75.cell? ⟨gb, 2, none⟩ = some (.int .i64 0) := (blk_cell Kb.out 2).trans rfl
             have hfs78 := blk_frozen Kb.out 2
             have hns78_0 := Na.out
             have hns78_2 := Nf.out
             have hms78_0 := Nc.out
             have hms78_2 := Nd.out
             have hs79 : w75.cell? ⟨gb, 3, none⟩ = some (.slice none 0 0) := (blk_cell Kb.out 3).trans rfl
             have hfs79 := blk_frozen Kb.out 3
             have hns79_0 := Na.out
             have hns79_2 := Nf.out
             have hms79_0 := Nc.out
             have hms79_2 := Nd.out
             have hs81 : w75.cell? ⟨gb, 4, none⟩ = some (.slice none 0 0) := (blk_cell Kb.out 4).trans rfl
             have hfs81 := blk_frozen Kb.out 4
             have hns81_0 := Na.out
             have hns81_2 := Nf.out
             have hms81_0 := Nc.out
             have hms81_2 := Nd.out
             refine skip_ (w1 := ?_) (by rfl) rfl ?_ ?_
             rotate_left
             ·go_simp
              rfl
             refine hK.out _ _ ⟨((cell_far (p := ⟨gb, _, none⟩) Na.out _).trans (((cell_far (p := ⟨gb, _, none⟩) Na.out _).trans (((cell_far (p := ⟨gb, _, none⟩) Na.out _).trans (((cell_far (p := ⟨gb, _, none⟩) Na.out _).trans (((cell_far (p := ⟨gb, _, none⟩) Na.out _).trans (hHeld.1)))))))))), ((cell_far (p := ⟨gb, _, none⟩) Na.out _).trans (((cell_far (p := ⟨gb, _, none⟩) Na.out _).trans (((cell_far (p := ⟨gb, _, none⟩) Na.out _).trans (((cell_far (p := ⟨gb, _, none⟩) Na.out _).trans (((cell_far (p := ⟨gb, _, none⟩) Na.out _).trans (hHeld.2.1)))))))))), ((cell_far (p := ⟨gb, _, none⟩) Na.out _).trans (((cell_far (p := ⟨gb, _, none⟩) Na.out _).trans (((cell_far (p := ⟨gb, _, none⟩) Na.out _).trans (((cell_far (p := ⟨gb, _, none⟩) Na.out _).trans (((cell_far (p := ⟨gb, _, none⟩) Na.out _).trans (hHeld.2.2.1)))))))))), ((cell_far (p := ⟨gb, _, none⟩) Na.out _).trans (((cell_far (p := ⟨gb, _, none⟩) Na.out _).trans (((cell_far (p := ⟨gb, _, none⟩) Na.out _).trans (((cell_far (p := ⟨gb, _, none⟩) Na.out _).trans (((cell_far (p := ⟨gb, _, none⟩) Na.out _).trans (hHeld.2.2.2.1)))))))))), ((cell_far (p := ⟨gb, _, none⟩) Na.out _).trans (((cell_far (p := ⟨gb, _, none⟩) Na.out _).trans (((cell_far (p := ⟨gb, _, none⟩) Na.out _).trans (((cell_far (p := ⟨gb, _, none⟩) Na.out _).trans (((cell_far (p := ⟨gb, _, none⟩) Na.out _).trans (hHeld.2.2.2.2))))))))))⟩ (fun hHeld => ?_)
             clear hK K
             refine oneS_ (i := 5) (N := none) rfl rfl (by kernel_rfl) (by decide) (fun K hK => ?_)
             have hs82 : w75.cell? ⟨gc, 0, none⟩ = some (.int .i64 0) := (blk_cell Kc.out 0).trans rfl
             have hfs82 := blk_frozen Kc.out 0
             have hns82_0 := Nb.out
             have hns82_1 := Nd.out
             have hms82_0 := Ne.out
             have hms82_1 := Nf.out
             have hs83 : w75.cell? ⟨gc, 1, none⟩ = some (.int .i64 0) := (blk_cell Kc.out 1).trans rfl
             have hfs83 := blk_frozen Kc.out 1
             have hns83_0 := Nb.out
             have hns83_1 := Nd.out
             have hms83_0 := Ne.out
             have hms83_1 := Nf.out
             have hs84 : w75.cell? ⟨gc, 2, none⟩ = some (.int .i64 0) := (blk_cell Kc.out 2).trans rfl
             have hfs84 := blk_frozen Kc.out 2
             have hns84_0 := Nb.out
             have hns84_1 := Nd.out
             have hms84_0 := Ne.out
             have hms84_1 := Nf.out
             have hs85 : w75.cell? ⟨gc, 3, none⟩ = some (.slice none 0 0) := (blk_cell Kc.out 3).trans rfl
             have hfs85 := blk_frozen Kc.out 3
             have hns85_0 := Nb.out
             have hns85_1 := Nd.out
             have hms85_0 := Ne.out
             have hms85_1 := Nf.out
             have hs86 : w75.cell? ⟨gc, 4, none⟩ = some (.slice none 0 0) := (blk_cell Kc.out 4).trans rfl
             have hfs86 := blk_frozen Kc.out 4
             have hns86_0 := Nb.out
             have hns86_1 := Nd.out
             have hms86_0 := Ne.out
             have hms86_1 := Nf.out
             refine skip_ (w1 := ?_) (by rfl) rfl ?_ ?_
             rotate_left
             ·go_simp
              rfl
             refine hK.out _ _ ⟨((cell_far (p := ⟨gc, _, none⟩) Nb.out _).trans (((cell_far (p := ⟨gc, _, none⟩) Nb.out _).trans (((cell_far (p := ⟨gc, _, none⟩) Nb.out _).trans (((cell_far (p := ⟨gc, _, none⟩) Nb.out _).trans (((cell_far (p := ⟨gc, _, none⟩) Nb.out _).trans (hHeld.1)))))))))), ((cell_far (p := ⟨gc, _, none⟩) Nb.out _).trans (((cell_far (p := ⟨gc, _, none⟩) Nb.out _).trans (((cell_far (p := ⟨gc, _, none⟩) Nb.out _).trans (((cell_far (p := ⟨gc, _, none⟩) Nb.out _).trans (((cell_far (p := ⟨gc, _, none⟩) Nb.out _).trans (hHeld.2.1)))))))))), ((cell_far (p := ⟨gc, _, none⟩) Nb.out _).trans (((cell_far (p := ⟨gc, _, none⟩) Nb.out _).trans (((cell_far (p := ⟨gc, _, none⟩) Nb.out _).trans (((cell_far (p := ⟨gc, _, none⟩) Nb.out _).trans (((cell_far (p := ⟨gc, _, none⟩) Nb.out _).trans (hHeld.2.2.1)))))))))), ((cell_far (p := ⟨gc, _, none⟩) Nb.out _).trans (((cell_far (p := ⟨gc, _, none⟩) Nb.out _).trans (((cell_far (p := ⟨gc, _, none⟩) Nb.out _).trans (((cell_far (p := ⟨gc, _, none⟩) Nb.out _).trans (((cell_far (p := ⟨gc, _, none⟩) Nb.out _).trans (hHeld.2.2.2.1)))))))))), ((cell_far (p := ⟨gc, _, none⟩) Nb.out _).trans (((cell_far (p := ⟨gc, _, none⟩) Nb.out _).trans (((cell_far (p := ⟨gc, _, none⟩) Nb.out _).trans (((cell_far (p := ⟨gc, _, none⟩) Nb.out _).trans (((cell_far (p := ⟨gc, _, none⟩) Nb.out _).trans (hHeld.2.2.2.2))))))))))⟩ (fun hHeld => ?_)
             clear hK K
             refine done_ (by kernel_rfl) ?_
             try go_wp2_with (first | ((with_reducible refine gate_dst (N := 98) rfl ?_); refine R_make (Kd.int .i64) _ 3 rfl (N := 98) rfl 22 _ _ rfl 25 rfl rfl Try.underlying22 (.int .i64 0) 8 info3 rfl (by decide) (by omega) 0 (ok := fun _ => True) (okp := fun _ => True) rfl (fun _ hk => hk) trivial (by omega) (by omega) (Below.refl _ _) (Nat.le_refl _) ?_; intro v347 w87 ho88 hb hg_ hnew_; clear hg_ hnew_; (first | rw [← Ny346.out] at ho88 | (simp only [Int.reduceToNat] at ho88; rw [← Ny346.out] at ho88)); replace Gb := kAs (R_below (by (with_reducible repeat first | apply R_alloc | apply R_drewN | apply R_drew); exact (R_mono (R_mono (R_far (p := ⟨gc, 4, none⟩) (R_far (p := ⟨gc, 3, none⟩) (R_far (p := ⟨gc, 2, none⟩) (R_far (p := ⟨gc, 1, none⟩) (R_far (p := ⟨gc, 0, none⟩) (R_far (p := ⟨gb, 4, none⟩) (R_far (p := ⟨gb, 3, none⟩) (R_far (p := ⟨gb, 2, none⟩) (R_far (p := ⟨gb, 1, none⟩) (R_far (p := ⟨gb, 0, none⟩) (R_types (R_types Gb.out Kb.out (by decide)) Kc.out (by decide)) (fun _ hk => hk.1.2) (.int .i64 1)) (fun _ hk => hk.1.2) (.int .i64 0)) (fun _ hk => hk.1.2) (.int .i64 0)) (fun _ hk => hk.1.2) (.slice Ao55 y336.length co55)) (fun _ hk => hk.1.2) (.slice Ao80 xq.length co80)) (fun _ hk => hk.2) (.int .i64 1)) (fun _ hk => hk.2) (.int .i64 0)) (fun _ hk => hk.2) (.int .i64 0)) (fun _ hk => hk.2) (.slice Ao55 y336.length co55)) (fun _ hk => hk.2) (.slice Ao80 xq.length co80)) (fun _ h_ => h_.1)) (fun _ h_ => h_.1))) hb); have HO348 := kAs (R_lower (R_new' ho88 (R_lt (by (with_reducible repeat first | apply R_alloc | apply R_drewN | apply R_drew); exact (R_mono (R_mono (R_far (p := ⟨gc, 4, none⟩) (R_far (p := ⟨gc, 3, none⟩) (R_far (p := ⟨gc, 2, none⟩) (R_far (p := ⟨gc, 1, none⟩) (R_far (p := ⟨gc, 0, none⟩) (R_far (p := ⟨gb, 4, none⟩) (R_far (p := ⟨gb, 3, none⟩) (R_far (p := ⟨gb, 2, none⟩) (R_far (p := ⟨gb, 1, none⟩) (R_far (p := ⟨gb, 0, none⟩) (R_types (R_types Ga.out Kb.out (by decide)) Kc.out (by decide)) (fun _ hk => hk.1.2) (.int .i64 1)) (fun _ hk => hk.1.2) (.int .i64 0)) (fun _ hk => hk.1.2) (.int .i64 0)) (fun _ hk => hk.1.2) (.slice Ao55 y336.length co55)) (fun _ hk => hk.1.2) (.slice Ao80 xq.length co80)) (fun _ hk => hk.2) (.int .i64 1)) (fun _ hk => hk.2) (.int .i64 0)) (fun _ hk => hk.2) (.int .i64 0)) (fun _ hk => hk.2) (.slice Ao55 y336.length co55)) (fun _ hk => hk.2) (.slice Ao80 xq.length co80)) (fun _ h_ => h_.1)) (fun _ h_ => h_.1))))) (below_size (by repeat (first | (with_reducible first | exact HB.out | apply below_alloc | apply pw_below_drewN | apply below_drew1 | refine below_set ?_ Ea.out | refine below_set ?_ Eb.out | refine below_set ?_ Ec.out) | exact HB.out)))); replace Ga := kAs (R_elder' (by (with_reducible repeat first | apply R_alloc | apply R_drewN | apply R_drew); exact (R_mono (R_mono (R_far (p := ⟨gc, 4, none⟩) (R_far (p := ⟨gc, 3, none⟩) (R_far (p := ⟨gc, 2, none⟩) (R_far (p := ⟨gc, 1, none⟩) (R_far (p := ⟨gc, 0, none⟩) (R_far (p := ⟨gb, 4, none⟩) (R_far (p := ⟨gb, 3, none⟩) (R_far (p := ⟨gb, 2, none⟩) (R_far (p := ⟨gb, 1, none⟩) (R_far (p := ⟨gb, 0, none⟩) (R_types (R_types Ga.out Kb.out (by decide)) Kc.out (by decide)) (fun _ hk => hk.1.2) (.int .i64 1)) (fun _ hk => hk.1.2) (.int .i64 0)) (fun _ hk => hk.1.2) (.int .i64 0)) (fun _ hk => hk.1.2) (.slice Ao55 y336.length co55)) (fun _ hk => hk.1.2) (.slice Ao80 xq.length co80)) (fun _ hk => hk.2) (.int .i64 1)) (fun _ hk => hk.2) (.int .i64 0)) (fun _ hk => hk.2) (.int .i64 0)) (fun _ hk => hk.2) (.slice Ao55 y336.length co55)) (fun _ hk => hk.2) (.slice Ao80 xq.length co80)) (fun _ h_ => h_.1)) (fun _ h_ => h_.1))) (R_base ho88) hb); replace Ka := kAs (blk_below (g := ga) (o := .cells #[.int .i64 1, .int .i64 0, .int .i64 0, .slice Ao55 y336.length co55, .slice Ao80 xq.length co80] 25 (0, 0)) (by (with_reducible repeat first | refine blk_drewN ?_ _ | refine blk_drew ?_ | refine blk_alloc ?_ _); refine blk_far ?_ Nb.out _; (with_reducible repeat first | refine blk_drewN ?_ _ | refine blk_drew ?_ | refine blk_alloc ?_ _); refine blk_far ?_ Nb.out _; (with_reducible repeat first | refine blk_drewN ?_ _ | refine blk_drew ?_ | refine blk_alloc ?_ _); refine blk_far ?_ Nb.out _; (with_reducible repeat first | refine blk_drewN ?_ _ | refine blk_drew ?_ | refine blk_alloc ?_ _); refine blk_far ?_ Nb.out _; (with_reducible repeat first | refine blk_drewN ?_ _ | refine blk_drew ?_ | refine blk_alloc ?_ _); refine blk_far ?_ Nb.out _; (with_reducible repeat first | refine blk_drewN ?_ _ | refine blk_drew ?_ | refine blk_alloc ?_ _); refine blk_far ?_ Na.out _; (with_reducible repeat first | refine blk_drewN ?_ _ | refine blk_drew ?_ | refine blk_alloc ?_ _); refine blk_far ?_ Na.out _; (with_reducible repeat first | refine blk_drewN ?_ _ | refine blk_drew ?_ | refine blk_alloc ?_ _); refine blk_far ?_ Na.out _; (with_reducible repeat first | refine blk_drewN ?_ _ | refine blk_drew ?_ | refine blk_alloc ?_ _); refine blk_far ?_ Na.out _; (with_reducible repeat first | refine blk_drewN ?_ _ | refine blk_drew ?_ | refine blk_alloc ?_ _); refine blk_far ?_ Na.out _; (with_reducible repeat first | refine blk_drewN ?_ _ | refine blk_drew ?_ | refine blk_alloc ?_ _); exact Ka.out) hb); replace Kb := kAs (blk_below (g := gb) (o := .cells #[.int .i64 1, .int .i64 0, .int .i64 0, .slice Ao55 y336.length co55, .slice Ao80 xq.length co80] 25 (0, 0)) (by (with_reducible repeat first | refine blk_drewN ?_ _ | refine blk_drew ?_ | refine blk_alloc ?_ _); refine blk_far ?_ Nd.out _; (with_reducible repeat first | refine blk_drewN ?_ _ | refine blk_drew ?_ | refine blk_alloc ?_ _); refine blk_far ?_ Nd.out _; (with_reducible repeat first | refine blk_drewN ?_ _ | refine blk_drew ?_ | refine blk_alloc ?_ _); refine blk_far ?_ Nd.out _; (with_reducible repeat first | refine blk_drewN ?_ _ | refine blk_drew ?_ | refine blk_alloc ?_ _); refine blk_far ?_ Nd.out _; (with_reducible repeat first | refine blk_drewN ?_ _ | refine blk_drew ?_ | refine blk_alloc ?_ _); refine blk_far ?_ Nd.out _; (with_reducible repeat first | refine blk_drewN ?_ _ | refine blk_drew ?_ | refine blk_alloc ?_ _); refine blk_put (cs := #[.int .i64 1, .int .i64 0, .int .i64 0, .slice Ao55 y336.length co55, .slice none 0 0]) ?_ 4 _ rfl; (with_reducible repeat first | refine blk_drewN ?_ _ | refine blk_drew ?_ | refine blk_alloc ?_ _); refine blk_put (cs := #[.int .i64 1, .int .i64 0, .int .i64 0, .slice none 0 0, .slice none 0 0]) ?_ 3 _ rfl; (with_reducible repeat first | refine blk_drewN ?_ _ | refine blk_drew ?_ | refine blk_alloc ?_ _); refine blk_put (cs := #[.int .i64 1, .int .i64 0, .int .i64 0, .slice none 0 0, .slice none 0 0]) ?_ 2 _ rfl; (with_reducible repeat first | refine blk_drewN ?_ _ | refine blk_drew ?_ | refine blk_alloc ?_ _); refine blk_put (cs := #[.int .i64 1, .int .i64 0, .int .i64 0, .slice none 0 0, .slice none 0 0]) ?_ 1 _ rfl; (with_reducible repeat first | refine blk_drewN ?_ _ | refine blk_drew ?_ | refine blk_alloc ?_ _); refine blk_put (cs := #[.int .i64 0, .int .i64 0, .int .i64 0, .slice none 0 0, .slice none 0 0]) ?_ 0 _ rfl; (with_reducible repeat first | refine blk_drewN ?_ _ | refine blk_drew ?_ | refine blk_alloc ?_ _); exact Kb.out) hb); replace Kc := kAs (blk_below (g := gc) (o := .cells #[.int .i64 1, .int .i64 0, .int .i64 0, .slice Ao55 y336.length co55, .slice Ao80 xq.length co80] 25 (0, 0)) (by (with_reducible repeat first | refine blk_drewN ?_ _ | refine blk_drew ?_ | refine blk_alloc ?_ _); refine blk_put (cs := #[.int .i64 1, .int .i64 0, .int .i64 0, .slice Ao55 y336.length co55, .slice none 0 0]) ?_ 4 _ rfl; (with_reducible repeat first | refine blk_drewN ?_ _ | refine blk_drew ?_ | refine blk_alloc ?_ _); refine blk_put (cs := #[.int .i64 1, .int .i64 0, .int .i64 0, .slice none 0 0, .slice none 0 0]) ?_ 3 _ rfl; (with_reducible repeat first | refine blk_drewN ?_ _ | refine blk_drew ?_ | refine blk_alloc ?_ _); refine blk_put (cs := #[.int .i64 1, .int .i64 0, .int .i64 0, .slice none 0 0, .slice none 0 0]) ?_ 2 _ rfl; (with_reducible repeat first | refine blk_drewN ?_ _ | refine blk_drew ?_ | refine blk_alloc ?_ _); refine blk_put (cs := #[.int .i64 1, .int .i64 0, .int .i64 0, .slice none 0 0, .slice none 0 0]) ?_ 1 _ rfl; (with_reducible repeat first | refine blk_drewN ?_ _ | refine blk_drew ?_ | refine blk_alloc ?_ _); refine blk_put (cs := #[.int .i64 0, .int .i64 0, .int .i64 0, .slice none 0 0, .slice none 0 0]) ?_ 0 _ rfl; (with_reducible repeat first | refine blk_drewN ?_ _ | refine blk_drew ?_ | refine blk_alloc ?_ _); refine blk_far ?_ Nf.out _; (with_reducible repeat first | refine blk_drewN ?_ _ | refine blk_drew ?_ | refine blk_alloc ?_ _); refine blk_far ?_ Nf.out _; (with_reducible repeat first | refine blk_drewN ?_ _ | refine blk_drew ?_ | refine blk_alloc ?_ _); refine blk_far ?_ Nf.out _; (with_reducible repeat first | refine blk_drewN ?_ _ | refine blk_drew ?_ | refine blk_alloc ?_ _); refine blk_far ?_ Nf.out _; (with_reducible repeat first | refine blk_drewN ?_ _ | refine blk_drew ?_ | refine blk_alloc ?_ _); refine blk_far ?_ Nf.out _; (with_reducible repeat first | refine blk_drewN ?_ _ | refine blk_drew ?_ | refine blk_alloc ?_ _); exact Kc.out) hb); replace HB := kAs (below_step (by repeat (first | (with_reducible first | exact HB.out | apply below_alloc | apply pw_below_drewN | apply below_drew1 | refine below_set ?_ Ea.out | refine below_set ?_ Eb.out | refine below_set ?_ Ec.out) | exact HB.out)) hb); clear hb ho88; obtain ⟨Ao89, co89, eo89⟩ := R_slice HO348.out; subst eo89; have hnb90 := Nc.out; have hnc90 := Na.out; have hnb91 := Nd.out; have hnc91 := Nf.out; have hcz92_0 : w87.cell? ⟨gb, 0, none⟩ = some (.int .i64 1) := (blk_cell Kb.out 0).trans rfl; have hcz92_1 : w87.cell? ⟨gb, 1, none⟩ = some (.int .i64 0) := (blk_cell Kb.out 1).trans rfl; have hcz92_2 : w87.cell? ⟨gb, 2, none⟩ = some (.int .i64 0) := (blk_cell Kb.out 2).trans rfl; have hcz92_3 : w87.cell? ⟨gb, 3, none⟩ = some (.slice Ao55 y336.length co55) := (blk_cell Kb.out 3).trans rfl; have hcz92_4 : w87.cell? ⟨gb, 4, none⟩ = some (.slice Ao80 xq.length co80) := (blk_cell Kb.out 4).trans rfl; have hfz92_0 := blk_frozen Kb.out 0; have hfz92_1 := blk_frozen Kb.out 1; have hfz92_2 := blk_frozen Kb.out 2; have hfz92_3 := blk_frozen Kb.out 3; have hfz92_4 := blk_frozen Kb.out 4))
             have m0_ := kAs (R_mono (R_far (p := ⟨gb, 3, none⟩) (R_types Ga.out Kb.out (by decide)) (fun _ hk => hk.2) (.slice Ao89 y346.length co89)) (fun _ h_ => h_.1))
             have m1_ := kAs (R_mono (R_far (p := ⟨gb, 3, none⟩) (R_types Gb.out Kb.out (by decide)) (fun _ hk => hk.2) (.slice Ao89 y346.length co89)) (fun _ h_ => h_.1))
             have m2_ := kAs (R_mono (R_far (p := ⟨gb, 3, none⟩) (R_types HO348.out Kb.out (by decide)) (fun _ hk => hk.2) (.slice Ao89 y346.length co89)) (fun _ h_ => h_.1))
             have m3_ := kAs (blk_far (p := ⟨gb, 3, none⟩) Ka.out Na.out (.slice Ao89 y346.length co89))
             have m4_ := kAs (blk_put (cs' := #[.int .i64 1, .int .i64 0, .int .i64 0, .slice Ao89 y346.length co89, .slice Ao80 xq.length co80]) Kb.out 3 (.slice Ao89 y346.length co89) rfl)
             have m5_ := kAs (blk_far (p := ⟨gb, 3, none⟩) Kc.out Nf.out (.slice Ao89 y346.length co89))
             have m6_ := kAs (below_set (j := 3) (v := .slice Ao89 y346.length co89) HB.out Eb.out)
             clear Ga Gb HO348 Ka Kb Kc HB
             try clear hcz92_0 hcz92_1 hcz92_2 hcz92_3 hcz92_4 hfz92_0 hfz92_1 hfz92_2 hfz92_3 hfz92_4
             generalize w87.setCell ⟨gb, 3, none⟩ (.slice Ao89 y346.length co89) = W22 at m0_ m1_ m2_ m3_ m4_ m5_ m6_ ⊢
             have Ga := m0_
             have Gb := m1_
             have HO348 := m2_
             have Ka := m3_
             have Kb := m4_
             have Kc := m5_
             have HB := m6_
             clear m0_ m1_ m2_ m3_ m4_ m5_ m6_
             have p355 : 0 ≤ (0 : Int) := (by omega)
             have q355 : 0 < (xq.length : Int) := of_decide_eq_true (by first | (with_reducible assumption) | assumption)
             obtain ⟨ad355, e355, hx355_0, hx355_1, hx355_2⟩ := at_T49 (R_reads' Gb.out).2.2 0 p355 q355
             cases e355
             have qi355 : (0 < xq.length) = True := eq_true (by omega)
             (try rw [show ((0 : Int)).toNat = 0 from rfl] at hx355_0)
             (try rw [show 0 * 3 = 0 from rfl] at hx355_0)
             (try rw [Addr.add_zero'] at hx355_0)
             (try rw [show ((0 : Int)).toNat = 0 from rfl] at hx355_1)
             (try rw [show 0 * 3 = 0 from rfl] at hx355_1)
             (try rw [Addr.add_zero'] at hx355_1)
             (try rw [show ((0 : Int)).toNat = 0 from rfl] at hx355_2)
             (try rw [show 0 * 3 = 0 from rfl] at hx355_2)
             (try rw [Addr.add_zero'] at hx355_2)
             replace p355 := eq_true p355
             replace q355 := eq_true q355
             have HC22 := kAs (R_reads' Gb.out).2.2
             have h22_0 : W22.cell? ⟨ga, 4, none⟩ = some (.slice (some ad355) xq.length co80) := (blk_cell Ka.out 4).trans rfl
             have h22_1 := hx355_0
             have h22_2 := hx355_1
             have h22_3 := hx355_2
             have e352 : Aside0 (([] : List S49) ++ xq = y352) := ⟨by rw [Ny352.out, Ny349.out]⟩
             refine start_ (n := 12) (S := fun w' => w'.cell? ⟨ga, 4, none⟩ = some (.slice (some ad355) xq.length co80) ∧ w'.cell? ad355 = some (.int .i64 (rd_T49 xq 0).f0) ∧ w'.cell? ⟨ad355.block, ad355.off + 1, none⟩ = some (.int .i64 (rd_T49 xq 0).f1) ∧ w'.cell? ⟨ad355.block, ad355.off + 2, none⟩ = some (.int .i64 (rd_T49 xq 0).f2)) (ds := [9, 11]) #[false, false, false, false, false, false, false, false, false, false, false, false] (by kernel_rfl) rfl rfl ⟨h22_0, h22_1, h22_2, h22_3⟩ (fun hHeld => ?_)
             refine pureS_ (i := 1) (N := some 101) (v := ?_) (a' := ?_) rfl rfl (by kernel_rfl) (fun _ _ _ h => h) (Or.inl ⟨by rfl, ?_⟩) ?_ ?_
             rotate_left; (· intro w'; go_simp; with_reducible rfl); rotate_left; (· simp only [Act.put, List.setIfInBounds_toArray, List.set_cons_zero, List.set_cons_succ, i64_w, i32_w]; rfl)
             refine pureS_ (i := 4) (N := some 104) (v := ?_) (a' := ?_) rfl rfl (by kernel_rfl) (fun _ _ _ h => h) (Or.inl ⟨by rfl, ?_⟩) ?_ ?_
             rotate_left; (· intro w'; go_simp; with_reducible rfl); rotate_left; (· simp only [Act.put, List.setIfInBounds_toArray, List.set_cons_zero, List.set_cons_succ, i64_w, i32_w]; rfl)
             refine takeS_ (i := 2) (N := some 102) (v := ?_) (a' := ?_) rfl rfl (by kernel_rfl) (fun _ _ _ h => h) (Or.inl ⟨by rfl, ?_⟩) hHeld ?_ ?_
             rotate_left; (· rintro w' ⟨s0, s1, s2, s3⟩; go_simp; with_reducible rfl); rotate_left; (· simp only [Act.put, List.setIfInBounds_toArray, List.set_cons_zero, List.set_cons_succ, i64_w, i32_w]; rfl)
             refine takeS_ (i := 5) (N := some 105) (v := ?_) (a' := ?_) rfl rfl (by kernel_rfl) (fun _ _ _ h => h) (Or.inl ⟨by rfl, ?_⟩) hHeld ?_ ?_
             rotate_left; (· rintro w' ⟨s0, s1, s2, s3⟩; go_simp; with_reducible rfl); rotate_left; (· simp only [Act.put, List.setIfInBounds_toArray, List.set_cons_zero, List.set_cons_succ, i64_w, i32_w]; rfl)
             refine pureS_ (i := 6) (N := some 106) (v := ?_) (a' := ?_) rfl rfl (by kernel_rfl) (fun _ _ _ h => h) (Or.inl ⟨by rfl, ?_⟩) ?_ ?_
             rotate_left; (· intro w'; go_simp; with_reducible rfl); rotate_left; (· simp only [Act.put, List.setIfInBounds_toArray, List.set_cons_zero, List.set_cons_succ, i64_w, i32_w]; rfl)
             refine takeS_ (i := 7) (N := some 107) (v := ?_) (a' := ?_) rfl rfl (by kernel_rfl) (fun _ _ _ h => h) (Or.inl ⟨by rfl, ?_⟩) hHeld ?_ ?_
             rotate_left; (· rintro w' ⟨s0, s1, s2, s3⟩; go_simp; with_reducible rfl); rotate_left; (· simp only [Act.put, List.setIfInBounds_toArray, List.set_cons_zero, List.set_cons_succ, i64_w, i32_w]; rfl)
             refine join_ (σ := Value × Nat × Value) 3 #[true, true, true, true, true, true, true, true, true, false, false, false] (fun s_ => [(100, s_.2.2), (103, s_.1), (108, .slice (some ⟨s_.2.1, 0, none⟩) 1 1)]) (fun s_ w' => Kd.R k49 49 w' W22.heap.size (fun _ => True) s_.1 y352 ∧ w'.heap[s_.2.1]? = some (.cells #[.int .i64 (rd_T49 xq 0).f0, .int .i64 (rd_T49 xq 0).f1, .int .i64 (rd_T49 xq 0).f2] 49 (0, 0)) ∧ Below W22.heap.size W22 w') ?_ ?_
             rotate_left
             ·intro hCont
              refine two_ (i := 0) (j := 8) (Ni := some 100) (Nj := some 108) #[true, true, true, false, true, true, true, true, false, false, false, false] #[false, true, true, false, true, true, true, true, true, false, false, false] rfl rfl rfl rfl (by kernel_rfl) (by decide) (by decide) (fun K hK => ?_) (fun K hK => ?_)
              ·skip
               refine R_lit_step k49 (w0 := W22) W22.heap.size 49 (by rfl) (N := 100) rfl (xs := ([] : List S49)) (inner := []) (ok := fun _ => True) (okp := fun _ => False) ?hr (Reps.none _ _) (fun _ h => h.elim) trivial (below_drew (Below.refl W22.heap.size W22)) (below_drew (Below.refl W22.heap.size W22)).size (by simp) ?_
               case hr => first | (go_simp; done) | (go_simp; rfl)
               intro v0 w0_ HV0 hb0 hg0 hat0
               refine hK.out _ _ ⟨(kpc hb0 h22_0), (kpc hb0 h22_1), (kpc hb0 h22_2), (kpc hb0 h22_3)⟩ (fun hHeld => ?_)
               clear hK K
               refine norm_ (a' := ?_) ?_ ?_
               rotate_left
               ·show Act.put _ (some 100) _ = _
                simp only [Act.put, List.setIfInBounds_toArray, List.set_cons_zero, List.set_cons_succ, i64_w, i32_w]
                rfl
               refine two_ (i := 3) (j := 8) (Ni := some 103) (Nj := some 108) #[true, true, true, true, true, true, true, true, false, false, false, false] #[true, true, true, false, true, true, true, true, true, false, false, false] rfl rfl rfl rfl (by kernel_rfl) (by decide) (by decide) (fun K hK => ?_) (fun K hK => ?_)
               ·skip
                refine R_append_rows_step k49 (w0 := W22) W22.heap.size (by rfl) (.tmp 100) (.tmp 102) 23 49 (.agg #[(.int .i64 0), (.int .i64 0), (.int .i64 0)]) 24 rfl Try.underlying23 info49 rfl (by decide) (by omega) v0 ([] : List S49) xq _ _ _ (fun _ => True) (fun _ => False) rfl rfl HV0 (C_below HC22.out hb0) (fun _ _ h => h) (fun _ h => h.elim) (fun _ _ => trivial) hb0 hb0.size (by have := LMc69.out; simp only [List.length_nil]; omega) ?_
                intro v3 w3_ HV3 hb3 hg3 hat3
                rw [e352.out] at HV3
                refine hK.out _ _ ⟨(kpc hb3 h22_0), (kpc hb3 h22_1), (kpc hb3 h22_2), (kpc hb3 h22_3)⟩ (fun hHeld => ?_)
                clear hK K
                refine norm_ (a' := ?_) ?_ ?_
                rotate_left
                ·show Act.put _ (some 103) _ = _
                 simp only [Act.put, List.setIfInBounds_toArray, List.set_cons_zero, List.set_cons_succ, i64_w, i32_w]
                 rfl
                refine oneS_ (i := 8) (N := some 108) rfl rfl (by kernel_rfl) (by decide) (fun K hK => ?_)
                refine value_ (w1 := ?_) (v := ?_) (by rfl) rfl ?_ ?_
                rotate_left 2
                ·go_simp
                 constructor
                 ·rfl
                 ·rfl
                refine hK.out _ _ ⟨(kpc (hb3.alloc hb3.size _) h22_0), (kpc (hb3.alloc hb3.size _) h22_1), (kpc (hb3.alloc hb3.size _) h22_2), (kpc (hb3.alloc hb3.size _) h22_3)⟩ (fun hHeld => ?_)
                clear hK K
                refine norm_ (a' := ?_) ?_ ?_
                rotate_left
                ·show Act.put _ (some 108) _ = _
                 simp only [Act.put, List.setIfInBounds_toArray, List.set_cons_zero, List.set_cons_succ, i64_w, i32_w]
                 rfl
                exact norm_ (by simp only [putAll, Act.put, List.setIfInBounds_toArray, List.set_cons_zero, List.set_cons_succ]) (hCont (v3, w3_.heap.size, v0) _ ⟨R_alloc HV3 _, alloc_at w3_ _, hb3.alloc hb3.size _⟩)
               ·skip
                refine value_ (w1 := ?_) (v := ?_) (by rfl) rfl ?_ ?_
                rotate_left 2
                ·go_simp
                 constructor
                 ·rfl
                 ·rfl
                refine hK.out _ _ ⟨(kpc (hb0.alloc hb0.size _) h22_0), (kpc (hb0.alloc hb0.size _) h22_1), (kpc (hb0.alloc hb0.size _) h22_2), (kpc (hb0.alloc hb0.size _) h22_3)⟩ (fun hHeld => ?_)
                clear hK K
                refine norm_ (a' := ?_) ?_ ?_
                rotate_left
                ·show Act.put _ (some 108) _ = _
                 simp only [Act.put, List.setIfInBounds_toArray, List.set_cons_zero, List.set_cons_succ, i64_w, i32_w]
                 rfl
                refine oneS_ (i := 3) (N := some 103) rfl rfl (by kernel_rfl) (by decide) (fun K hK => ?_)
                refine R_append_rows_step k49 (w0 := W22) W22.heap.size (by rfl) (.tmp 100) (.tmp 102) 23 49 (.agg #[(.int .i64 0), (.int .i64 0), (.int .i64 0)]) 24 rfl Try.underlying23 info49 rfl (by decide) (by omega) v0 ([] : List S49) xq _ _ _ (fun _ => True) (fun _ => False) rfl rfl (R_alloc HV0 _) (C_below HC22.out (hb0.alloc hb0.size _)) (fun _ _ h => h) (fun _ h => h.elim) (fun _ _ => trivial) (hb0.alloc hb0.size _) (hb0.alloc hb0.size _).size (by have := LMc69.out; simp only [List.length_nil]; omega) ?_
                intro v3 w3_ HV3 hb3 hg3 hat3
                rw [e352.out] at HV3
                refine hK.out _ _ ⟨(kpc hb3 h22_0), (kpc hb3 h22_1), (kpc hb3 h22_2), (kpc hb3 h22_3)⟩ (fun hHeld => ?_)
                clear hK K
                refine norm_ (a' := ?_) ?_ ?_
                rotate_left
                ·show Act.put _ (some 103) _ = _
                 simp only [Act.put, List.setIfInBounds_toArray, List.set_cons_zero, List.set_cons_succ, i64_w, i32_w]
                 rfl
                exact norm_ (by simp only [putAll, Act.put, List.setIfInBounds_toArray, List.set_cons_zero, List.set_cons_succ]) (hCont (v3, w0_.heap.size, v0) _ ⟨HV3, blk_grown (alloc_at w0_ _) hg3 (fun e => absurd (R_lt HV0 _ e.symm) (Nat.lt_irrefl _)), hb3⟩)
              ·skip
               refine value_ (w1 := ?_) (v := ?_) (by rfl) rfl ?_ ?_
               rotate_left 2
               ·go_simp
                constructor
                ·rfl
                ·rfl
               refine hK.out _ _ ⟨(kpc ((below_drew (Below.refl W22.heap.size W22)).alloc (Nat.le_refl _) _) h22_0), (kpc ((below_drew (Below.refl W22.heap.size W22)).alloc (Nat.le_refl _) _) h22_1), (kpc ((below_drew (Below.refl W22.heap.size W22)).alloc (Nat.le_refl _) _) h22_2), (kpc ((below_drew (Below.refl W22.heap.size W22)).alloc (Nat.le_refl _) _) h22_3)⟩ (fun hHeld => ?_)
               clear hK K
               refine norm_ (a' := ?_) ?_ ?_
               rotate_left
               ·show Act.put _ (some 108) _ = _
                simp only [Act.put, List.setIfInBounds_toArray, List.set_cons_zero, List.set_cons_succ, i64_w, i32_w]
                rfl
               refine oneS_ (i := 0) (N := some 100) rfl rfl (by kernel_rfl) (by decide) (fun K hK => ?_)
               refine R_lit_step k49 (w0 := W22) W22.heap.size 49 (by rfl) (N := 100) rfl (xs := ([] : List S49)) (inner := []) (ok := fun _ => True) (okp := fun _ => False) ?hr (Reps.none _ _) (fun _ h => h.elim) trivial ((below_drew (Below.refl W22.heap.size W22)).alloc (Nat.le_refl _) _) ((below_drew (Below.refl W22.heap.size W22)).alloc (Nat.le_refl _) _).size (by simp) ?_
               case hr => first | (go_simp; done) | (go_simp; rfl)
               intro v0 w0_ HV0 hb0 hg0 hat0
               refine hK.out _ _ ⟨(kpc hb0 h22_0), (kpc hb0 h22_1), (kpc hb0 h22_2), (kpc hb0 h22_3)⟩ (fun hHeld => ?_)
               clear hK K
               refine norm_ (a' := ?_) ?_ ?_
               rotate_left
               ·show Act.put _ (some 100) _ = _
                simp only [Act.put, List.setIfInBounds_toArray, List.set_cons_zero, List.set_cons_succ, i64_w, i32_w]
                rfl
               refine oneS_ (i := 3) (N := some 103) rfl rfl (by kernel_rfl) (by decide) (fun K hK => ?_)
               refine R_append_rows_step k49 (w0 := W22) W22.heap.size (by rfl) (.tmp 100) (.tmp 102) 23 49 (.agg #[(.int .i64 0), (.int .i64 0), (.int .i64 0)]) 24 rfl Try.underlying23 info49 rfl (by decide) (by omega) v0 ([] : List S49) xq _ _ _ (fun _ => True) (fun _ => False) rfl rfl HV0 (C_below HC22.out hb0) (fun _ _ h => h) (fun _ h => h.elim) (fun _ _ => trivial) hb0 hb0.size (by have := LMc69.out; simp only [List.length_nil]; omega) ?_
               intro v3 w3_ HV3 hb3 hg3 hat3
               rw [e352.out] at HV3
               refine hK.out _ _ ⟨(kpc hb3 h22_0), (kpc hb3 h22_1), (kpc hb3 h22_2), (kpc hb3 h22_3)⟩ (fun hHeld => ?_)
               clear hK K
               refine norm_ (a' := ?_) ?_ ?_
               rotate_left
               ·show Act.put _ (some 103) _ = _
                simp only [Act.put, List.setIfInBounds_toArray, List.set_cons_zero, List.set_cons_succ, i64_w, i32_w]
                rfl
               exact norm_ (by simp only [putAll, Act.put, List.setIfInBounds_toArray, List.set_cons_zero, List.set_cons_succ]) (hCont (v3, W22.heap.size, v0) _ ⟨HV3, blk_grown (blk_grown (alloc_at W22.drew _) hg0 (by simp)) hg3 (by obtain ⟨b_, e_, l_⟩ := hat0; rw [e_]; intro e; have e2 : W22.heap.size = b_ := Option.some.inj e; have h1 := alloc_lt W22 (.cells #[.int .i64 (rd_T49 xq 0).f0, .int .i64 (rd_T49 xq 0).f1, .int .i64 (rd_T49 xq 0).f2] 49); have l2 : (W22.alloc (.cells #[.int .i64 (rd_T49 xq 0).f0, .int .i64 (rd_T49 xq 0).f1, .int .i64 (rd_T49 xq 0).f2] 49)).heap.size ≤ b_ := l_; clear e l_ e_; omega), hb3⟩)
             rintro ⟨v3, g8, v0⟩ w8_ ⟨HV3, hx8, hb8⟩
             refine norm_ (a' := ?_) ?_ ?_
             rotate_left
             ·simp only [putAll, Act.put, List.setIfInBounds_toArray, List.set_cons_zero, List.set_cons_succ]
              rfl
             refine lastS_ (i := 9) (N := some 109) rfl rfl (by kernel_rfl) (by decide) (fun K hK => ?_)
             refine R_append_rows_step k49 (w0 := W22) W22.heap.size (by rfl) (.tmp 103) (.tmp 108) 23 49 (.agg #[(.int .i64 0), (.int .i64 0), (.int .i64 0)]) 24 rfl Try.underlying23 info49 rfl (by decide) (by omega) v3 y352 [(⟨(rd_T49 xq 0).f0, (rd_T49 xq 0).f1, (rd_T49 xq 0).f2⟩ : S49)] _ _ _ (fun _ => True) (fun _ => False) rfl rfl HV3 (step1_C hx8) (fun _ _ h => h) (fun _ h => h.elim) (fun _ _ => trivial) hb8 hb8.size (by have := LMc71.out; omega) ?_
             intro v9 w99 HV9 hb9 hg9 hat9
             rw [← Ny356.out] at HV9
             obtain ⟨Ao100, co100, eo100⟩ := R_slice HV9
             subst eo100
             replace Ga := kAs (R_below Ga.out hb9)
             replace HO348 := kAs (R_below HO348.out hb9)
             replace Ka := kAs (blk_below Ka.out hb9)
             replace Kb := kAs (blk_below Kb.out hb9)
             replace Kc := kAs (blk_below Kc.out hb9)
             have HO358 := kAs (R_mono (R_lower (R_new' HV9 (R_lt Gb.out)) HB.out.size) (fun _ hk => hk.2))
             replace Gb := kAs (R_elder' Gb.out (R_base HV9) hb9)
             replace HB := kAs (below_then HB.out HB.out.size hb9)
             clear HV3 hx8 hb8 HV9 hb9 hg9 hat9
             have hcz101_0 : w99.cell? ⟨gc, 0, none⟩ = some (.int .i64 1) := (blk_cell Kc.out 0).trans rfl
             have hcz101_1 : w99.cell? ⟨gc, 1, none⟩ = some (.int .i64 0) := (blk_cell Kc.out 1).trans rfl
             have hcz101_2 : w99.cell? ⟨gc, 2, none⟩ = some (.int .i64 0) := (blk_cell Kc.out 2).trans rfl
             have hcz101_3 : w99.cell? ⟨gc, 3, none⟩ = some (.slice Ao55 y336.length co55) := (blk_cell Kc.out 3).trans rfl
             have hcz101_4 : w99.cell? ⟨gc, 4, none⟩ = some (.slice (some ad355) xq.length co80) := (blk_cell Kc.out 4).trans rfl
             have hfz101_0 := blk_frozen Kc.out 0
             have hfz101_1 := blk_frozen Kc.out 1
             have hfz101_2 := blk_frozen Kc.out 2
             have hfz101_3 := blk_frozen Kc.out 3
             have hfz101_4 := blk_frozen Kc.out 4
             refine hK.out _ _ ?_
             clear hK K
             refine norm_ (a' := ?_) ?_ ?_
             rotate_left
             ·show Act.put _ (some 109) _ = _
              simp only [Act.put, List.setIfInBounds_toArray, List.set_cons_zero, List.set_cons_succ, i64_w, i32_w]
              rfl
             refine pureS_ (i := 10) (N := some 110) (v := ?_) (a' := ?_) rfl rfl (by kernel_rfl) (fun _ _ _ h => h) (Or.inl ⟨by rfl, ?_⟩) ?_ ?_
             rotate_left; (· intro w'; go_simp; with_reducible rfl); rotate_left; (· simp only [Act.put, List.setIfInBounds_toArray, List.set_cons_zero, List.set_cons_succ, i64_w, i32_w]; rfl)
             refine lastS_ (i := 11) (N := none) rfl rfl (by kernel_rfl) (by decide) (fun K hK => ?_)
             refine skip_ (w1 := ?_) (by rfl) rfl ?_ ?_
             rotate_left
             ·go_simp
              rfl
             refine hK.out _ _ ?_
             clear hK K
             refine done_ (by kernel_rfl) ?_
             try clear h22_0 h22_1 h22_2 h22_3
             try go_wp2_with (first | ((with_reducible refine gate_dst (N := 111) rfl ?_); refine R_lit (Kd.int .u8) _ 5 ?hg (N := 111) ?hd (xs := ([0, 8, 255, 247, 3, 0, 0, 0] : List Int)) (inner := [.int .u8 0, .int .u8 8, .int .u8 255, .int .u8 247, .int .u8 3, .int .u8 0, .int .u8 0, .int .u8 0]) (ok := fun _ => True) (okp := fun _ => True) ?hr ?hp (fun _ hk => hk) trivial (Below.refl _ _) (Nat.le_refl _) (by simp) ?_; (case hd => rfl); (case hg => rfl); (case hr => first | (go_simp; done) | (go_simp; rfl)); (case hp => exact (Reps.one (show Kd.M (Kd.int .u8) _ _ _ 0 [.int .u8 0] from rfl) (Reps.one (show Kd.M (Kd.int .u8) _ _ _ 8 [.int .u8 8] from rfl) (Reps.one (show Kd.M (Kd.int .u8) _ _ _ 255 [.int .u8 255] from rfl) (Reps.one (show Kd.M (Kd.int .u8) _ _ _ 247 [.int .u8 247] from rfl) (Reps.one (show Kd.M (Kd.int .u8) _ _ _ 3 [.int .u8 3] from rfl) (Reps.one (show Kd.M (Kd.int .u8) _ _ _ 0 [.int .u8 0] from rfl) (Reps.one (show Kd.M (Kd.int .u8) _ _ _ 0 [.int .u8 0] from rfl) (Reps.one (show Kd.M (Kd.int .u8) _ _ _ 0 [.int .u8 0] from rfl) (Reps.none _ _)))))))))); intro v360 w102 ho103 hb hg_ hnew_; clear hg_ hnew_; (first | rw [← Ny359.out] at ho103 | (simp only [Int.reduceToNat] at ho103; rw [← Ny359.out] at ho103)); replace Ga := kAs (R_below (by (with_reducible repeat first | apply R_alloc | apply R_drewN | apply R_drew); exact (R_mono (R_far (p := ⟨gc, 4, none⟩) (R_types Ga.out Kc.out (by decide)) (fun _ hk => hk.2) (.slice Ao100 y356.length co100)) (fun _ h_ => h_.1))) hb); replace Gb := kAs (R_below (by (with_reducible repeat first | apply R_alloc | apply R_drewN | apply R_drew); exact (R_mono (R_far (p := ⟨gc, 4, none⟩) (R_types Gb.out Kc.out (by decide)) (fun _ hk => hk.2) (.slice Ao100 y356.length co100)) (fun _ h_ => h_.1))) hb); replace HO348 := kAs (R_below (by (with_reducible repeat first | apply R_alloc | apply R_drewN | apply R_drew); exact (R_mono (R_far (p := ⟨gc, 4, none⟩) (R_types HO348.out Kc.out (by decide)) (fun _ hk => hk.2) (.slice Ao100 y356.length co100)) (fun _ h_ => h_.1))) hb); replace HO358 := kAs (R_below (by (with_reducible repeat first | apply R_alloc | apply R_drewN | apply R_drew); exact (R_mono (R_far (p := ⟨gc, 4, none⟩) (R_types HO358.out Kc.out (by decide)) (fun _ hk => hk.2) (.slice Ao100 y356.length co100)) (fun _ h_ => h_.1))) hb); have HO361 := kAs (R_lower ho103 (below_size (by repeat (first | (with_reducible first | exact HB.out | apply below_alloc | apply pw_below_drewN | apply below_drew1 | refine below_set ?_ Ea.out | refine below_set ?_ Eb.out | refine below_set ?_ Ec.out) | exact HB.out)))); replace Ka := kAs (blk_below (g := ga) (o := .cells #[.int .i64 1, .int .i64 0, .int .i64 0, .slice Ao55 y336.length co55, .slice (some ad355) xq.length co80] 25 (0, 0)) (by (with_reducible repeat first | refine blk_drewN ?_ _ | refine blk_drew ?_ | refine blk_alloc ?_ _); refine blk_far ?_ Nb.out _; (with_reducible repeat first | refine blk_drewN ?_ _ | refine blk_drew ?_ | refine blk_alloc ?_ _); exact Ka.out) hb); replace Kb := kAs (blk_below (g := gb) (o := .cells #[.int .i64 1, .int .i64 0, .int .i64 0, .slice Ao89 y346.length co89, .slice (some ad355) xq.length co80] 25 (0, 0)) (by (with_reducible repeat first | refine blk_drewN ?_ _ | refine blk_drew ?_ | refine blk_alloc ?_ _); refine blk_far ?_ Nd.out _; (with_reducible repeat first | refine blk_drewN ?_ _ | refine blk_drew ?_ | refine blk_alloc ?_ _); exact Kb.out) hb); replace Kc := kAs (blk_below (g := gc) (o := .cells #[.int .i64 1, .int .i64 0, .int .i64 0, .slice Ao55 y336.length co55, .slice Ao100 y356.length co100] 25 (0, 0)) (by (with_reducible repeat first | refine blk_drewN ?_ _ | refine blk_drew ?_ | refine blk_alloc ?_ _); refine blk_put (cs := #[.int .i64 1, .int .i64 0, .int .i64 0, .slice Ao55 y336.length co55, .slice (some ad355) xq.length co80]) ?_ 4 _ rfl; (with_reducible repeat first | refine blk_drewN ?_ _ | refine blk_drew ?_ | refine blk_alloc ?_ _); exact Kc.out) hb); replace HB := kAs (below_step (by repeat (first | (with_reducible first | exact HB.out | apply below_alloc | apply pw_below_drewN | apply below_drew1 | refine below_set ?_ Ea.out | refine below_set ?_ Eb.out | refine below_set ?_ Ec.out) | exact HB.out)) hb); clear hb ho103) | ((with_reducible refine gate_dst (N := 112) rfl ?_); refine R_lit (Kd.int .u8) _ 5 ?hg (N := 112) ?hd (xs := ([0, 9, 255, 246, 1, 0, 0, 0, 41] : List Int)) (inner := [.int .u8 0, .int .u8 9, .int .u8 255, .int .u8 246, .int .u8 1, .int .u8 0, .int .u8 0, .int .u8 0, .int .u8 41]) (ok := fun _ => True) (okp := fun _ => True) ?hr ?hp (fun _ hk => hk) trivial (Below.refl _ _) (Nat.le_refl _) (by simp) ?_; (case hd => rfl); (case hg => rfl); (case hr => first | (go_simp; done) | (go_simp; rfl)); (case hp => exact (Reps.one (show Kd.M (Kd.int .u8) _ _ _ 0 [.int .u8 0] from rfl) (Reps.one (show Kd.M (Kd.int .u8) _ _ _ 9 [.int .u8 9] from rfl) (Reps.one (show Kd.M (Kd.int .u8) _ _ _ 255 [.int .u8 255] from rfl) (Reps.one (show Kd.M (Kd.int .u8) _ _ _ 246 [.int .u8 246] from rfl) (Reps.one (show Kd.M (Kd.int .u8) _ _ _ 1 [.int .u8 1] from rfl) (Reps.one (show Kd.M (Kd.int .u8) _ _ _ 0 [.int .u8 0] from rfl) (Reps.one (show Kd.M (Kd.int .u8) _ _ _ 0 [.int .u8 0] from rfl) (Reps.one (show Kd.M (Kd.int .u8) _ _ _ 0 [.int .u8 0] from rfl) (Reps.one (show Kd.M (Kd.int .u8) _ _ _ 41 [.int .u8 41] from rfl) (Reps.none _ _))))))))))); intro v363 w104 ho105 hb hg_ hnew_; clear hg_ hnew_; (first | rw [← Ny362.out] at ho105 | (simp only [Int.reduceToNat] at ho105; rw [← Ny362.out] at ho105)); replace Ga := kAs (R_below (ra_ Ga.out) hb); replace Gb := kAs (R_below (ra_ Gb.out) hb); replace HO348 := kAs (R_below (ra_ HO348.out) hb); replace HO358 := kAs (R_below (ra_ HO358.out) hb); have HO364 := kAs (R_lower (R_new' ho105 (R_lt (ra_ HO361.out))) (below_size (by repeat (first | (with_reducible first | exact HB.out | apply below_alloc | apply pw_below_drewN | apply below_drew1 | refine below_set ?_ Ea.out | refine below_set ?_ Eb.out | refine below_set ?_ Ec.out) | exact HB.out)))); replace HO361 := kAs (R_elder' (ra_ HO361.out) (R_base ho105) hb); replace Ka := kAs (blk_below (g := ga) (o := .cells #[.int .i64 1, .int .i64 0, .int .i64 0, .slice Ao55 y336.length co55, .slice (some ad355) xq.length co80] 25 (0, 0)) (by (with_reducible repeat first | refine blk_drewN ?_ _ | refine blk_drew ?_ | refine blk_alloc ?_ _); exact Ka.out) hb); replace Kb := kAs (blk_below (g := gb) (o := .cells #[.int .i64 1, .int .i64 0, .int .i64 0, .slice Ao89 y346.length co89, .slice (some ad355) xq.length co80] 25 (0, 0)) (by (with_reducible repeat first | refine blk_drewN ?_ _ | refine blk_drew ?_ | refine blk_alloc ?_ _); exact Kb.out) hb); replace Kc := kAs (blk_below (g := gc) (o := .cells #[.int .i64 1, .int .i64 0, .int .i64 0, .slice Ao55 y336.length co55, .slice Ao100 y356.length co100] 25 (0, 0)) (by (with_reducible repeat first | refine blk_drewN ?_ _ | refine blk_drew ?_ | refine blk_alloc ?_ _); exact Kc.out) hb); replace HB := kAs (below_step (by repeat (first | (with_reducible first | exact HB.out | apply below_alloc | apply pw_below_drewN | apply below_drew1 | refine below_set ?_ Ea.out | refine below_set ?_ Eb.out | refine below_set ?_ Ec.out) | exact HB.out)) hb); clear hb ho105) | ((with_reducible refine gate_dst (N := 113) rfl ?_); refine R_lit (Kd.int .u8) _ 5 ?hg (N := 113) ?hd (xs := ([255, 255, 0, 0, 1, 0, 0, 0] : List Int)) (inner := [.int .u8 255, .int .u8 255, .int .u8 0, .int .u8 0, .int .u8 1, .int .u8 0, .int .u8 0, .int .u8 0]) (ok := fun _ => True) (okp := fun _ => True) ?hr ?hp (fun _ hk => hk) trivial (Below.refl _ _) (Nat.le_refl _) (by simp) ?_; (case hd => rfl); (case hg => rfl); (case hr => first | (go_simp; done) | (go_simp; rfl)); (case hp => exact (Reps.one (show Kd.M (Kd.int .u8) _ _ _ 255 [.int .u8 255] from rfl) (Reps.one (show Kd.M (Kd.int .u8) _ _ _ 255 [.int .u8 255] from rfl) (Reps.one (show Kd.M (Kd.int .u8) _ _ _ 0 [.int .u8 0] from rfl) (Reps.one (show Kd.M (Kd.int .u8) _ _ _ 0 [.int .u8 0] from rfl) (Reps.one (show Kd.M (Kd.int .u8) _ _ _ 1 [.int .u8 1] from rfl) (Reps.one (show Kd.M (Kd.int .u8) _ _ _ 0 [.int .u8 0] from rfl) (Reps.one (show Kd.M (Kd.int .u8) _ _ _ 0 [.int .u8 0] from rfl) (Reps.one (show Kd.M (Kd.int .u8) _ _ _ 0 [.int .u8 0] from rfl) (Reps.none _ _)))))))))); intro v366 w106 ho107 hb hg_ hnew_; clear hg_ hnew_; (first | rw [← Ny365.out] at ho107 | (simp only [Int.reduceToNat] at ho107; rw [← Ny365.out] at ho107)); replace Ga := kAs (R_below (ra_ Ga.out) hb); replace Gb := kAs (R_below (ra_ Gb.out) hb); replace HO348 := kAs (R_below (ra_ HO348.out) hb); replace HO358 := kAs (R_below (ra_ HO358.out) hb); have HO367 := kAs (R_lower (R_new' (R_new' ho107 (R_lt (ra_ HO361.out))) (R_lt (ra_ HO364.out))) (below_size (by repeat (first | (with_reducible first | exact HB.out | apply below_alloc | apply pw_below_drewN | apply below_drew1 | refine below_set ?_ Ea.out | refine below_set ?_ Eb.out | refine below_set ?_ Ec.out) | exact HB.out)))); replace HO361 := kAs (R_elder' (ra_ HO361.out) (R_base ho107) hb); replace HO364 := kAs (R_elder' (ra_ HO364.out) (R_base ho107) hb); replace Ka := kAs (blk_below (g := ga) (o := .cells #[.int .i64 1, .int .i64 0, .int .i64 0, .slice Ao55 y336.length co55, .slice (some ad355) xq.length co80] 25 (0, 0)) (by (with_reducible repeat first | refine blk_drewN ?_ _ | refine blk_drew ?_ | refine blk_alloc ?_ _); exact Ka.out) hb); replace Kb := kAs (blk_below (g := gb) (o := .cells #[.int .i64 1, .int .i64 0, .int .i64 0, .slice Ao89 y346.length co89, .slice (some ad355) xq.length co80] 25 (0, 0)) (by (with_reducible repeat first | refine blk_drewN ?_ _ | refine blk_drew ?_ | refine blk_alloc ?_ _); exact Kb.out) hb); replace Kc := kAs (blk_below (g := gc) (o := .cells #[.int .i64 1, .int .i64 0, .int .i64 0, .slice Ao55 y336.length co55, .slice Ao100 y356.length co100] 25 (0, 0)) (by (with_reducible repeat first | refine blk_drewN ?_ _ | refine blk_drew ?_ | refine blk_alloc ?_ _); exact Kc.out) hb); replace HB := kAs (below_step (by repeat (first | (with_reducible first | exact HB.out | apply below_alloc | apply pw_below_drewN | apply below_drew1 | refine below_set ?_ Ea.out | refine below_set ?_ Eb.out | refine below_set ?_ Ec.out) | exact HB.out)) hb); clear hb ho107) | ((with_reducible refine gate_dst (N := 114) rfl ?_); refine R_lit (Kd.int .u8) _ 5 ?hg (N := 114) ?hd (xs := ([0, 7, 255, 248, 0, 0, 0] : List Int)) (inner := [.int .u8 0, .int .u8 7, .int .u8 255, .int .u8 248, .int .u8 0, .int .u8 0, .int .u8 0]) (ok := fun _ => True) (okp := fun _ => True) ?hr ?hp (fun _ hk => hk) trivial (Below.refl _ _) (Nat.le_refl _) (by simp) ?_; (case hd => rfl); (case hg => rfl); (case hr => first | (go_simp; done) | (go_simp; rfl)); (case hp => exact (Reps.one (show Kd.M (Kd.int .u8) _ _ _ 0 [.int .u8 0] from rfl) (Reps.one (show Kd.M (Kd.int .u8) _ _ _ 7 [.int .u8 7] from rfl) (Reps.one (show Kd.M (Kd.int .u8) _ _ _ 255 [.int .u8 255] from rfl) (Reps.one (show Kd.M (Kd.int .u8) _ _ _ 248 [.int .u8 248] from rfl) (Reps.one (show Kd.M (Kd.int .u8) _ _ _ 0 [.int .u8 0] from rfl) (Reps.one (show Kd.M (Kd.int .u8) _ _ _ 0 [.int .u8 0] from rfl) (Reps.one (show Kd.M (Kd.int .u8) _ _ _ 0 [.int .u8 0] from rfl) (Reps.none _ _))))))))); intro v369 w108 ho109 hb hg_ hnew_; clear hg_ hnew_; (first | rw [← Ny368.out] at ho109 | (simp only [Int.reduceToNat] at ho109; rw [← Ny368.out] at ho109)); replace Ga := kAs (R_below (ra_ Ga.out) hb); replace Gb := kAs (R_below (ra_ Gb.out) hb); replace HO348 := kAs (R_below (ra_ HO348.out) hb); replace HO358 := kAs (R_below (ra_ HO358.out) hb); have HO370 := kAs (R_lower (R_new' (R_new' (R_new' ho109 (R_lt (ra_ HO361.out))) (R_lt (ra_ HO364.out))) (R_lt (ra_ HO367.out))) (below_size (by repeat (first | (with_reducible first | exact HB.out | apply below_alloc | apply pw_below_drewN | apply below_drew1 | refine below_set ?_ Ea.out | refine below_set ?_ Eb.out | refine below_set ?_ Ec.out) | exact HB.out)))); replace HO361 := kAs (R_elder' (ra_ HO361.out) (R_base ho109) hb); replace HO364 := kAs (R_elder' (ra_ HO364.out) (R_base ho109) hb); replace HO367 := kAs (R_elder' (ra_ HO367.out) (R_base ho109) hb); replace Ka := kAs (blk_below (g := ga) (o := .cells #[.int .i64 1, .int .i64 0, .int .i64 0, .slice Ao55 y336.length co55, .slice (some ad355) xq.length co80] 25 (0, 0)) (by (with_reducible repeat first | refine blk_drewN ?_ _ | refine blk_drew ?_ | refine blk_alloc ?_ _); exact Ka.out) hb); replace Kb := kAs (blk_below (g := gb) (o := .cells #[.int .i64 1, .int .i64 0, .int .i64 0, .slice Ao89 y346.length co89, .slice (some ad355) xq.length co80] 25 (0, 0)) (by (with_reducible repeat first | refine blk_drewN ?_ _ | refine blk_drew ?_ | refine blk_alloc ?_ _); exact Kb.out) hb); replace Kc := kAs (blk_below (g := gc) (o := .cells #[.int .i64 1, .int .i64 0, .int .i64 0, .slice Ao55 y336.length co55, .slice Ao100 y356.length co100] 25 (0, 0)) (by (with_reducible repeat first | refine blk_drewN ?_ _ | refine blk_drew ?_ | refine blk_alloc ?_ _); exact Kc.out) hb); replace HB := kAs (below_step (by repeat (first | (with_reducible first | exact HB.out | apply below_alloc | apply pw_below_drewN | apply below_drew1 | refine below_set ?_ Ea.out | refine below_set ?_ Eb.out | refine below_set ?_ Ec.out) | exact HB.out)) hb); clear hb ho109; obtain ⟨Ao110, co110, eo110⟩ := R_slice HO361.out; subst eo110; obtain ⟨Ao111, co111, eo111⟩ := R_slice HO364.out; subst eo111; obtain ⟨Ao112, co112, eo112⟩ := R_slice HO367.out; subst eo112; obtain ⟨Ao113, co113, eo113⟩ := R_slice HO370.out; subst eo113) | ((with_reducible refine gate_dst (N := 115) rfl ?_); refine N_lit (Kd.slice 5 (Kd.int .u8)) _ 26 ?hg (N' := 115) ?hd (xs := ([[], y359, y362, y365, y368] : List (List Int))) (inner := [.slice none 0 0, .slice Ao110 y359.length co110, .slice Ao111 y362.length co111, .slice Ao112 y365.length co112, .slice Ao113 y368.length co113]) (ok := (fun k_ => some k_ ≠ (.slice Ao55 y336.length co55 : Value).ownBlock ∧ some k_ ≠ (.slice (some ad355) xq.length co80 : Value).ownBlock ∧ some k_ ≠ (.slice Ao89 y346.length co89 : Value).ownBlock ∧ some k_ ≠ (.slice Ao100 y356.length co100 : Value).ownBlock ∧ k_ ≠ ga ∧ k_ ≠ gb ∧ k_ ≠ gc)) (okp := (fun k_ => some k_ ≠ (.slice Ao55 y336.length co55 : Value).ownBlock ∧ some k_ ≠ (.slice (some ad355) xq.length co80 : Value).ownBlock ∧ some k_ ≠ (.slice Ao89 y346.length co89 : Value).ownBlock ∧ some k_ ≠ (.slice Ao100 y356.length co100 : Value).ownBlock ∧ k_ ≠ ga ∧ k_ ≠ gb ∧ k_ ≠ gc)) ?hr ?hp (fun _ hk => hk) ((show ∀ k_, w108.heap.size ≤ k_ → (fun k_ => some k_ ≠ (.slice Ao55 y336.length co55 : Value).ownBlock ∧ some k_ ≠ (.slice (some ad355) xq.length co80 : Value).ownBlock ∧ some k_ ≠ (.slice Ao89 y346.length co89 : Value).ownBlock ∧ some k_ ≠ (.slice Ao100 y356.length co100 : Value).ownBlock ∧ k_ ≠ ga ∧ k_ ≠ gb ∧ k_ ≠ gc) k_ from fun k_ hk => ⟨Kd.fresh' (R_lt (ra_ Ga.out)) k_ hk, Kd.fresh' (R_lt (ra_ Gb.out)) k_ hk, Kd.fresh' (R_lt (ra_ HO348.out)) k_ hk, Kd.fresh' (R_lt (ra_ HO358.out)) k_ hk, Kd.freshB (g := ga) (o := .cells #[.int .i64 1, .int .i64 0, .int .i64 0, .slice Ao55 y336.length co55, .slice (some ad355) xq.length co80] 25 (0, 0)) (by (with_reducible repeat first | refine blk_drewN ?_ _ | refine blk_drew ?_ | refine blk_alloc ?_ _); exact Ka.out) k_ hk, Kd.freshB (g := gb) (o := .cells #[.int .i64 1, .int .i64 0, .int .i64 0, .slice Ao89 y346.length co89, .slice (some ad355) xq.length co80] 25 (0, 0)) (by (with_reducible repeat first | refine blk_drewN ?_ _ | refine blk_drew ?_ | refine blk_alloc ?_ _); exact Kb.out) k_ hk, Kd.freshB (g := gc) (o := .cells #[.int .i64 1, .int .i64 0, .int .i64 0, .slice Ao55 y336.length co55, .slice Ao100 y356.length co100] 25 (0, 0)) (by (with_reducible repeat first | refine blk_drewN ?_ _ | refine blk_drew ?_ | refine blk_alloc ?_ _); exact Kc.out) k_ hk⟩) _ (Nat.le_refl _)) (Below.refl _ _) (Nat.le_refl _) (by simp) ?_; (case hd => rfl); (case hg => rfl); (case hr => first | (go_simp; done) | (go_simp; rfl)); (case hp => exact (Reps.one (show Kd.FK (Kd.slice 5 (Kd.int .u8)) _ _ [] [.slice none 0 0] from (FK_slice_mk (Nat.le_refl _) (F_nil _ _ _))) (Reps.one (show Kd.FK (Kd.slice 5 (Kd.int .u8)) _ _ y359 [.slice Ao110 y359.length co110] from (FK_slice_mk (R_reads' (R_mono (ok' := (fun k_ => some k_ ≠ (.slice Ao55 y336.length co55 : Value).ownBlock ∧ some k_ ≠ (.slice (some ad355) xq.length co80 : Value).ownBlock ∧ some k_ ≠ (.slice Ao89 y346.length co89 : Value).ownBlock ∧ some k_ ≠ (.slice Ao100 y356.length co100 : Value).ownBlock ∧ k_ ≠ ga ∧ k_ ≠ gb ∧ k_ ≠ gc)) (R_types (R_types (R_types (R_apart' (R_apart' (R_apart' (R_apart' (HO361.out) (R_typed Ga.out) (by decide)) (R_typed Gb.out) (by decide)) (R_typed HO348.out) (by decide)) (R_typed HO358.out) (by decide)) Ka.out (by decide)) Kb.out (by decide)) Kc.out (by decide)) (fun k_ hk => ⟨hk.1.1.1.1.1.1.2, ⟨hk.1.1.1.1.1.2, ⟨hk.1.1.1.1.2, ⟨hk.1.1.1.2, ⟨hk.1.1.2, ⟨hk.1.2, hk.2⟩⟩⟩⟩⟩⟩))).2.1 (R_F (R_mono (ok' := (fun k_ => some k_ ≠ (.slice Ao55 y336.length co55 : Value).ownBlock ∧ some k_ ≠ (.slice (some ad355) xq.length co80 : Value).ownBlock ∧ some k_ ≠ (.slice Ao89 y346.length co89 : Value).ownBlock ∧ some k_ ≠ (.slice Ao100 y356.length co100 : Value).ownBlock ∧ k_ ≠ ga ∧ k_ ≠ gb ∧ k_ ≠ gc)) (R_types (R_types (R_types (R_apart' (R_apart' (R_apart' (R_apart' (HO361.out) (R_typed Ga.out) (by decide)) (R_typed Gb.out) (by decide)) (R_typed HO348.out) (by decide)) (R_typed HO358.out) (by decide)) Ka.out (by decide)) Kb.out (by decide)) Kc.out (by decide)) (fun k_ hk => ⟨hk.1.1.1.1.1.1.2, ⟨hk.1.1.1.1.1.2, ⟨hk.1.1.1.1.2, ⟨hk.1.1.1.2, ⟨hk.1.1.2, ⟨hk.1.2, hk.2⟩⟩⟩⟩⟩⟩))))) (Reps.one (show Kd.FK (Kd.slice 5 (Kd.int .u8)) _ _ y362 [.slice Ao111 y362.length co111] from (FK_slice_mk (R_reads' (R_mono (ok' := (fun k_ => some k_ ≠ (.slice Ao55 y336.length co55 : Value).ownBlock ∧ some k_ ≠ (.slice (some ad355) xq.length co80 : Value).ownBlock ∧ some k_ ≠ (.slice Ao89 y346.length co89 : Value).ownBlock ∧ some k_ ≠ (.slice Ao100 y356.length co100 : Value).ownBlock ∧ k_ ≠ ga ∧ k_ ≠ gb ∧ k_ ≠ gc)) (R_types (R_types (R_types (R_apart' (R_apart' (R_apart' (R_apart' (HO364.out) (R_typed Ga.out) (by decide)) (R_typed Gb.out) (by decide)) (R_typed HO348.out) (by decide)) (R_typed HO358.out) (by decide)) Ka.out (by decide)) Kb.out (by decide)) Kc.out (by decide)) (fun k_ hk => ⟨hk.1.1.1.1.1.1.2, ⟨hk.1.1.1.1.1.2, ⟨hk.1.1.1.1.2, ⟨hk.1.1.1.2, ⟨hk.1.1.2, ⟨hk.1.2, hk.2⟩⟩⟩⟩⟩⟩))).2.1 (R_F (R_mono (ok' := (fun k_ => some k_ ≠ (.slice Ao55 y336.length co55 : Value).ownBlock ∧ some k_ ≠ (.slice (some ad355) xq.length co80 : Value).ownBlock ∧ some k_ ≠ (.slice Ao89 y346.length co89 : Value).ownBlock ∧ some k_ ≠ (.slice Ao100 y356.length co100 : Value).ownBlock ∧ k_ ≠ ga ∧ k_ ≠ gb ∧ k_ ≠ gc)) (R_types (R_types (R_types (R_apart' (R_apart' (R_apart' (R_apart' (HO364.out) (R_typed Ga.out) (by decide)) (R_typed Gb.out) (by decide)) (R_typed HO348.out) (by decide)) (R_typed HO358.out) (by decide)) Ka.out (by decide)) Kb.out (by decide)) Kc.out (by decide)) (fun k_ hk => ⟨hk.1.1.1.1.1.1.2, ⟨hk.1.1.1.1.1.2, ⟨hk.1.1.1.1.2, ⟨hk.1.1.1.2, ⟨hk.1.1.2, ⟨hk.1.2, hk.2⟩⟩⟩⟩⟩⟩))))) (Reps.one (show Kd.FK (Kd.slice 5 (Kd.int .u8)) _ _ y365 [.slice Ao112 y365.length co112] from (FK_slice_mk (R_reads' (R_mono (ok' := (fun k_ => some k_ ≠ (.slice Ao55 y336.length co55 : Value).ownBlock ∧ some k_ ≠ (.slice (some ad355) xq.length co80 : Value).ownBlock ∧ some k_ ≠ (.slice Ao89 y346.length co89 : Value).ownBlock ∧ some k_ ≠ (.slice Ao100 y356.length co100 : Value).ownBlock ∧ k_ ≠ ga ∧ k_ ≠ gb ∧ k_ ≠ gc)) (R_types (R_types (R_types (R_apart' (R_apart' (R_apart' (R_apart' (HO367.out) (R_typed Ga.out) (by decide)) (R_typed Gb.out) (by decide)) (R_typed HO348.out) (by decide)) (R_typed HO358.out) (by decide)) Ka.out (by decide)) Kb.out (by decide)) Kc.out (by decide)) (fun k_ hk => ⟨hk.1.1.1.1.1.1.2, ⟨hk.1.1.1.1.1.2, ⟨hk.1.1.1.1.2, ⟨hk.1.1.1.2, ⟨hk.1.1.2, ⟨hk.1.2, hk.2⟩⟩⟩⟩⟩⟩))).2.1 (R_F (R_mono (ok' := (fun k_ => some k_ ≠ (.slice Ao55 y336.length co55 : Value).ownBlock ∧ some k_ ≠ (.slice (some ad355) xq.length co80 : Value).ownBlock ∧ some k_ ≠ (.slice Ao89 y346.length co89 : Value).ownBlock ∧ some k_ ≠ (.slice Ao100 y356.length co100 : Value).ownBlock ∧ k_ ≠ ga ∧ k_ ≠ gb ∧ k_ ≠ gc)) (R_types (R_types (R_types (R_apart' (R_apart' (R_apart' (R_apart' (HO367.out) (R_typed Ga.out) (by decide)) (R_typed Gb.out) (by decide)) (R_typed HO348.out) (by decide)) (R_typed HO358.out) (by decide)) Ka.out (by decide)) Kb.out (by decide)) Kc.out (by decide)) (fun k_ hk => ⟨hk.1.1.1.1.1.1.2, ⟨hk.1.1.1.1.1.2, ⟨hk.1.1.1.1.2, ⟨hk.1.1.1.2, ⟨hk.1.1.2, ⟨hk.1.2, hk.2⟩⟩⟩⟩⟩⟩))))) (Reps.one (show Kd.FK (Kd.slice 5 (Kd.int .u8)) _ _ y368 [.slice Ao113 y368.length co113] from (FK_slice_mk (R_reads' (R_mono (ok' := (fun k_ => some k_ ≠ (.slice Ao55 y336.length co55 : Value).ownBlock ∧ some k_ ≠ (.slice (some ad355) xq.length co80 : Value).ownBlock ∧ some k_ ≠ (.slice Ao89 y346.length co89 : Value).ownBlock ∧ some k_ ≠ (.slice Ao100 y356.length co100 : Value).ownBlock ∧ k_ ≠ ga ∧ k_ ≠ gb ∧ k_ ≠ gc)) (R_types (R_types (R_types (R_apart' (R_apart' (R_apart' (R_apart' (HO370.out) (R_typed Ga.out) (by decide)) (R_typed Gb.out) (by decide)) (R_typed HO348.out) (by decide)) (R_typed HO358.out) (by decide)) Ka.out (by decide)) Kb.out (by decide)) Kc.out (by decide)) (fun k_ hk => ⟨hk.1.1.1.1.1.1.2, ⟨hk.1.1.1.1.1.2, ⟨hk.1.1.1.1.2, ⟨hk.1.1.1.2, ⟨hk.1.1.2, ⟨hk.1.2, hk.2⟩⟩⟩⟩⟩⟩))).2.1 (R_F (R_mono (ok' := (fun k_ => some k_ ≠ (.slice Ao55 y336.length co55 : Value).ownBlock ∧ some k_ ≠ (.slice (some ad355) xq.length co80 : Value).ownBlock ∧ some k_ ≠ (.slice Ao89 y346.length co89 : Value).ownBlock ∧ some k_ ≠ (.slice Ao100 y356.length co100 : Value).ownBlock ∧ k_ ≠ ga ∧ k_ ≠ gb ∧ k_ ≠ gc)) (R_types (R_types (R_types (R_apart' (R_apart' (R_apart' (R_apart' (HO370.out) (R_typed Ga.out) (by decide)) (R_typed Gb.out) (by decide)) (R_typed HO348.out) (by decide)) (R_typed HO358.out) (by decide)) Ka.out (by decide)) Kb.out (by decide)) Kc.out (by decide)) (fun k_ hk => ⟨hk.1.1.1.1.1.1.2, ⟨hk.1.1.1.1.1.2, ⟨hk.1.1.1.1.2, ⟨hk.1.1.1.2, ⟨hk.1.1.2, ⟨hk.1.2, hk.2⟩⟩⟩⟩⟩⟩))))) (Reps.none _ _))))))); intro v372 w114 ho115 hb hg_ hnew_; clear hg_ hnew_; (first | rw [← Ny371.out] at ho115 | (simp only [Int.reduceToNat] at ho115; rw [← Ny371.out] at ho115)); replace Ga := kAs (R_below (ra_ Ga.out) hb); replace Gb := kAs (R_below (ra_ Gb.out) hb); replace HO348 := kAs (R_below (ra_ HO348.out) hb); replace HO358 := kAs (R_below (ra_ HO358.out) hb); have HO373 := kAs (N_lower ho115 (below_size (by repeat (first | (with_reducible first | exact HB.out | apply below_alloc | apply pw_below_drewN | apply below_drew1 | refine below_set ?_ Ea.out | refine below_set ?_ Eb.out | refine below_set ?_ Ec.out) | exact HB.out)))); replace Ka := kAs (blk_below (g := ga) (o := .cells #[.int .i64 1, .int .i64 0, .int .i64 0, .slice Ao55 y336.length co55, .slice (some ad355) xq.length co80] 25 (0, 0)) (by (with_reducible repeat first | refine blk_drewN ?_ _ | refine blk_drew ?_ | refine blk_alloc ?_ _); exact Ka.out) hb); replace Kb := kAs (blk_below (g := gb) (o := .cells #[.int .i64 1, .int .i64 0, .int .i64 0, .slice Ao89 y346.length co89, .slice (some ad355) xq.length co80] 25 (0, 0)) (by (with_reducible repeat first | refine blk_drewN ?_ _ | refine blk_drew ?_ | refine blk_alloc ?_ _); exact Kb.out) hb); replace Kc := kAs (blk_below (g := gc) (o := .cells #[.int .i64 1, .int .i64 0, .int .i64 0, .slice Ao55 y336.length co55, .slice Ao100 y356.length co100] 25 (0, 0)) (by (with_reducible repeat first | refine blk_drewN ?_ _ | refine blk_drew ?_ | refine blk_alloc ?_ _); exact Kc.out) hb); replace HB := kAs (below_step (by repeat (first | (with_reducible first | exact HB.out | apply below_alloc | apply pw_below_drewN | apply below_drew1 | refine below_set ?_ Ea.out | refine below_set ?_ Eb.out | refine below_set ?_ Ec.out) | exact HB.out)) hb); clear HO361 HO364 HO367 HO370; clear hb ho115))
             go_loopg [12] k2 (fun kq v12 w' => ∃ (x12_3 : Int), v12 = .int .i64 x12_3 ∧ Aside0 (drayagelaw20_JournalKnown.l4 kq y371 x12_3 = some r) ∧ Aside0 (kq ≤ k2) ∧ Aside0 (Kd.N (Kd.slice 5 (Kd.int .u8)) 26 w' w.heap.size (fun k_ => some k_ ≠ ((.slice Ao55 y336.length co55) : Value).ownBlock ∧ some k_ ≠ ((.slice (some ad355) xq.length co80) : Value).ownBlock ∧ some k_ ≠ ((.slice Ao89 y346.length co89) : Value).ownBlock ∧ some k_ ≠ ((.slice (some ad355) xq.length co80) : Value).ownBlock ∧ some k_ ≠ ((.slice Ao55 y336.length co55) : Value).ownBlock ∧ some k_ ≠ ((.slice Ao100 y356.length co100) : Value).ownBlock ∧ k_ ≠ ga ∧ k_ ≠ gb ∧ k_ ≠ gc) v372 y371) ∧ Aside0 (Kd.R (Kd.int .i64) 3 w' w.heap.size (fun k_ => some k_ ≠ ((.slice Ao89 y346.length co89) : Value).ownBlock) (.slice Ao55 y336.length co55) y336) ∧ Aside0 (Kd.R k49 49 w' w.heap.size (fun k_ => some k_ ≠ ((.slice Ao100 y356.length co100) : Value).ownBlock) (.slice (some ad355) xq.length co80) xq) ∧ Aside0 (Kd.R (Kd.int .i64) 3 w' w.heap.size (fun k_ => some k_ ≠ ((.slice Ao55 y336.length co55) : Value).ownBlock ∧ some k_ ≠ ((.slice Ao55 y336.length co55) : Value).ownBlock) (.slice Ao89 y346.length co89) y346) ∧ Aside0 (Kd.R k49 49 w' w.heap.size (fun k_ => some k_ ≠ ((.slice Ao100 y356.length co100) : Value).ownBlock) (.slice (some ad355) xq.length co80) xq) ∧ Aside0 (Kd.R (Kd.int .i64) 3 w' w.heap.size (fun k_ => some k_ ≠ ((.slice Ao89 y346.length co89) : Value).ownBlock) (.slice Ao55 y336.length co55) y336) ∧ Aside0 (Kd.R k49 49 w' w.heap.size (fun k_ => some k_ ≠ ((.slice (some ad355) xq.length co80) : Value).ownBlock ∧ some k_ ≠ ((.slice (some ad355) xq.length co80) : Value).ownBlock) (.slice Ao100 y356.length co100) y356) ∧ Aside0 (w'.heap[ga]? = some (.cells #[.int .i64 1, .int .i64 0, .int .i64 0, (.slice Ao55 y336.length co55), (.slice (some ad355) xq.length co80)] 25 (0, 0))) ∧ Aside0 (w'.heap[gb]? = some (.cells #[.int .i64 1, .int .i64 0, .int .i64 0, (.slice Ao89 y346.length co89), (.slice (some ad355) xq.length co80)] 25 (0, 0))) ∧ Aside0 (w'.heap[gc]? = some (.cells #[.int .i64 1, .int .i64 0, .int .i64 0, (.slice Ao55 y336.length co55), (.slice Ao100 y356.length co100)] 25 (0, 0))) ∧ Aside0 (Below w.heap.size w w'))
             case atStart => exact ⟨(0), fs_, H', ⟨Nat.le_refl _⟩, ⟨by (with_reducible repeat first | apply N_alloc | apply N_drewN | apply N_drew); exact N_mono HO373.out (fun _ hk => ⟨hk.1, ⟨hk.2.1, ⟨hk.2.2.1, ⟨hk.2.1, ⟨hk.1, ⟨hk.2.2.2.1, ⟨hk.2.2.2.2.1, ⟨hk.2.2.2.2.2.1, hk.2.2.2.2.2.2⟩⟩⟩⟩⟩⟩⟩⟩)⟩, ⟨by (with_reducible repeat first | apply R_alloc | apply R_drewN | apply R_drew); exact R_mono Ga.out (fun _ hk => hk.2)⟩, ⟨by (with_reducible repeat first | apply R_alloc | apply R_drewN | apply R_drew); exact R_mono Gb.out (fun _ hk => hk.2)⟩, ⟨by (with_reducible repeat first | apply R_alloc | apply R_drewN | apply R_drew); exact R_mono HO348.out (fun _ hk => ⟨hk.2, hk.2⟩)⟩, ⟨by (with_reducible repeat first | apply R_alloc | apply R_drewN | apply R_drew); exact R_mono Gb.out (fun _ hk => hk.2)⟩, ⟨by (with_reducible repeat first | apply R_alloc | apply R_drewN | apply R_drew); exact R_mono Ga.out (fun _ hk => hk.2)⟩, ⟨by (with_reducible repeat first | apply R_alloc | apply R_drewN | apply R_drew); exact R_mono HO358.out (fun _ hk => ⟨hk, hk⟩)⟩, ⟨by (with_reducible repeat first | refine blk_drewN ?_ _ | refine blk_drew ?_ | refine blk_alloc ?_ _); exact Ka.out⟩, ⟨by (with_reducible repeat first | refine blk_drewN ?_ _ | refine blk_drew ?_ | refine blk_alloc ?_ _); exact Kb.out⟩, ⟨by (with_reducible repeat first | refine blk_drewN ?_ _ | refine blk_drew ?_ | refine blk_alloc ?_ _); exact Kc.out⟩, ⟨by repeat (first | (with_reducible first | exact HB.out | apply below_alloc | apply pw_below_drewN | apply below_drew1 | refine below_set ?_ Ea.out | refine below_set ?_ Eb.out | refine below_set ?_ Ec.out) | exact HB.out)⟩⟩
             case round =>
              clear H'
              (try clear p2); (try clear p3); (try clear q3); (try clear hx3); (try clear qi3); (try clear c4); (try clear c6); (try clear p6); (try clear q6); (try clear hx6); (try clear hf6); (try clear c7); (try clear c9); (try clear p35); (try clear q35); (try clear hx35); (try clear qi35); (try clear c42); (try clear c42b0); (try clear c42b1); (try clear c43); (try clear c43b0); (try clear c43b1); (try clear c61); (try clear c61b0); (try clear c62); (try clear c62b0); (try clear c63); (try clear c63b0); (try clear c64); (try clear p64); (try clear q64); (try clear hx64); (try clear hf64); (try clear c66); (try clear hx66); (try clear hf66); (try clear c68); (try clear c68b0); (try clear c68b1); (try clear c69); (try clear c70); (try clear c70b0); (try clear c70b1); (try clear c71); (try clear c90); (try clear c91); (try clear c95); (try clear hcz101_0); (try clear hcz101_1)
              (try clear hcz101_2); (try clear hcz101_3); (try clear hcz101_4); (try clear hcz65_0); (try clear hcz65_1); (try clear hcz65_2); (try clear hcz65_3); (try clear hcz65_4); (try clear hcz92_0); (try clear hcz92_1); (try clear hcz92_2); (try clear hcz92_3); (try clear hcz92_4); (try clear hcz96_0); (try clear hcz96_1); (try clear hcz96_2); (try clear hcz96_3); (try clear hcz96_4); (try clear hcz98_0); (try clear hcz98_1); (try clear hcz98_2); (try clear hcz98_3); (try clear hcz98_4); (try clear hfz101_0); (try clear hfz101_1); (try clear hfz101_2); (try clear hfz101_3); (try clear hfz101_4); (try clear hfz65_0); (try clear hfz65_1); (try clear hfz65_2); (try clear hfz65_3); (try clear hfz65_4); (try clear hfz92_0); (try clear hfz92_1); (try clear hfz92_2); (try clear hfz92_3); (try clear hfz92_4); (try clear hfz96_0); (try clear hfz96_1); (try clear hfz96_2); (try clear hfz96_3)
              (try clear hfz96_4); (try clear hfz98_0); (try clear hfz98_1); (try clear hfz98_2); (try clear hfz98_3); (try clear hfz98_4); (try clear hx355_0); (try clear hx355_1); (try clear hx355_2); (try clear hx64_0); (try clear hx64_1); (try clear hx64_2); (try clear hx66_0); (try clear hx66_1); (try clear hx66_2); (try clear p2); (try clear p355); (try clear p64); (try clear q355); (try clear q64)
              obtain ⟨x12_3, rfl, HA, HK3, HO_11, Ga, Gb, Gc, Gd, Ge, Gf, Ka, Kb, Kc, HB⟩ := hrel
              cases gk with
              | zero => exact absurd HA.out (by simp [drayagelaw20_JournalKnown.l4])
              | succ k3 =>
               have H := HA.out
               clear HA
               simp only [drayagelaw20_JournalKnown.l4] at H
               by_cases c116 : x12_3 < (y371.length : Int)
               ·rw [if_pos c116] at H
                have c116b0 : decide (x12_3 < (y371.length : Int)) = true := decide_eq_true c116
                clear c116
                by_cases c117 : 0 ≤ x12_3
                ·rw [if_pos c117] at H
                 have c117b0 : decide (0 ≤ x12_3) = true := decide_eq_true c117
                 clear c117
                 replace H := Option.bind_eq_some_iff.mp H
                 obtain ⟨t375, A1180, H⟩ := H
                 try dsimp only at H
                 have A118 := kAs A1180
                 clear A1180
                 by_cases c119 : t375 = true
                 ·subst c119
                  rw [if_pos rfl] at H
                  by_cases c120 : ((rd_L6 y371 x12_3).length : Int) > 6
                  ·rw [if_pos c120] at H
                   have c120b0 : decide (6 < ((rd_L6 y371 x12_3).length : Int)) = true := decide_eq_true c120
                   have c120b1 : decide (6 < (rd_L6 y371 x12_3).length) = true := decide_eq_true (by omega)
                   clear c120
                   obtain ⟨ji121, hji121⟩ : ∃ j_ : Int, (wrap64 (((rd_L6 y371 x12_3).length : Int) - 2)) = j_ := ⟨_, rfl⟩
                   replace H : (if 0 ≤ (ji121) then (if (ji121) ≤ ((rd_L6 y371 x12_3).length : Int) then ((some ((rd_L6 y371 x12_3).take ((ji121) : Int).toNat : List Int)).bind fun y379 => ((drayageref20_Sum.f k3 y379).bind fun t384 => ((drayageref00_CopyBytes.f y379).bind fun t385 => ((some (([(t384 / 256) % 256, (t384) % 256] : List Int) : List Int)).bind fun y388 => (if t385.length + y388.length < 140737488355328 then ((kn_Reads.f (t385 ++ y388)).bind fun t394 => (if t394 = true then (drayagelaw20_JournalKnown.l4 k3 y371 (wrap64 (x12_3 + 1))) else (some false))) else (none)))))) else (none)) else (none)) = some r := by first | (rw [hji121] at H; exact H) | (simp only [hji121] at H ⊢; exact H)
                   (try rw [hji121] at A118)
                   have hji121w : (IntKind.i64.wrap (((rd_L6 y371 x12_3).length : Int) - 2)) = ji121 := (i64_w _).trans hji121
                   by_cases c122 : 0 ≤ (ji121)
                   ·rw [if_pos c122] at H
                    have c122b0 := eq_true c122
                    have c122b1 : decide (0 ≤ (ji121)) = true := decide_eq_true c122
                    clear c122
                    by_cases c123 : (ji121) ≤ ((rd_L6 y371 x12_3).length : Int)
                    ·rw [if_pos c123] at H
                     have c123b0 := eq_true c123
                     have c123b1 : decide ((ji121) ≤ ((rd_L6 y371 x12_3).length : Int)) = true := decide_eq_true c123
                     clear c123
                     obtain ⟨y379, hy379⟩ : ∃ y_ : List Int, y_ = ((rd_L6 y371 x12_3).take ((ji121) : Int).toNat) := ⟨_, rfl⟩
                     replace H : ((drayageref20_Sum.f k3 y379).bind fun t384 => ((drayageref00_CopyBytes.f y379).bind fun t385 => ((some (([(t384 / 256) % 256, (t384) % 256] : List Int) : List Int)).bind fun y388 => (if t385.length + y388.length < 140737488355328 then ((kn_Reads.f (t385 ++ y388)).bind fun t394 => (if t394 = true then (drayagelaw20_JournalKnown.l4 k3 y371 (wrap64 (x12_3 + 1))) else (some false))) else (none))))) = some r := by first | (rw [hy379]; with_reducible exact H) | (have H2_ := (Option.bind_some _ _).symm.trans H; rw [hy379]; with_reducible exact H2_) | (have H2_ := (Option.bind_some _ _).symm.trans H; with_reducible exact H2_) | with_reducible exact H | (rw [hy379]; exact H) | exact H
                     have Ny379 := kAs hy379
                     clear hy379
                     replace H := Option.bind_eq_some_iff.mp H
                     obtain ⟨t384, A1240, H⟩ := H
                     try dsimp only at H
                     have A124 := kAs A1240
                     clear A1240
                     replace H := Option.bind_eq_some_iff.mp H
                     obtain ⟨t385, A1250, H⟩ := H
                     try dsimp only at H
                     have A125 := kAs A1250
                     clear A1250
                     obtain ⟨y388, hy388⟩ : ∃ y_ : List Int, y_ = (([(t384 / 256) % 256, (t384) % 256] : List Int)) := ⟨_, rfl⟩
                     replace H : (if t385.length + y388.length < 140737488355328 then ((kn_Reads.f (t385 ++ y388)).bind fun t394 => (if t394 = true then (drayagelaw20_JournalKnown.l4 k3 y371 (wrap64 (x12_3 + 1))) else (some false))) else (none)) = some r := by first | (rw [hy388]; with_reducible exact H) | (have H2_ := (Option.bind_some _ _).symm.trans H; rw [hy388]; with_reducible exact H2_) | (have H2_ := (Option.bind_some _ _).symm.trans H; with_reducible exact H2_) | with_reducible exact H | (rw [hy388]; exact H) | exact H
                     have Ny388 := kAs hy388
                     clear hy388
                     by_cases c126 : t385.length + y388.length < 140737488355328
                     ·rw [if_pos c126] at H
                      have LMc126 := kAs c126
                      clear c126
                      obtain ⟨y391, hy391⟩ : ∃ y_ : List Int, y_ = (t385 ++ y388) := ⟨_, rfl⟩
                      replace H : ((kn_Reads.f y391).bind fun t394 => (if t394 = true then (drayagelaw20_JournalKnown.l4 k3 y371 (wrap64 (x12_3 + 1))) else (some false))) = some r := by first | (rw [hy391]; with_reducible exact H) | (have H2_ := (Option.bind_some _ _).symm.trans H; rw [hy391]; with_reducible exact H2_) | (have H2_ := (Option.bind_some _ _).symm.trans H; with_reducible exact H2_) | with_reducible exact H | (rw [hy391]; exact H) | exact H
                      have Ny391 := kAs hy391
                      clear hy391
                      replace H := Option.bind_eq_some_iff.mp H
                      obtain ⟨t394, A1270, H⟩ := H
                      try dsimp only at H
                      have A127 := kAs A1270
                      clear A1270
                      by_cases c128 : t394 = true
                      ·subst c128
                       rw [if_pos rfl] at H
                       have H' := kAs H
                       clear H
                       obtain ⟨Ao129, co129, eo129⟩ := N_slice HO_11.out
                       subst eo129
                       have p374 : 0 ≤ (x12_3 : Int) := of_decide_eq_true (by first | (with_reducible assumption) | assumption)
                       have q374 : x12_3 < (y371.length : Int) := of_decide_eq_true (by first | (with_reducible assumption) | assumption)
                       obtain ⟨ad374, A374_0, c374_0, e374, hx374_0, hl374_0, hi374_0⟩ := at_L6 (N_reads' HO_11.out).2.2 x12_3 p374 q374
                       cases e374
                       obtain ⟨ce374, hce374, hMe374, hcc374⟩ := N_get HO_11.out [] x12_3 p374 (by first | exact q374 | exact of_decide_eq_true (by first | (with_reducible assumption) | assumption) | (have e_ := (N_reads' HO_11.out).1; omega))
                       obtain ⟨ua374_0, uc374_0, rfl, ul374_0, ge374_0⟩ := FK_slice_open hMe374
                       have hv374_0 := hcc374 0 _ rfl
                       rw [Nat.add_zero, show ((Kd.slice 5 (Kd.int .u8))).sz = 1 from rfl, Nat.mul_one] at hv374_0
                       replace hv374_0 := Option.some.inj (hv374_0.symm.trans hx374_0)
                       injection hv374_0 with hva_ hvn_ hvc_
                       rw [hva_] at ge374_0
                       rw [hvc_] at ul374_0
                       have HL374_0 := kAs (show Kd.V (Kd.int .u8) 5 _ w.heap.size _ _ (rd_L6 y371 x12_3) from V_mk ul374_0 ge374_0)
                       clear hva_ hvn_ hvc_ ge374_0 ul374_0
                       clear hcc374 hce374
                       have HR374_0 := kAs hi374_0
                       have HC374_0 := kAs hl374_0
                       clear hi374_0 hl374_0
                       replace p374 := eq_true p374
                       replace q374 := eq_true q374
                       try go_wp2_with (first | ((with_reducible refine gate_callee (f := 4) rfl ?_); refine goesL_ (some 126) rfl rfl Try.func4 (by kernel_rfl) rfl #[.slice A374_0 (rd_L6 y371 x12_3).length c374_0] rfl ca_ ?_; (with_reducible refine (kn_Reads.calls _ _ (rd_L6 y371 x12_3) true _ ?side1 ?side2 A118.out).mono ?_); (case side1 => repeat (first | exact (by repeat (first | (with_reducible exact HR374_0.out) | (with_reducible refine C_alloc ?_ _) | (with_reducible refine C_drewN ?_ _) | (with_reducible refine C_drew ?_) | exact HR374_0.out)) | (with_reducible refine C_alloc ?_ _) | (with_reducible refine C_drewN ?_ _) | (with_reducible refine C_drew ?_))); (case side2 => exact HC374_0.out); rintro e w130 ⟨rfl, hb⟩; refine ⟨_, rfl, ?_⟩; replace HO_11 := kAs (N_below (by (with_reducible repeat first | apply N_alloc | apply N_drewN | apply N_drew); exact HO_11.out) hb); replace Ga := kAs (R_below (ra_ Ga.out) hb); replace Gb := kAs (R_below (ra_ Gb.out) hb); replace Gc := kAs (R_below (ra_ Gc.out) hb); replace Gd := kAs (R_below (ra_ Gd.out) hb); replace Ge := kAs (R_below (ra_ Ge.out) hb); replace Gf := kAs (R_below (ra_ Gf.out) hb); replace HL374_0 := kAs (V_below (by (with_reducible repeat first | apply V_alloc | apply V_drewN | apply V_drew); exact HL374_0.out) hb); replace Ka := kAs (blk_below (g := ga) (o := .cells #[.int .i64 1, .int .i64 0, .int .i64 0, .slice Ao55 y336.length co55, .slice (some ad355) xq.length co80] 25 (0, 0)) (by (with_reducible repeat first | refine blk_drewN ?_ _ | refine blk_drew ?_ | refine blk_alloc ?_ _); exact Ka.out) hb); replace Kb := kAs (blk_below (g := gb) (o := .cells #[.int .i64 1, .int .i64 0, .int .i64 0, .slice Ao89 y346.length co89, .slice (some ad355) xq.length co80] 25 (0, 0)) (by (with_reducible repeat first | refine blk_drewN ?_ _ | refine blk_drew ?_ | refine blk_alloc ?_ _); exact Kb.out) hb); replace Kc := kAs (blk_below (g := gc) (o := .cells #[.int .i64 1, .int .i64 0, .int .i64 0, .slice Ao55 y336.length co55, .slice Ao100 y356.length co100] 25 (0, 0)) (by (with_reducible repeat first | refine blk_drewN ?_ _ | refine blk_drew ?_ | refine blk_alloc ?_ _); exact Kc.out) hb); replace HR374_0 := kAs (C_below (by repeat (first | (with_reducible exact HR374_0.out) | (with_reducible refine C_alloc ?_ _) | (with_reducible refine C_drewN ?_ _) | (with_reducible refine C_drew ?_) | exact HR374_0.out)) hb); replace HB := kAs (below_step (by repeat (first | (with_reducible first | exact HB.out | apply below_alloc | apply pw_below_drewN | apply below_drew1 | refine below_set ?_ Ea.out | refine below_set ?_ Eb.out | refine below_set ?_ Ec.out) | exact HB.out)) hb); (try clear hb); (try clear hb2); (try clear hk); (try clear hi); have p376 : 0 ≤ (x12_3 : Int) := of_decide_eq_true (by first | (with_reducible assumption) | assumption); have q376 : x12_3 < (y371.length : Int) := of_decide_eq_true (by first | (with_reducible assumption) | assumption); obtain ⟨ad376, A376_0, c376_0, e376, hx376_0, hl376_0, hi376_0⟩ := at_L6 (N_reads' HO_11.out).2.2 x12_3 p376 q376; obtain rfl : ad374 = ad376 := (by injection e376); obtain ⟨ce376, hce376, hMe376, hcc376⟩ := N_get HO_11.out [] x12_3 p376 (by first | exact q376 | exact of_decide_eq_true (by first | (with_reducible assumption) | assumption) | (have e_ := (N_reads' HO_11.out).1; omega)); obtain ⟨ua376_0, uc376_0, rfl, ul376_0, ge376_0⟩ := FK_slice_open hMe376; have hv376_0 := hcc376 0 _ rfl; rw [Nat.add_zero, show ((Kd.slice 5 (Kd.int .u8))).sz = 1 from rfl, Nat.mul_one] at hv376_0; replace hv376_0 := Option.some.inj (hv376_0.symm.trans hx376_0); injection hv376_0 with hva_ hvn_ hvc_; rw [hva_] at ge376_0; rw [hvc_] at ul376_0; have HL376_0 := kAs (show Kd.V (Kd.int .u8) 5 _ w.heap.size _ _ (rd_L6 y371 x12_3) from V_mk ul376_0 ge376_0); clear hva_ hvn_ hvc_ ge376_0 ul376_0; clear hcc376 hce376; have HR376_0 := kAs hi376_0; have HC376_0 := kAs hl376_0; clear hi376_0 hl376_0; replace p376 := eq_true p376; replace q376 := eq_true q376))
                       replace HO_11 := kAs (N_drew HO_11.out)
                       replace Ga := kAs (R_drew Ga.out)
                       replace Gb := kAs (R_drew Gb.out)
                       replace Gc := kAs (R_drew Gc.out)
                       replace Gd := kAs (R_drew Gd.out)
                       replace Ge := kAs (R_drew Ge.out)
                       replace Gf := kAs (R_drew Gf.out)
                       replace HL374_0 := kAs (V_drew HL374_0.out)
                       replace HL376_0 := kAs (V_drew HL376_0.out)
                       replace Ka := kAs (blk_drew Ka.out)
                       replace Kb := kAs (blk_drew Kb.out)
                       replace Kc := kAs (blk_drew Kc.out)
                       replace HR374_0 := kAs (C_drew HR374_0.out)
                       replace HR376_0 := kAs (C_drew HR376_0.out)
                       replace HB := kAs (below_drew1 HB.out)
                       have p377 : 0 ≤ (x12_3 : Int) := of_decide_eq_true (by first | (with_reducible assumption) | assumption)
                       have q377 : x12_3 < (y371.length : Int) := of_decide_eq_true (by first | (with_reducible assumption) | assumption)
                       obtain ⟨ad377, A377_0, c377_0, e377, hx377_0, hl377_0, hi377_0⟩ := at_L6 (N_reads' HO_11.out).2.2 x12_3 p377 q377
                       obtain rfl : ad374 = ad377 := (by injection e377)
                       obtain ⟨ce377, hce377, hMe377, hcc377⟩ := N_get HO_11.out [] x12_3 p377 (by first | exact q377 | exact of_decide_eq_true (by first | (with_reducible assumption) | assumption) | (have e_ := (N_reads' HO_11.out).1; omega))
                       obtain ⟨ua377_0, uc377_0, rfl, ul377_0, ge377_0⟩ := FK_slice_open hMe377
                       have hv377_0 := hcc377 0 _ rfl
                       rw [Nat.add_zero, show ((Kd.slice 5 (Kd.int .u8))).sz = 1 from rfl, Nat.mul_one] at hv377_0
                       replace hv377_0 := Option.some.inj (hv377_0.symm.trans hx377_0)
                       injection hv377_0 with hva_ hvn_ hvc_
                       rw [hva_] at ge377_0
                       rw [hvc_] at ul377_0
                       have HL377_0 := kAs (show Kd.V (Kd.int .u8) 5 _ w.heap.size _ _ (rd_L6 y371 x12_3) from V_mk ul377_0 ge377_0)
                       clear hva_ hvn_ hvc_ ge377_0 ul377_0
                       clear hcc377 hce377
                       have HR377_0 := kAs hi377_0
                       have HC377_0 := kAs hl377_0
                       clear hi377_0 hl377_0
                       replace p377 := eq_true p377
                       replace q377 := eq_true q377
                       have p378 : 0 ≤ (x12_3 : Int) := of_decide_eq_true (by first | (with_reducible assumption) | assumption)
                       have q378 : x12_3 < (y371.length : Int) := of_decide_eq_true (by first | (with_reducible assumption) | assumption)
                       obtain ⟨ad378, A378_0, c378_0, e378, hx378_0, hl378_0, hi378_0⟩ := at_L6 (N_reads' HO_11.out).2.2 x12_3 p378 q378
                       obtain rfl : ad374 = ad378 := (by injection e378)
                       obtain ⟨ce378, hce378, hMe378, hcc378⟩ := N_get HO_11.out [] x12_3 p378 (by first | exact q378 | exact of_decide_eq_true (by first | (with_reducible assumption) | assumption) | (have e_ := (N_reads' HO_11.out).1; omega))
                       obtain ⟨ua378_0, uc378_0, rfl, ul378_0, ge378_0⟩ := FK_slice_open hMe378
                       have hv378_0 := hcc378 0 _ rfl
                       rw [Nat.add_zero, show ((Kd.slice 5 (Kd.int .u8))).sz = 1 from rfl, Nat.mul_one] at hv378_0
                       replace hv378_0 := Option.some.inj (hv378_0.symm.trans hx378_0)
                       injection hv378_0 with hva_ hvn_ hvc_
                       rw [hva_] at ge378_0
                       rw [hvc_] at ul378_0
                       have HL378_0 := kAs (show Kd.V (Kd.int .u8) 5 _ w.heap.size _ _ (rd_L6 y371 x12_3) from V_mk ul378_0 ge378_0)
                       clear hva_ hvn_ hvc_ ge378_0 ul378_0
                       clear hcc378 hce378
                       have HR378_0 := kAs hi378_0
                       have HC378_0 := kAs hl378_0
                       clear hi378_0 hl378_0
                       replace p378 := eq_true p378
                       replace q378 := eq_true q378
                       have ea_ := Option.some.inj (hx377_0.symm.trans hx378_0)
                       injection ea_ with ea_ en_ ec_
                       subst ea_
                       subst ec_
                       clear en_
                       have q132 : ((ji121) : Int) ≤ (((rd_L6 y371 x12_3).length : Int) : Int) := of_decide_eq_true (by first | (with_reducible assumption) | assumption)
                       obtain ⟨i0132, hi0132, _, hsz132, _⟩ := info_parts info5
                       have hroom132 : (rd_L6 y371 x12_3).length ≤ c377_0 := HC377_0.out
                       have hC132 : Kd.F (Kd.int .u8) _ _ A377_0 (rd_L6 y371 x12_3).length (rd_L6 y371 x12_3) := (V_at (base := w.heap.size) HL377_0.out).2.2
                       have hcut132 := cut_to (P := Try.prog) 26 5 .i64 Try.underlying26 hi0132 A377_0 (rd_L6 y371 x12_3).length c377_0 (ji121) (of_decide_eq_true (by first | (with_reducible assumption) | assumption)) q132 hroom132
                       have hr132 := F_take (m := ((ji121) : Int).toNat) hC132 (by omega)
                       have hy132 : y379.length = ((ji121) : Int).toNat := (by rw [Ny379.out, List.length_take]; omega)
                       rw [← Ny379.out] at hr132
                       rw [← hy132] at hcut132
                       have HO383 := kAs (show Kd.V (Kd.int .u8) 5 _ w.heap.size _ (.slice A377_0 y379.length c377_0) y379 from V_mk (by omega) hr132)
                       have HC383 := kAs (show y379.length ≤ c377_0 from by omega)
                       clear hr132 hC132 hroom132 hi0132 hsz132
                       have KY132 := kAs hy132
                       clear hy132
                       replace q132 := eq_true q132
                       refine start_ (n := 12) (S := fun w' => w'.cell? (ad374.add (x12_3).toNat) = some (.slice A377_0 (rd_L6 y371 x12_3).length c377_0) ∧ w'.cell? (ad374.add (x12_3).toNat) = some (.slice A377_0 (rd_L6 y371 x12_3).length c377_0)) (ds := []) #[false, false, false, false, false, false, false, false, false, false, false, false] (by kernel_rfl) rfl rfl ⟨hx377_0, hx378_0⟩ (fun hHeld => ?_); refine with_tabW drayagelaw20_JournalKnown.tab30 drayagelaw20_JournalKnown.bits30 (fun HT_ HW_ => ?_)
                       generalize w130.drew = w131 at HO_11 Ga Gb Gc Gd Ge Gf HL374_0 HL376_0 Ka Kb Kc HR374_0 HR376_0 HB HL377_0 HL378_0 HO383 HR377_0 HR378_0 hx377_0 hx378_0 hHeld ⊢
                       refine pureS_ (i := 0) (N := some 134) (v := ?_) (a' := ?_) rfl rfl (any_of HT_.out (by kernel_rfl)) (fun _ _ _ h => h) (Or.inl ⟨by rfl, ?_⟩) ?_ ?_
                       rotate_left; (· intro w'; go_simp; with_reducible rfl); rotate_left; (· simp only [Act.put, List.setIfInBounds_toArray, List.set_cons_zero, List.set_cons_succ, i64_w, i32_w]; rfl)
                       refine pureS_ (i := 1) (N := some 135) (v := ?_) (a' := ?_) rfl rfl (any_of HT_.out (by kernel_rfl)) (fun _ _ _ h => h) (Or.inl ⟨by rfl, ?_⟩) ?_ ?_
                       rotate_left; (· intro w'; go_simp; with_reducible rfl); rotate_left; (· simp only [Act.put, List.setIfInBounds_toArray, List.set_cons_zero, List.set_cons_succ, i64_w, i32_w]; rfl)
                       refine pureS_ (i := 2) (N := some 136) (v := ?_) (a' := ?_) rfl rfl (any_of HT_.out (by kernel_rfl)) (fun _ _ _ h => h) (Or.inl ⟨by rfl, ?_⟩) ?_ ?_
                       rotate_left; (· intro w'; go_simp; with_reducible rfl); rotate_left; (· simp only [Act.put, List.setIfInBounds_toArray, List.set_cons_zero, List.set_cons_succ, i64_w, i32_w]; rfl)
                       refine pureS_ (i := 4) (N := some 138) (v := ?_) (a' := ?_) rfl rfl (any_of HT_.out (by kernel_rfl)) (fun _ _ _ h => h) (Or.inl ⟨by rfl, ?_⟩) ?_ ?_
                       rotate_left; (· intro w'; go_simp; with_reducible rfl); rotate_left; (· simp only [Act.put, List.setIfInBounds_toArray, List.set_cons_zero, List.set_cons_succ, i64_w, i32_w]; rfl)
                       refine pureS_ (i := 5) (N := some 139) (v := ?_) (a' := ?_) rfl rfl (any_of HT_.out (by kernel_rfl)) (fun _ _ _ h => h) (Or.inl ⟨by rfl, ?_⟩) ?_ ?_
                       rotate_left; (· intro w'; go_simp; with_reducible rfl); rotate_left; (· simp only [Act.put, List.setIfInBounds_toArray, List.set_cons_zero, List.set_cons_succ, i64_w, i32_w]; rfl)
                       refine pureS_ (i := 6) (N := some 140) (v := ?_) (a' := ?_) rfl rfl (any_of HT_.out (by kernel_rfl)) (fun _ _ _ h => h) (Or.inl ⟨by rfl, ?_⟩) ?_ ?_
                       rotate_left; (· intro w'; go_simp; with_reducible rfl); rotate_left; (· simp only [Act.put, List.setIfInBounds_toArray, List.set_cons_zero, List.set_cons_succ, i64_w, i32_w]; rfl)
                       refine takeS_ (i := 3) (N := some 137) (v := ?_) (a' := ?_) rfl rfl (take_ofW HT_.out HW_.out (by kernel_rfl)) (fun _ _ _ h => h) (Or.inl ⟨by rfl, ?_⟩) hHeld ?_ ?_
                       rotate_left; (· rintro w' ⟨s0, s1⟩; go_simp; with_reducible rfl); rotate_left; (· simp only [Act.put, List.setIfInBounds_toArray, List.set_cons_zero, List.set_cons_succ, i64_w, i32_w]; rfl)
                       refine takeS_ (i := 7) (N := some 141) (v := ?_) (a' := ?_) rfl rfl (take_ofW HT_.out HW_.out (by kernel_rfl)) (fun _ _ _ h => h) (Or.inl ⟨by rfl, ?_⟩) hHeld ?_ ?_
                       rotate_left; (· rintro w' ⟨s0, s1⟩; go_simp; with_reducible rfl); rotate_left; (· simp only [Act.put, List.setIfInBounds_toArray, List.set_cons_zero, List.set_cons_succ, i64_w, i32_w]; rfl)
                       refine pureS_ (i := 8) (N := some 142) (v := ?_) (a' := ?_) rfl rfl (any_of HT_.out (by kernel_rfl)) (fun _ _ _ h => h) (Or.inl ⟨by rfl, ?_⟩) ?_ ?_
                       rotate_left; (· intro w'; go_simp; with_reducible rfl); rotate_left; (· simp only [Act.put, List.setIfInBounds_toArray, List.set_cons_zero, List.set_cons_succ, i64_w, i32_w]; rfl)
                       refine pureS_ (i := 9) (N := some 143) (v := ?_) (a' := ?_) rfl rfl (any_of HT_.out (by kernel_rfl)) (fun _ _ _ h => h) (Or.inl ⟨by rfl, ?_⟩) ?_ ?_
                       rotate_left; (· intro w'; go_simp; with_reducible rfl); rotate_left; (· simp only [Act.put, List.setIfInBounds_toArray, List.set_cons_zero, List.set_cons_succ, i64_w, i32_w]; rfl)
                       refine pureS_ (i := 10) (N := some 144) (v := ?_) (a' := ?_) rfl rfl (any_of HT_.out (by kernel_rfl)) (fun _ _ _ h => h) (Or.inl ⟨by rfl, ?_⟩) ?_ ?_
                       rotate_left; (· intro w'; go_simp; with_reducible rfl); rotate_left; (· simp only [Act.put, List.setIfInBounds_toArray, List.set_cons_zero, List.set_cons_succ, i64_w, i32_w]; rfl)
                       refine pureS_ (i := 11) (N := some 13) (v := ?_) (a' := ?_) rfl rfl (any_of HT_.out (by kernel_rfl)) (fun _ _ _ h => h) (Or.inl ⟨by rfl, ?_⟩) ?_ ?_
                       rotate_left; (· intro w'; go_simp; with_reducible rfl); rotate_left; (· simp only [Act.put, List.setIfInBounds_toArray, List.set_cons_zero, List.set_cons_succ, i64_w, i32_w]; rfl)
                       refine done_ (done_of HT_.out (by kernel_rfl)) ?_
                       go_wp2_with fail
                       (with_reducible refine (drayageref20_Sum.calls k3 _ _ y379 t384 _ ?side1 ?side2 A124.out).mono ?_)
                       (case side1 => repeat (first | exact (V_reads' HO383.out).2.2 | (with_reducible refine C_alloc ?_ _) | (with_reducible refine C_drewN ?_ _) | (with_reducible refine C_drew ?_)))
                       (case side2 => exact (V_reads' HO383.out).2.1)
                       rintro e w' ⟨rfl, ⟨nd, rfl⟩⟩
                       go_wp2_with fail
                       (with_reducible refine (drayageref00_CopyBytes.calls _ _ y379 t385 _ ?side1 ?side2 A125.out).mono ?_)
                       (case side1 => repeat (first | exact (V_reads' HO383.out).2.2 | (with_reducible refine C_alloc ?_ _) | (with_reducible refine C_drewN ?_ _) | (with_reducible refine C_drew ?_)))
                       (case side2 => exact (V_reads' HO383.out).2.1)
                       rintro e w133 ⟨v386, rfl, ho0, hb⟩
                       replace HO_11 := kAs (N_elder' (by (with_reducible repeat first | apply N_alloc | apply N_drewN | apply N_drew); exact HO_11.out) (R_base ho0) hb)
                       replace Ga := kAs (R_below (ra_ Ga.out) hb)
                       replace Gb := kAs (R_below (ra_ Gb.out) hb)
                       replace Gc := kAs (R_below (ra_ Gc.out) hb)
                       replace Gd := kAs (R_below (ra_ Gd.out) hb)
                       replace Ge := kAs (R_below (ra_ Ge.out) hb)
                       replace Gf := kAs (R_below (ra_ Gf.out) hb)
                       have HO387 := kAs (R_lower ho0 (below_size (by repeat (first | (with_reducible first | exact HB.out | apply below_alloc | apply pw_below_drewN | apply below_drew1 | refine below_set ?_ Ea.out | refine below_set ?_ Eb.out | refine below_set ?_ Ec.out) | exact HB.out))))
                       replace Ka := kAs (blk_below (g := ga) (o := .cells #[.int .i64 1, .int .i64 0, .int .i64 0, .slice Ao55 y336.length co55, .slice (some ad355) xq.length co80] 25 (0, 0)) (by (with_reducible repeat first | refine blk_drewN ?_ _ | refine blk_drew ?_ | refine blk_alloc ?_ _); exact Ka.out) hb)
                       replace Kb := kAs (blk_below (g := gb) (o := .cells #[.int .i64 1, .int .i64 0, .int .i64 0, .slice Ao89 y346.length co89, .slice (some ad355) xq.length co80] 25 (0, 0)) (by (with_reducible repeat first | refine blk_drewN ?_ _ | refine blk_drew ?_ | refine blk_alloc ?_ _); exact Kb.out) hb)
                       replace Kc := kAs (blk_below (g := gc) (o := .cells #[.int .i64 1, .int .i64 0, .int .i64 0, .slice Ao55 y336.length co55, .slice Ao100 y356.length co100] 25 (0, 0)) (by (with_reducible repeat first | refine blk_drewN ?_ _ | refine blk_drew ?_ | refine blk_alloc ?_ _); exact Kc.out) hb)
                       replace HB := kAs (below_step (by repeat (first | (with_reducible first | exact HB.out | apply below_alloc | apply pw_below_drewN | apply below_drew1 | refine below_set ?_ Ea.out | refine below_set ?_ Eb.out | refine below_set ?_ Ec.out) | exact HB.out)) hb)
                       (try clear hb)
                       (try clear hb2)
                       (try clear hk)
                       (try clear hi)
                       (try clear ho0)
                       clear HL374_0 HL376_0 HL377_0 HL378_0 HR374_0 HR376_0 HR377_0 HR378_0 HO383
                       go_wp2_with (first | ((with_reducible refine gate_dst (N := 154) rfl ?_); refine R_lit (Kd.int .u8) _ 5 ?hg (N := 154) ?hd (xs := ([(t384 / 256) % 256, (t384) % 256] : List Int)) (inner := [.int .u8 ((t384 / 256) % 256), .int .u8 ((t384) % 256)]) (ok := fun _ => True) (okp := fun _ => True) ?hr ?hp (fun _ hk => hk) trivial (Below.refl _ _) (Nat.le_refl _) (by simp) ?_; (case hd => rfl); (case hg => rfl); (case hr => first | (go_simp; done) | (go_simp; rfl)); (case hp => exact (Reps.one (show Kd.M (Kd.int .u8) _ _ _ ((t384 / 256) % 256) [.int .u8 ((t384 / 256) % 256)] from rfl) (Reps.one (show Kd.M (Kd.int .u8) _ _ _ ((t384) % 256) [.int .u8 ((t384) % 256)] from rfl) (Reps.none _ _)))); intro v389 w134 ho135 hb hg_ hnew_; clear hg_ hnew_; (first | rw [← Ny388.out] at ho135 | (simp only [Int.reduceToNat] at ho135; rw [← Ny388.out] at ho135)); replace HO_11 := kAs (N_elder' (by (with_reducible repeat first | apply N_alloc | apply N_drewN | apply N_drew); exact HO_11.out) (R_base ho135) hb); replace Ga := kAs (R_below (ra_ Ga.out) hb); replace Gb := kAs (R_below (ra_ Gb.out) hb); replace Gc := kAs (R_below (ra_ Gc.out) hb); replace Gd := kAs (R_below (ra_ Gd.out) hb); replace Ge := kAs (R_below (ra_ Ge.out) hb); replace Gf := kAs (R_below (ra_ Gf.out) hb); have HO390 := kAs (R_lower (R_new' ho135 (R_lt (ra_ HO387.out))) (below_size (by repeat (first | (with_reducible first | exact HB.out | apply below_alloc | apply pw_below_drewN | apply below_drew1 | refine below_set ?_ Ea.out | refine below_set ?_ Eb.out | refine below_set ?_ Ec.out) | exact HB.out)))); replace HO387 := kAs (R_elder' (ra_ HO387.out) (R_base ho135) hb); replace Ka := kAs (blk_below (g := ga) (o := .cells #[.int .i64 1, .int .i64 0, .int .i64 0, .slice Ao55 y336.length co55, .slice (some ad355) xq.length co80] 25 (0, 0)) (by (with_reducible repeat first | refine blk_drewN ?_ _ | refine blk_drew ?_ | refine blk_alloc ?_ _); exact Ka.out) hb); replace Kb := kAs (blk_below (g := gb) (o := .cells #[.int .i64 1, .int .i64 0, .int .i64 0, .slice Ao89 y346.length co89, .slice (some ad355) xq.length co80] 25 (0, 0)) (by (with_reducible repeat first | refine blk_drewN ?_ _ | refine blk_drew ?_ | refine blk_alloc ?_ _); exact Kb.out) hb); replace Kc := kAs (blk_below (g := gc) (o := .cells #[.int .i64 1, .int .i64 0, .int .i64 0, .slice Ao55 y336.length co55, .slice Ao100 y356.length co100] 25 (0, 0)) (by (with_reducible repeat first | refine blk_drewN ?_ _ | refine blk_drew ?_ | refine blk_alloc ?_ _); exact Kc.out) hb); replace HB := kAs (below_step (by repeat (first | (with_reducible first | exact HB.out | apply below_alloc | apply pw_below_drewN | apply below_drew1 | refine below_set ?_ Ea.out | refine below_set ?_ Eb.out | refine below_set ?_ Ec.out) | exact HB.out)) hb); clear hb ho135; obtain ⟨Ao137, co137, eo137⟩ := R_slice HO390.out; subst eo137) | ((with_reducible refine gate_builtin (b := .append) (xs := #[.tmp 148, .tmp 154]) rfl ?_); at_builtin; refine R_append_rows (Kd.int .u8) (w0 := w) w.heap.size rfl (.tmp 148) (.tmp 154) 26 5 (.int .u8 0) 1 rfl Try.underlying26 info5 rfl (by decide) (by omega) v386 t385 y388 _ _ _ (fun k_ => some k_ ≠ (.slice Ao137 y388.length co137 : Value).ownBlock) (fun _ => False) rfl rfl ?aO ?aR (fun _ _ h => h) (fun _ h => h.elim) ?aF ?aB ?aS ?aL ?_; (case aR => repeat (first | exact (R_reads' HO390.out).2.2 | (with_reducible refine C_alloc ?_ _) | (with_reducible refine C_drewN ?_ _) | (with_reducible refine C_drew ?_))); (case aB => exact (by repeat (first | (with_reducible first | exact HB.out | apply below_alloc | apply pw_below_drewN | apply below_drew1 | refine below_set ?_ Ea.out | refine below_set ?_ Eb.out | refine below_set ?_ Ec.out) | exact HB.out))); (case aF => exact (fun k_ hk => Kd.fresh' (R_lt (ra_ HO390.out)) k_ hk)); (case aO => exact (by (with_reducible repeat first | apply R_alloc | apply R_drewN | apply R_drew); exact R_mono HO387.out (fun _ hk => hk.2))); (case aS => exact (below_size (by repeat (first | (with_reducible first | exact HB.out | apply below_alloc | apply pw_below_drewN | apply below_drew1 | refine below_set ?_ Ea.out | refine below_set ?_ Eb.out | refine below_set ?_ Ec.out) | exact HB.out)))); (case aL => have := LMc126.out; omega); intro v392 w136 ho hb hg hat; rw [← Ny391.out] at ho; replace HO_11 := kAs (N_afterv (ok := (fun k_ => some k_ ≠ (.slice Ao55 y336.length co55 : Value).ownBlock ∧ some k_ ≠ (.slice (some ad355) xq.length co80 : Value).ownBlock ∧ some k_ ≠ (.slice Ao89 y346.length co89 : Value).ownBlock ∧ some k_ ≠ (.slice (some ad355) xq.length co80 : Value).ownBlock ∧ some k_ ≠ (.slice Ao55 y336.length co55 : Value).ownBlock ∧ some k_ ≠ (.slice Ao100 y356.length co100 : Value).ownBlock ∧ some k_ ≠ (.slice Ao137 y388.length co137 : Value).ownBlock ∧ k_ ≠ ga ∧ k_ ≠ gb ∧ k_ ≠ gc)) (by (with_reducible repeat first | apply N_alloc | apply N_drewN | apply N_drew); exact N_mono HO_11.out (fun _ hk => ⟨⟨hk.1.1.1, ⟨hk.1.1.2.1, ⟨hk.1.1.2.2.1, ⟨hk.1.1.2.2.2.1, ⟨hk.1.1.2.2.2.2.1, ⟨hk.1.1.2.2.2.2.2.1, ⟨hk.2, ⟨hk.1.1.2.2.2.2.2.2.1, ⟨hk.1.1.2.2.2.2.2.2.2.1, hk.1.1.2.2.2.2.2.2.2.2⟩⟩⟩⟩⟩⟩⟩⟩⟩, hk.1.2⟩)) hg hat); replace Ga := kAs (R_over' (ra_ Ga.out) (R_typed (ra_ HO387.out)) (by decide) hg); replace Gb := kAs (R_over' (ra_ Gb.out) (R_typed (ra_ HO387.out)) (by decide) hg); replace Gc := kAs (R_over' (ra_ Gc.out) (R_typed (ra_ HO387.out)) (by decide) hg); replace Gd := kAs (R_over' (ra_ Gd.out) (R_typed (ra_ HO387.out)) (by decide) hg); replace Ge := kAs (R_over' (ra_ Ge.out) (R_typed (ra_ HO387.out)) (by decide) hg); replace Gf := kAs (R_over' (ra_ Gf.out) (R_typed (ra_ HO387.out)) (by decide) hg); replace Ka := kAs (blk_grown (g := ga) (o := .cells #[.int .i64 1, .int .i64 0, .int .i64 0, .slice Ao55 y336.length co55, .slice (some ad355) xq.length co80] 25 (0, 0)) (by (with_reducible repeat first | refine blk_drewN ?_ _ | refine blk_drew ?_ | refine blk_alloc ?_ _); exact Ka.out) hg (R_ne HO387.out Ka.out (by decide))); replace Kb := kAs (blk_grown (g := gb) (o := .cells #[.int .i64 1, .int .i64 0, .int .i64 0, .slice Ao89 y346.length co89, .slice (some ad355) xq.length co80] 25 (0, 0)) (by (with_reducible repeat first | refine blk_drewN ?_ _ | refine blk_drew ?_ | refine blk_alloc ?_ _); exact Kb.out) hg (R_ne HO387.out Kb.out (by decide))); replace Kc := kAs (blk_grown (g := gc) (o := .cells #[.int .i64 1, .int .i64 0, .int .i64 0, .slice Ao55 y336.length co55, .slice Ao100 y356.length co100] 25 (0, 0)) (by (with_reducible repeat first | refine blk_drewN ?_ _ | refine blk_drew ?_ | refine blk_alloc ?_ _); exact Kc.out) hg (R_ne HO387.out Kc.out (by decide))); replace HO390 := kAs (R_after (ok := (fun _ => True)) (ra_ HO390.out) hg hat); replace HB := kAs (hb); have HO393 := kAs (ho); clear HO387; clear ho hb hg hat; obtain ⟨Ao138, co138, eo138⟩ := R_slice HO393.out; subst eo138))
                       (with_reducible refine (kn_Reads.calls _ _ y391 true _ ?side1 ?side2 A127.out).mono ?_)
                       (case side1 => repeat (first | exact (R_reads' HO393.out).2.2 | (with_reducible refine C_alloc ?_ _) | (with_reducible refine C_drewN ?_ _) | (with_reducible refine C_drew ?_)))
                       (case side2 => exact (R_reads' HO393.out).2.1)
                       rintro e w139 ⟨rfl, hb⟩
                       replace HO_11 := kAs (N_below (by (with_reducible repeat first | apply N_alloc | apply N_drewN | apply N_drew); exact HO_11.out) hb)
                       replace Ga := kAs (R_below (ra_ Ga.out) hb)
                       replace Gb := kAs (R_below (ra_ Gb.out) hb)
                       replace Gc := kAs (R_below (ra_ Gc.out) hb)
                       replace Gd := kAs (R_below (ra_ Gd.out) hb)
                       replace Ge := kAs (R_below (ra_ Ge.out) hb)
                       replace Gf := kAs (R_below (ra_ Gf.out) hb)
                       replace HO390 := kAs (R_below (ra_ HO390.out) hb)
                       replace HO393 := kAs (R_below (ra_ HO393.out) hb)
                       replace Ka := kAs (blk_below (g := ga) (o := .cells #[.int .i64 1, .int .i64 0, .int .i64 0, .slice Ao55 y336.length co55, .slice (some ad355) xq.length co80] 25 (0, 0)) (by (with_reducible repeat first | refine blk_drewN ?_ _ | refine blk_drew ?_ | refine blk_alloc ?_ _); exact Ka.out) hb)
                       replace Kb := kAs (blk_below (g := gb) (o := .cells #[.int .i64 1, .int .i64 0, .int .i64 0, .slice Ao89 y346.length co89, .slice (some ad355) xq.length co80] 25 (0, 0)) (by (with_reducible repeat first | refine blk_drewN ?_ _ | refine blk_drew ?_ | refine blk_alloc ?_ _); exact Kb.out) hb)
                       replace Kc := kAs (blk_below (g := gc) (o := .cells #[.int .i64 1, .int .i64 0, .int .i64 0, .slice Ao55 y336.length co55, .slice Ao100 y356.length co100] 25 (0, 0)) (by (with_reducible repeat first | refine blk_drewN ?_ _ | refine blk_drew ?_ | refine blk_alloc ?_ _); exact Kc.out) hb)
                       replace HB := kAs (below_step (by repeat (first | (with_reducible first | exact HB.out | apply below_alloc | apply pw_below_drewN | apply below_drew1 | refine below_set ?_ Ea.out | refine below_set ?_ Eb.out | refine below_set ?_ Ec.out) | exact HB.out)) hb)
                       (try clear hb)
                       (try clear hb2)
                       (try clear hk)
                       (try clear hi)
                       go_wp2_with fail
                       go_roundg k3
                       case measure => have := HK1.out; have := HK2.out; have := HK3.out; omega
                       case rel => exact ⟨(wrap64 (x12_3 + 1)), fs_, H', ⟨by have := HK1.out; have := HK2.out; have := HK3.out; omega⟩, ⟨by (with_reducible repeat first | apply N_alloc | apply N_drewN | apply N_drew); exact N_mono HO_11.out (fun _ hk => ⟨hk.1.1, ⟨hk.1.2.1, ⟨hk.1.2.2.1, ⟨hk.1.2.2.2.1, ⟨hk.1.2.2.2.2.1, ⟨hk.1.2.2.2.2.2.1, ⟨hk.1.2.2.2.2.2.2.2.1, ⟨hk.1.2.2.2.2.2.2.2.2.1, hk.1.2.2.2.2.2.2.2.2.2⟩⟩⟩⟩⟩⟩⟩⟩)⟩, ⟨ra_ Ga.out⟩, ⟨ra_ Gb.out⟩, ⟨ra_ Gc.out⟩, ⟨ra_ Gd.out⟩, ⟨ra_ Ge.out⟩, ⟨ra_ Gf.out⟩, ⟨by (with_reducible repeat first | refine blk_drewN ?_ _ | refine blk_drew ?_ | refine blk_alloc ?_ _); exact Ka.out⟩, ⟨by (with_reducible repeat first | refine blk_drewN ?_ _ | refine blk_drew ?_ | refine blk_alloc ?_ _); exact Kb.out⟩, ⟨by (with_reducible repeat first | refine blk_drewN ?_ _ | refine blk_drew ?_ | refine blk_alloc ?_ _); exact Kc.out⟩, ⟨by repeat (first | (with_reducible first | exact HB.out | apply below_alloc | apply pw_below_drewN | apply below_drew1 | refine below_set ?_ Ea.out | refine below_set ?_ Eb.out | refine below_set ?_ Ec.out) | exact HB.out)⟩⟩
                      ·replace c128 := Bool.eq_false_iff.mpr c128
                       subst c128
                       exact absurd A127.out (kn_not _)
                     ·rw [if_neg c126] at H
                      exact absurd H (by simp)
                    ·rw [if_neg c123] at H
                     exact absurd H (by simp)
                   ·rw [if_neg c122] at H
                    exact absurd H (by simp)
                  ·rw [if_neg c120] at H
                   have c120b0 : decide (6 < ((rd_L6 y371 x12_3).length : Int)) = false := decide_eq_false c120
                   have c120b1 : decide (6 < (rd_L6 y371 x12_3).length) = false := decide_eq_false (by omega)
                   clear c120
                   have H' := kAs H
                   clear H
                   obtain ⟨Ao151, co151, eo151⟩ := N_slice HO_11.out
                   subst eo151
                   have p374 : 0 ≤ (x12_3 : Int) := of_decide_eq_true (by first | (with_reducible assumption) | assumption)
                   have q374 : x12_3 < (y371.length : Int) := of_decide_eq_true (by first | (with_reducible assumption) | assumption)
                   obtain ⟨ad374, A374_0, c374_0, e374, hx374_0, hl374_0, hi374_0⟩ := at_L6 (N_reads' HO_11.out).2.2 x12_3 p374 q374
                   cases e374
                   obtain ⟨ce374, hce374, hMe374, hcc374⟩ := N_get HO_11.out [] x12_3 p374 (by first | exact q374 | exact of_decide_eq_true (by first | (with_reducible assumption) | assumption) | (have e_ := (N_reads' HO_11.out).1; omega))
                   obtain ⟨ua374_0, uc374_0, rfl, ul374_0, ge374_0⟩ := FK_slice_open hMe374
                   have hv374_0 := hcc374 0 _ rfl
                   rw [Nat.add_zero, show ((Kd.slice 5 (Kd.int .u8))).sz = 1 from rfl, Nat.mul_one] at hv374_0
                   replace hv374_0 := Option.some.inj (hv374_0.symm.trans hx374_0)
                   injection hv374_0 with hva_ hvn_ hvc_
                   rw [hva_] at ge374_0
                   rw [hvc_] at ul374_0
                   have HL374_0 := kAs (show Kd.V (Kd.int .u8) 5 _ w.heap.size _ _ (rd_L6 y371 x12_3) from V_mk ul374_0 ge374_0)
                   clear hva_ hvn_ hvc_ ge374_0 ul374_0
                   clear hcc374 hce374
                   have HR374_0 := kAs hi374_0
                   have HC374_0 := kAs hl374_0
                   clear hi374_0 hl374_0
                   replace p374 := eq_true p374
                   replace q374 := eq_true q374
                   go_wp2_with (first | ((with_reducible refine gate_callee (f := 4) rfl ?_); refine goesL_ (some 126) rfl rfl Try.func4 (by kernel_rfl) rfl #[.slice A374_0 (rd_L6 y371 x12_3).length c374_0] rfl ca_ ?_; (with_reducible refine (kn_Reads.calls _ _ (rd_L6 y371 x12_3) true _ ?side1 ?side2 A118.out).mono ?_); (case side1 => repeat (first | exact (by repeat (first | (with_reducible exact HR374_0.out) | (with_reducible refine C_alloc ?_ _) | (with_reducible refine C_drewN ?_ _) | (with_reducible refine C_drew ?_) | exact HR374_0.out)) | (with_reducible refine C_alloc ?_ _) | (with_reducible refine C_drewN ?_ _) | (with_reducible refine C_drew ?_))); (case side2 => exact HC374_0.out); rintro e w152 ⟨rfl, hb⟩; refine ⟨_, rfl, ?_⟩; replace HO_11 := kAs (N_below (by (with_reducible repeat first | apply N_alloc | apply N_drewN | apply N_drew); exact HO_11.out) hb); replace Ga := kAs (R_below (ra_ Ga.out) hb); replace Gb := kAs (R_below (ra_ Gb.out) hb); replace Gc := kAs (R_below (ra_ Gc.out) hb); replace Gd := kAs (R_below (ra_ Gd.out) hb); replace Ge := kAs (R_below (ra_ Ge.out) hb); replace Gf := kAs (R_below (ra_ Gf.out) hb); replace HL374_0 := kAs (V_below (by (with_reducible repeat first | apply V_alloc | apply V_drewN | apply V_drew); exact HL374_0.out) hb); replace Ka := kAs (blk_below (g := ga) (o := .cells #[.int .i64 1, .int .i64 0, .int .i64 0, .slice Ao55 y336.length co55, .slice (some ad355) xq.length co80] 25 (0, 0)) (by (with_reducible repeat first | refine blk_drewN ?_ _ | refine blk_drew ?_ | refine blk_alloc ?_ _); exact Ka.out) hb); replace Kb := kAs (blk_below (g := gb) (o := .cells #[.int .i64 1, .int .i64 0, .int .i64 0, .slice Ao89 y346.length co89, .slice (some ad355) xq.length co80] 25 (0, 0)) (by (with_reducible repeat first | refine blk_drewN ?_ _ | refine blk_drew ?_ | refine blk_alloc ?_ _); exact Kb.out) hb); replace Kc := kAs (blk_below (g := gc) (o := .cells #[.int .i64 1, .int .i64 0, .int .i64 0, .slice Ao55 y336.length co55, .slice Ao100 y356.length co100] 25 (0, 0)) (by (with_reducible repeat first | refine blk_drewN ?_ _ | refine blk_drew ?_ | refine blk_alloc ?_ _); exact Kc.out) hb); replace HR374_0 := kAs (C_below (by repeat (first | (with_reducible exact HR374_0.out) | (with_reducible refine C_alloc ?_ _) | (with_reducible refine C_drewN ?_ _) | (with_reducible refine C_drew ?_) | exact HR374_0.out)) hb); replace HB := kAs (below_step (by repeat (first | (with_reducible first | exact HB.out | apply below_alloc | apply pw_below_drewN | apply below_drew1 | refine below_set ?_ Ea.out | refine below_set ?_ Eb.out | refine below_set ?_ Ec.out) | exact HB.out)) hb); (try clear hb); (try clear hb2); (try clear hk); (try clear hi); have p376 : 0 ≤ (x12_3 : Int) := of_decide_eq_true (by first | (with_reducible assumption) | assumption); have q376 : x12_3 < (y371.length : Int) := of_decide_eq_true (by first | (with_reducible assumption) | assumption); obtain ⟨ad376, A376_0, c376_0, e376, hx376_0, hl376_0, hi376_0⟩ := at_L6 (N_reads' HO_11.out).2.2 x12_3 p376 q376; obtain rfl : ad374 = ad376 := (by injection e376); obtain ⟨ce376, hce376, hMe376, hcc376⟩ := N_get HO_11.out [] x12_3 p376 (by first | exact q376 | exact of_decide_eq_true (by first | (with_reducible assumption) | assumption) | (have e_ := (N_reads' HO_11.out).1; omega)); obtain ⟨ua376_0, uc376_0, rfl, ul376_0, ge376_0⟩ := FK_slice_open hMe376; have hv376_0 := hcc376 0 _ rfl; rw [Nat.add_zero, show ((Kd.slice 5 (Kd.int .u8))).sz = 1 from rfl, Nat.mul_one] at hv376_0; replace hv376_0 := Option.some.inj (hv376_0.symm.trans hx376_0); injection hv376_0 with hva_ hvn_ hvc_; rw [hva_] at ge376_0; rw [hvc_] at ul376_0; have HL376_0 := kAs (show Kd.V (Kd.int .u8) 5 _ w.heap.size _ _ (rd_L6 y371 x12_3) from V_mk ul376_0 ge376_0); clear hva_ hvn_ hvc_ ge376_0 ul376_0; clear hcc376 hce376; have HR376_0 := kAs hi376_0; have HC376_0 := kAs hl376_0; clear hi376_0 hl376_0; replace p376 := eq_true p376; replace q376 := eq_true q376))
                   go_roundg k3
                   case measure => have := HK1.out; have := HK2.out; have := HK3.out; omega
                   case rel => exact ⟨(wrap64 (x12_3 + 1)), fs_, H', ⟨by have := HK1.out; have := HK2.out; have := HK3.out; omega⟩, ⟨by (with_reducible repeat first | apply N_alloc | apply N_drewN | apply N_drew); exact HO_11.out⟩, ⟨ra_ Ga.out⟩, ⟨ra_ Gb.out⟩, ⟨ra_ Gc.out⟩, ⟨ra_ Gd.out⟩, ⟨ra_ Ge.out⟩, ⟨ra_ Gf.out⟩, ⟨by (with_reducible repeat first | refine blk_drewN ?_ _ | refine blk_drew ?_ | refine blk_alloc ?_ _); exact Ka.out⟩, ⟨by (with_reducible repeat first | refine blk_drewN ?_ _ | refine blk_drew ?_ | refine blk_alloc ?_ _); exact Kb.out⟩, ⟨by (with_reducible repeat first | refine blk_drewN ?_ _ | refine blk_drew ?_ | refine blk_alloc ?_ _); exact Kc.out⟩, ⟨by repeat (first | (with_reducible first | exact HB.out | apply below_alloc | apply pw_below_drewN | apply below_drew1 | refine below_set ?_ Ea.out | refine below_set ?_ Eb.out | refine below_set ?_ Ec.out) | exact HB.out)⟩⟩
                 ·replace c119 := Bool.eq_false_iff.mpr c119
                  subst c119
                  exact absurd A118.out (kn_not _)
                ·rw [if_neg c117] at H
                 exact absurd H (by simp)
               ·rw [if_neg c116] at H
                have c116b0 : decide (x12_3 < (y371.length : Int)) = false := decide_eq_false c116
                clear c116
                obtain rfl := Option.some.inj H
                obtain ⟨Ao155, co155, eo155⟩ := N_slice HO_11.out
                subst eo155
                have HP7 := kAs (R_reads' Ga.out).2.2
                have HS7 := kAs (R_reads' Gb.out).2.2
                have HP9 := kAs (R_reads' Gc.out).2.2
                have HS10 := kAs (R_reads' Gf.out).2.2
                have HP7n := kAs (R_reads' Ga.out).2.1
                have HS7n := kAs (R_reads' Gb.out).2.1
                have HP9n := kAs (R_reads' Gc.out).2.1
                have HS10n := kAs (R_reads' Gf.out).2.1
                have z0 : wr.cell? ⟨ga, 0, none⟩ = some (.int .i64 1) := (blk_cell Ka.out 0).trans rfl
                have z1 : wr.cell? ⟨ga, 1, none⟩ = some (.int .i64 0) := (blk_cell Ka.out 1).trans rfl
                have z2 : wr.cell? ⟨ga, 2, none⟩ = some (.int .i64 0) := (blk_cell Ka.out 2).trans rfl
                have z3 : wr.cell? ⟨ga, 3, none⟩ = some (.slice Ao55 y336.length co55) := (blk_cell Ka.out 3).trans rfl
                have z4 : wr.cell? ⟨ga, 4, none⟩ = some (.slice (some ad355) xq.length co80) := (blk_cell Ka.out 4).trans rfl
                have z5 : wr.cell? ⟨gb, 0, none⟩ = some (.int .i64 1) := (blk_cell Kb.out 0).trans rfl
                have z6 : wr.cell? ⟨gb, 1, none⟩ = some (.int .i64 0) := (blk_cell Kb.out 1).trans rfl
                have z7 : wr.cell? ⟨gb, 2, none⟩ = some (.int .i64 0) := (blk_cell Kb.out 2).trans rfl
                have z8 : wr.cell? ⟨gb, 3, none⟩ = some (.slice Ao89 y346.length co89) := (blk_cell Kb.out 3).trans rfl
                have z9 : wr.cell? ⟨gb, 4, none⟩ = some (.slice (some ad355) xq.length co80) := (blk_cell Kb.out 4).trans rfl
                have z10 : wr.cell? ⟨gc, 0, none⟩ = some (.int .i64 1) := (blk_cell Kc.out 0).trans rfl
                have z11 : wr.cell? ⟨gc, 1, none⟩ = some (.int .i64 0) := (blk_cell Kc.out 1).trans rfl
                have z12 : wr.cell? ⟨gc, 2, none⟩ = some (.int .i64 0) := (blk_cell Kc.out 2).trans rfl
                have z13 : wr.cell? ⟨gc, 3, none⟩ = some (.slice Ao55 y336.length co55) := (blk_cell Kc.out 3).trans rfl
                have z14 : wr.cell? ⟨gc, 4, none⟩ = some (.slice Ao100 y356.length co100) := (blk_cell Kc.out 4).trans rfl
                obtain ⟨kT, hT0⟩ := Pure.JournalTorn [(⟨1, 0, 0, y336, xq⟩ : S25), ⟨1, 0, 0, [], []⟩, ⟨1, 0, 0, y336, xq⟩] 1000
                have hT := kAs hT0
                clear hT0
                have hck := kAs (check25 y346 xq (by rw [Ny346.out]; simp))
                clear HO_11 Ga Gb Gc Gd Ge Gf
                go_wp2_with fail
                refine start_ (n := 29) (S := fun w' => w'.cell? ⟨ga, 0, none⟩ = some (.int .i64 1) ∧ w'.cell? ⟨ga, 1, none⟩ = some (.int .i64 0) ∧ w'.cell? ⟨ga, 2, none⟩ = some (.int .i64 0) ∧ w'.cell? ⟨ga, 3, none⟩ = some (.slice Ao55 y336.length co55) ∧ w'.cell? ⟨ga, 4, none⟩ = some (.slice (some ad355) xq.length co80) ∧ w'.cell? ⟨gb, 0, none⟩ = some (.int .i64 1) ∧ w'.cell? ⟨gb, 1, none⟩ = some (.int .i64 0) ∧ w'.cell? ⟨gb, 2, none⟩ = some (.int .i64 0) ∧ w'.cell? ⟨gb, 3, none⟩ = some (.slice Ao89 y346.length co89) ∧ w'.cell? ⟨gb, 4, none⟩ = some (.slice (some ad355) xq.length co80) ∧ w'.cell? ⟨gc, 0, none⟩ = some (.int .i64 1) ∧ w'.cell? ⟨gc, 1, none⟩ = some (.int .i64 0) ∧ w'.cell? ⟨gc, 2, none⟩ = some (.int .i64 0) ∧ w'.cell? ⟨gc, 3, none⟩ = some (.slice Ao55 y336.length co55) ∧ w'.cell? ⟨gc, 4, none⟩ = some (.slice Ao100 y356.length co100)) (ds := []) #[false, false, false, false, false, false, false, false, false, false, false, false, false, false, false, false, false, false, false, false, false, false, false, false, false, false, false, false, false] (by kernel_rfl) rfl rfl ⟨z0, z1, z2, z3, z4, z5, z6, z7, z8, z9, z10, z11, z12, z13, z14⟩ (fun hHeld => ?_)
                refine pureS_ (i := 0) (N := some 158) (v := ?_) (a' := ?_) rfl rfl (by kernel_rfl) (fun _ _ _ h => h) (Or.inl ⟨by rfl, ?_⟩) ?_ ?_
                rotate_left; (· intro w'; go_simp; with_reducible rfl); rotate_left; (· simp only [Act.put, List.setIfInBounds_toArray, List.set_cons_zero, List.set_cons_succ, i64_w, i32_w]; rfl)
                refine oneS_ (i := 1) (N := some 159) rfl rfl (by kernel_rfl) (by decide) (fun K hK => ?_)
                refine goes_ Try.func17 (by kernel_rfl) rfl #[] (by rfl) rfl rfl (by simp only [List.map_toArray, List.map_nil]) ?_
                with_reducible refine (drayagelaw20_works.calls true _ works_f).mono ?_
                rintro e W1_ ⟨rfl, hb⟩
                refine ⟨_, rfl, ?_⟩
                have HB1 := kAs (below_then (below_drew (Below.refl wr.heap.size wr)) (below_drew (Below.refl wr.heap.size wr)).size hb)
                refine hK.out _ _ ⟨(kpc HB1.out z0), (kpc HB1.out z1), (kpc HB1.out z2), (kpc HB1.out z3), (kpc HB1.out z4), (kpc HB1.out z5), (kpc HB1.out z6), (kpc HB1.out z7), (kpc HB1.out z8), (kpc HB1.out z9), (kpc HB1.out z10), (kpc HB1.out z11), (kpc HB1.out z12), (kpc HB1.out z13), (kpc HB1.out z14)⟩ (fun hHeld => ?_)
                clear hK K
                refine norm_ (a' := ?_) ?_ ?_
                rotate_left
                ·show Act.put _ (some 159) _ = _
                 simp only [Act.put, List.setIfInBounds_toArray, List.set_cons_zero, List.set_cons_succ, i64_w, i32_w]
                 rfl
                refine pureS_ (i := 2) (N := some 160) (v := ?_) (a' := ?_) rfl rfl (by kernel_rfl) (fun _ _ _ h => h) (Or.inl ⟨by rfl, ?_⟩) ?_ ?_
                rotate_left; (· intro w'; go_simp; with_reducible rfl); rotate_left; (· simp only [Act.put, List.setIfInBounds_toArray, List.set_cons_zero, List.set_cons_succ, i64_w, i32_w]; rfl)
                refine pureS_ (i := 3) (N := some 161) (v := ?_) (a' := ?_) rfl rfl (by kernel_rfl) (fun _ _ _ h => h) (Or.inl ⟨by rfl, ?_⟩) ?_ ?_
                rotate_left; (· intro w'; go_simp; with_reducible rfl); rotate_left; (· simp only [Act.put, List.setIfInBounds_toArray, List.set_cons_zero, List.set_cons_succ, i64_w, i32_w]; rfl)
                refine pureS_ (i := 5) (N := some 163) (v := ?_) (a' := ?_) rfl rfl (by kernel_rfl) (fun _ _ _ h => h) (Or.inl ⟨by rfl, ?_⟩) ?_ ?_
                rotate_left; (· intro w'; go_simp; with_reducible rfl); rotate_left; (· simp only [Act.put, List.setIfInBounds_toArray, List.set_cons_zero, List.set_cons_succ, i64_w, i32_w]; rfl)
                refine takeS_ (i := 4) (N := some 162) (v := ?_) (a' := ?_) rfl rfl (by kernel_rfl) (fun _ _ _ h => h) (Or.inl ⟨by rfl, ?_⟩) hHeld ?_ ?_
                rotate_left; (· rintro w' ⟨s0, s1, s2, s3, s4, s5, s6, s7, s8, s9, s10, s11, s12, s13, s14⟩; go_simp; with_reducible rfl); rotate_left; (· simp only [Act.put, List.setIfInBounds_toArray, List.set_cons_zero, List.set_cons_succ, i64_w, i32_w]; rfl)
                refine takeS_ (i := 6) (N := some 164) (v := ?_) (a' := ?_) rfl rfl (by kernel_rfl) (fun _ _ _ h => h) (Or.inl ⟨by rfl, ?_⟩) hHeld ?_ ?_
                rotate_left; (· rintro w' ⟨s0, s1, s2, s3, s4, s5, s6, s7, s8, s9, s10, s11, s12, s13, s14⟩; go_simp; with_reducible rfl); rotate_left; (· simp only [Act.put, List.setIfInBounds_toArray, List.set_cons_zero, List.set_cons_succ, i64_w, i32_w]; rfl)
                refine oneS_ (i := 7) (N := some 165) rfl rfl (by kernel_rfl) (by decide) (fun K hK => ?_)
                refine value_ (w1 := ?_) (v := ?_) (by rfl) rfl ?_ ?_
                rotate_left 2
                ·go_simp
                 constructor
                 ·rfl
                 ·rfl
                refine hK.out _ _ ⟨(kpc (HB1.out.alloc HB1.out.size _) z0), (kpc (HB1.out.alloc HB1.out.size _) z1), (kpc (HB1.out.alloc HB1.out.size _) z2), (kpc (HB1.out.alloc HB1.out.size _) z3), (kpc (HB1.out.alloc HB1.out.size _) z4), (kpc (HB1.out.alloc HB1.out.size _) z5), (kpc (HB1.out.alloc HB1.out.size _) z6), (kpc (HB1.out.alloc HB1.out.size _) z7), (kpc (HB1.out.alloc HB1.out.size _) z8), (kpc (HB1.out.alloc HB1.out.size _) z9), (kpc (HB1.out.alloc HB1.out.size _) z10), (kpc (HB1.out.alloc HB1.out.size _) z11), (kpc (HB1.out.alloc HB1.out.size _) z12), (kpc (HB1.out.alloc HB1.out.size _) z13), (kpc (HB1.out.alloc HB1.out.size _) z14)⟩ (fun hHeld => ?_)
                clear hK K
                refine norm_ (a' := ?_) ?_ ?_
                rotate_left
                ·show Act.put _ (some 165) _ = _
                 simp only [Act.put, List.setIfInBounds_toArray, List.set_cons_zero, List.set_cons_succ, i64_w, i32_w]
                 rfl
                refine oneS_ (i := 8) (N := some 166) rfl rfl (by kernel_rfl) (by decide) (fun K hK => ?_)
                refine goes_ Try.func5 (by kernel_rfl) rfl #[.slice (some ⟨W1_.heap.size, 0, none⟩) ([(⟨1, 0, 0, y336, xq⟩ : S25), ⟨1, 0, 0, [], []⟩, ⟨1, 0, 0, y336, xq⟩] : List S25).length 3, .int .i64 1000] (by rfl) rfl rfl (by simp only [List.map_toArray, List.map_cons, List.map_nil]; rfl) ?_
                with_reducible refine (drayagelaw20_JournalTorn.calls kT _ 3 [(⟨1, 0, 0, y336, xq⟩ : S25), ⟨1, 0, 0, [], []⟩, ⟨1, 0, 0, y336, xq⟩] 1000 true _ (recs3_C (alloc_at W1_ _) (C_below HP7.out (HB1.out.alloc HB1.out.size _)) HP7n.out (C_below HS7.out (HB1.out.alloc HB1.out.size _)) HS7n.out) (by simp) hT.out).mono ?_
                rintro e W2_ ⟨rfl, hb⟩
                refine ⟨_, rfl, ?_⟩
                have HB2 := kAs (below_then (HB1.out.alloc HB1.out.size _) (HB1.out.alloc HB1.out.size _).size hb)
                refine hK.out _ _ ⟨(kpc HB2.out z0), (kpc HB2.out z1), (kpc HB2.out z2), (kpc HB2.out z3), (kpc HB2.out z4), (kpc HB2.out z5), (kpc HB2.out z6), (kpc HB2.out z7), (kpc HB2.out z8), (kpc HB2.out z9), (kpc HB2.out z10), (kpc HB2.out z11), (kpc HB2.out z12), (kpc HB2.out z13), (kpc HB2.out z14)⟩ (fun hHeld => ?_)
                clear hK K
                refine norm_ (a' := ?_) ?_ ?_
                rotate_left
                ·show Act.put _ (some 166) _ = _
                 simp only [Act.put, List.setIfInBounds_toArray, List.set_cons_zero, List.set_cons_succ, i64_w, i32_w]
                 rfl
                refine pureS_ (i := 9) (N := some 167) (v := ?_) (a' := ?_) rfl rfl (by kernel_rfl) (fun _ _ _ h => h) (Or.inl ⟨by rfl, ?_⟩) ?_ ?_
                rotate_left; (· intro w'; go_simp; with_reducible rfl); rotate_left; (· simp only [Act.put, List.setIfInBounds_toArray, List.set_cons_zero, List.set_cons_succ, i64_w, i32_w]; rfl)
                refine pureS_ (i := 10) (N := some 168) (v := ?_) (a' := ?_) rfl rfl (by kernel_rfl) (fun _ _ _ h => h) (Or.inl ⟨by rfl, ?_⟩) ?_ ?_
                rotate_left; (· intro w'; go_simp; with_reducible rfl); rotate_left; (· simp only [Act.put, List.setIfInBounds_toArray, List.set_cons_zero, List.set_cons_succ, i64_w, i32_w]; rfl)
                refine takeS_ (i := 11) (N := some 169) (v := ?_) (a' := ?_) rfl rfl (by kernel_rfl) (fun _ _ _ h => h) (Or.inl ⟨by rfl, ?_⟩) hHeld ?_ ?_
                rotate_left; (· rintro w' ⟨s0, s1, s2, s3, s4, s5, s6, s7, s8, s9, s10, s11, s12, s13, s14⟩; go_simp; with_reducible rfl); rotate_left; (· simp only [Act.put, List.setIfInBounds_toArray, List.set_cons_zero, List.set_cons_succ, i64_w, i32_w]; rfl)
                refine oneS_ (i := 12) (N := some 170) rfl rfl (by kernel_rfl) (by decide) (fun K hK => ?_)
                refine goes_ Try.func3 (by kernel_rfl) rfl #[.agg #[.int .i64 1, .int .i64 0, .int .i64 0, .slice Ao89 y346.length co89, .slice (some ad355) xq.length co80], .slice none ([] : List Int).length 0] (by rfl) rfl rfl (by simp only [List.map_toArray, List.map_cons, List.map_nil]; rfl) ?_
                with_reducible refine (JournalBytes_calls 1 0 0 Ao89 co89 y346 (some ad355) co80 xq none 0 [] _ (C_below HP9.out HB2.out) HP9n.out (C_below HS7.out HB2.out) HS7n.out (C_nil _ _) (by simp) (by simp)).mono ?_
                rintro e W3_ ⟨rfl, hb⟩
                refine ⟨_, rfl, ?_⟩
                have HB3 := kAs (below_then HB2.out HB2.out.size hb)
                refine hK.out _ _ ⟨(kpc HB3.out z0), (kpc HB3.out z1), (kpc HB3.out z2), (kpc HB3.out z3), (kpc HB3.out z4), (kpc HB3.out z5), (kpc HB3.out z6), (kpc HB3.out z7), (kpc HB3.out z8), (kpc HB3.out z9), (kpc HB3.out z10), (kpc HB3.out z11), (kpc HB3.out z12), (kpc HB3.out z13), (kpc HB3.out z14)⟩ (fun hHeld => ?_)
                clear hK K
                refine norm_ (a' := ?_) ?_ ?_
                rotate_left
                ·show Act.put _ (some 170) _ = _
                 simp only [Act.put, List.setIfInBounds_toArray, List.set_cons_zero, List.set_cons_succ, i64_w, i32_w]
                 rfl
                refine pureS_ (i := 13) (N := some 171) (v := ?_) (a' := ?_) rfl rfl (by kernel_rfl) (fun _ _ _ h => h) (Or.inl ⟨by rfl, ?_⟩) ?_ ?_
                rotate_left; (· intro w'; go_simp; with_reducible rfl); rotate_left; (· simp only [Act.put, List.setIfInBounds_toArray, List.set_cons_zero, List.set_cons_succ, i64_w, i32_w]; rfl)
                refine pureS_ (i := 14) (N := some 172) (v := ?_) (a' := ?_) rfl rfl (by kernel_rfl) (fun _ _ _ h => h) (Or.inl ⟨by rfl, ?_⟩) ?_ ?_
                rotate_left; (· intro w'; go_simp; with_reducible rfl); rotate_left; (· simp only [Act.put, List.setIfInBounds_toArray, List.set_cons_zero, List.set_cons_succ, i64_w, i32_w]; rfl)
                refine takeS_ (i := 15) (N := some 173) (v := ?_) (a' := ?_) rfl rfl (by kernel_rfl) (fun _ _ _ h => h) (Or.inl ⟨by rfl, ?_⟩) hHeld ?_ ?_
                rotate_left; (· rintro w' ⟨s0, s1, s2, s3, s4, s5, s6, s7, s8, s9, s10, s11, s12, s13, s14⟩; go_simp; with_reducible rfl); rotate_left; (· simp only [Act.put, List.setIfInBounds_toArray, List.set_cons_zero, List.set_cons_succ, i64_w, i32_w]; rfl)
                refine oneS_ (i := 16) (N := some 174) rfl rfl (by kernel_rfl) (by decide) (fun K hK => ?_)
                refine goes_ Try.func3 (by kernel_rfl) rfl #[.agg #[.int .i64 1, .int .i64 0, .int .i64 0, .slice Ao55 y336.length co55, .slice Ao100 y356.length co100], .slice none ([] : List Int).length 0] (by rfl) rfl rfl (by simp only [List.map_toArray, List.map_cons, List.map_nil]; rfl) ?_
                with_reducible refine (JournalBytes_calls 1 0 0 Ao55 co55 y336 Ao100 co100 y356 none 0 [] _ (C_below HP7.out HB3.out) HP7n.out (C_below HS10.out HB3.out) HS10n.out (C_nil _ _) (by simp) (by simp)).mono ?_
                rintro e W4_ ⟨rfl, hb⟩
                refine ⟨_, rfl, ?_⟩
                have HB4 := kAs (below_then HB3.out HB3.out.size hb)
                refine hK.out _ _ ⟨(kpc HB4.out z0), (kpc HB4.out z1), (kpc HB4.out z2), (kpc HB4.out z3), (kpc HB4.out z4), (kpc HB4.out z5), (kpc HB4.out z6), (kpc HB4.out z7), (kpc HB4.out z8), (kpc HB4.out z9), (kpc HB4.out z10), (kpc HB4.out z11), (kpc HB4.out z12), (kpc HB4.out z13), (kpc HB4.out z14)⟩ (fun hHeld => ?_)
                clear hK K
                refine norm_ (a' := ?_) ?_ ?_
                rotate_left
                ·show Act.put _ (some 174) _ = _
                 simp only [Act.put, List.setIfInBounds_toArray, List.set_cons_zero, List.set_cons_succ, i64_w, i32_w]
                 rfl
                refine pureS_ (i := 17) (N := some 175) (v := ?_) (a' := ?_) rfl rfl (by kernel_rfl) (fun _ _ _ h => h) (Or.inl ⟨by rfl, ?_⟩) ?_ ?_
                rotate_left; (· intro w'; go_simp; with_reducible rfl); rotate_left; (· simp only [Act.put, List.setIfInBounds_toArray, List.set_cons_zero, List.set_cons_succ, i64_w, i32_w]; rfl)
                refine pureS_ (i := 18) (N := some 176) (v := ?_) (a' := ?_) rfl rfl (by kernel_rfl) (fun _ _ _ h => h) (Or.inl ⟨by rfl, ?_⟩) ?_ ?_
                rotate_left; (· intro w'; go_simp; with_reducible rfl); rotate_left; (· simp only [Act.put, List.setIfInBounds_toArray, List.set_cons_zero, List.set_cons_succ, i64_w, i32_w]; rfl)
                refine takeS_ (i := 19) (N := some 177) (v := ?_) (a' := ?_) rfl rfl (by kernel_rfl) (fun _ _ _ h => h) (Or.inl ⟨by rfl, ?_⟩) hHeld ?_ ?_
                rotate_left; (· rintro w' ⟨s0, s1, s2, s3, s4, s5, s6, s7, s8, s9, s10, s11, s12, s13, s14⟩; go_simp; with_reducible rfl); rotate_left; (· simp only [Act.put, List.setIfInBounds_toArray, List.set_cons_zero, List.set_cons_succ, i64_w, i32_w]; rfl)
                refine oneS_ (i := 20) (N := some 178) rfl rfl (by kernel_rfl) (by decide) (fun K hK => ?_)
                refine R_make_step (Kd.int .u8) (w0 := wr) wr.heap.size 5 (by rfl) (N := 178) rfl 26 _ _ rfl 2000 rfl rfl Try.underlying26 (.int .u8 0) 1 info5x rfl (by decide) (by omega) 0 (ok := fun _ => True) (okp := fun _ => True) rfl (fun _ hk => hk) trivial (by omega) (by omega) HB4.out HB4.out.size ?_
                intro v20 W5_ HV20 hb5 _ _
                obtain ⟨z20, ez20⟩ : ∃ z : List Int, List.replicate (2000 : Int).toNat (0 : Int) = z := ⟨_, rfl⟩
                rw [ez20] at HV20
                have hbz := zeros_byte ez20
                obtain ⟨A20, c20, rfl, hc20, HC20⟩ := R_reads HV20
                have HB5 := kAs hb5
                clear ez20 HV20 hb5
                refine hK.out _ _ ⟨(kpc HB5.out z0), (kpc HB5.out z1), (kpc HB5.out z2), (kpc HB5.out z3), (kpc HB5.out z4), (kpc HB5.out z5), (kpc HB5.out z6), (kpc HB5.out z7), (kpc HB5.out z8), (kpc HB5.out z9), (kpc HB5.out z10), (kpc HB5.out z11), (kpc HB5.out z12), (kpc HB5.out z13), (kpc HB5.out z14)⟩ (fun hHeld => ?_)
                clear hK K
                refine norm_ (a' := ?_) ?_ ?_
                rotate_left
                ·show Act.put _ (some 178) _ = _
                 simp only [Act.put, List.setIfInBounds_toArray, List.set_cons_zero, List.set_cons_succ, i64_w, i32_w]
                 rfl
                refine oneS_ (i := 21) (N := some 179) rfl rfl (by kernel_rfl) (by decide) (fun K hK => ?_)
                refine goes_ Try.func3 (by kernel_rfl) rfl #[.agg #[.int .i64 1, .int .i64 0, .int .i64 0, .slice Ao55 y336.length co55, .slice (some ad355) xq.length co80], .slice A20 z20.length c20] (by rfl) rfl rfl (by simp only [List.map_toArray, List.map_cons, List.map_nil]; rfl) ?_
                with_reducible refine (JournalBytes_calls 1 0 0 Ao55 co55 y336 (some ad355) co80 xq A20 c20 z20 _ (C_below HP7.out HB5.out) HP7n.out (C_below HS7.out HB5.out) HS7n.out HC20 hc20 hbz).mono ?_
                rintro e W6_ ⟨rfl, hb⟩
                refine ⟨_, rfl, ?_⟩
                have HB6 := kAs (below_then HB5.out HB5.out.size hb)
                refine hK.out _ _ ⟨(kpc HB6.out z0), (kpc HB6.out z1), (kpc HB6.out z2), (kpc HB6.out z3), (kpc HB6.out z4), (kpc HB6.out z5), (kpc HB6.out z6), (kpc HB6.out z7), (kpc HB6.out z8), (kpc HB6.out z9), (kpc HB6.out z10), (kpc HB6.out z11), (kpc HB6.out z12), (kpc HB6.out z13), (kpc HB6.out z14)⟩ (fun hHeld => ?_)
                clear hK K
                refine norm_ (a' := ?_) ?_ ?_
                rotate_left
                ·show Act.put _ (some 179) _ = _
                 simp only [Act.put, List.setIfInBounds_toArray, List.set_cons_zero, List.set_cons_succ, i64_w, i32_w]
                 rfl
                refine pureS_ (i := 22) (N := some 180) (v := ?_) (a' := ?_) rfl rfl (by kernel_rfl) (fun _ _ _ h => h) (Or.inl ⟨by rfl, ?_⟩) ?_ ?_
                rotate_left; (· intro w'; go_simp; with_reducible rfl); rotate_left; (· simp only [Act.put, List.setIfInBounds_toArray, List.set_cons_zero, List.set_cons_succ, i64_w, i32_w]; rfl)
                refine pureS_ (i := 23) (N := some 181) (v := ?_) (a' := ?_) rfl rfl (by kernel_rfl) (fun _ _ _ h => h) (Or.inl ⟨by rfl, ?_⟩) ?_ ?_
                rotate_left; (· intro w'; go_simp; with_reducible rfl); rotate_left; (· simp only [Act.put, List.setIfInBounds_toArray, List.set_cons_zero, List.set_cons_succ, i64_w, i32_w]; rfl)
                refine takeS_ (i := 24) (N := some 182) (v := ?_) (a' := ?_) rfl rfl (by kernel_rfl) (fun _ _ _ h => h) (Or.inl ⟨by rfl, ?_⟩) hHeld ?_ ?_
                rotate_left; (· rintro w' ⟨s0, s1, s2, s3, s4, s5, s6, s7, s8, s9, s10, s11, s12, s13, s14⟩; go_simp; with_reducible rfl); rotate_left; (· simp only [Act.put, List.setIfInBounds_toArray, List.set_cons_zero, List.set_cons_succ, i64_w, i32_w]; rfl)
                refine oneS_ (i := 25) (N := some 183) rfl rfl (by kernel_rfl) (by decide) (fun K hK => ?_)
                refine goes_ Try.func12 (by kernel_rfl) rfl #[.agg #[.int .i64 1, .int .i64 0, .int .i64 0, .slice Ao89 y346.length co89, .slice (some ad355) xq.length co80]] (by rfl) rfl rfl (by simp only [List.map_toArray, List.map_cons, List.map_nil]; rfl) ?_
                with_reducible refine (journal_Check.calls 1 0 0 Ao89 co89 y346 (some ad355) co80 xq 2 _ (C_below HP9.out HB6.out) HP9n.out (C_below HS7.out HB6.out) HS7n.out hck.out).mono ?_
                rintro e W7_ ⟨rfl, hb⟩
                refine ⟨_, rfl, ?_⟩
                have HB7 := kAs (below_then HB6.out HB6.out.size hb)
                refine hK.out _ _ ⟨(kpc HB7.out z0), (kpc HB7.out z1), (kpc HB7.out z2), (kpc HB7.out z3), (kpc HB7.out z4), (kpc HB7.out z5), (kpc HB7.out z6), (kpc HB7.out z7), (kpc HB7.out z8), (kpc HB7.out z9), (kpc HB7.out z10), (kpc HB7.out z11), (kpc HB7.out z12), (kpc HB7.out z13), (kpc HB7.out z14)⟩ (fun hHeld => ?_)
                clear hK K
                refine norm_ (a' := ?_) ?_ ?_
                rotate_left
                ·show Act.put _ (some 183) _ = _
                 simp only [Act.put, List.setIfInBounds_toArray, List.set_cons_zero, List.set_cons_succ, i64_w, i32_w]
                 rfl
                refine pureS_ (i := 26) (N := some 184) (v := ?_) (a' := ?_) rfl rfl (by kernel_rfl) (fun _ _ _ h => h) (Or.inl ⟨by rfl, ?_⟩) ?_ ?_
                rotate_left; (· intro w'; go_simp; with_reducible rfl); rotate_left; (· simp only [Act.put, List.setIfInBounds_toArray, List.set_cons_zero, List.set_cons_succ, i64_w, i32_w]; rfl)
                refine pureS_ (i := 27) (N := some 185) (v := ?_) (a' := ?_) rfl rfl (by kernel_rfl) (fun _ _ _ h => h) (Or.inl ⟨by rfl, ?_⟩) ?_ ?_
                rotate_left; (· intro w'; go_simp; with_reducible rfl); rotate_left; (· simp only [Act.put, List.setIfInBounds_toArray, List.set_cons_zero, List.set_cons_succ, i64_w, i32_w]; rfl)
                refine pureS_ (i := 28) (N := some 0) (v := ?_) (a' := ?_) rfl rfl (by kernel_rfl) (fun _ _ _ h => h) (Or.inl ⟨by rfl, ?_⟩) ?_ ?_
                rotate_left; (· intro w'; go_simp; with_reducible rfl); rotate_left; (· simp only [Act.put, List.setIfInBounds_toArray, List.set_cons_zero, List.set_cons_succ, i64_w, i32_w]; rfl)
                refine done_ (by kernel_rfl) ?_
                go_wp2_with fail
                go_ret
                exact ⟨rfl, below_then HB.out HB.out.size HB7.out⟩
            ·rw [if_neg c71] at H
             exact absurd H (by simp)
           ·rw [if_neg c70] at H
            exact absurd H (by simp)
          ·rw [if_neg c69] at H
           exact absurd H (by simp)
         ·rw [if_neg c68] at H
          exact absurd H (by simp)
     ·rw [if_neg c43] at H
      exact absurd H (by simp)
    ·rw [if_neg c42] at H
     exact absurd H (by simp)

def drayagelaw20_JournalKnown.Pure : Prop := ∃ k, drayagelaw20_JournalKnown.f k  = some true
theorem drayagelaw20_JournalKnown.walk (P : drayagelaw20_JournalKnown.Pure)  (w : World)  :
  Calls Try.prog 8 #[] w fun e w' => e = .returned (.bool true) ∧ Below w.heap.size w w' := by
 obtain ⟨k, h⟩ := P  
 refine (drayagelaw20_JournalKnown.calls k  true w h).mono ?_
 rintro e w' ⟨rfl, hd⟩
 exact ⟨rfl, hd⟩

end Go.Proofs.Ytagkgddkpnbfoaa.P
