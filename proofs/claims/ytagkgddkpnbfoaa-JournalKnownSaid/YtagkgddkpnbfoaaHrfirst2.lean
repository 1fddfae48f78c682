import Derived.Test.YtagkgddkpnbfoaaHrfirst
namespace Go.Proofs.Ytagkgddkpnbfoaa.P
set_option linter.unusedVariables false
set_option linter.unusedSimpArgs false
open Go.RowKit Go.Proofs.YtagkgddkpnbfoaaW.PrintWords Go.Proofs.YtagkgddkpnbfoaaW.PrintLast Go.Proofs.YtagkgddkpnbfoaaW.PrintMore
theorem rsum_at (A : Option Addr) (n c : Nat) (l : List Int) (w : World) (hn : n = l.length) (hr : Kd.C (Kd.int .u8) w A l.length l) (hc : n ≤ c) (hb : ∀ x ∈ l, isByte x) (hm : l.length ≤ 140737488355328) :
  Calls Try.prog 16 #[.slice A n c] w fun e w' => e = .returned (.int .i64 (sumL l)) ∧ Drawn0 w w' := by
 subst hn
 exact drayageref20_Sum.calls (l.length + 1) A c l _ w hr hc (rsum_f l hb hm _ (Nat.lt_succ_self _))
theorem parse_at (A : Option Addr) (n c : Nat) (b : List Int) (w : World) (hn : n = b.length) (hr : Kd.C (Kd.int .u8) w A b.length b) (hc : n ≤ c) (hb : ∀ x ∈ b, isByte x) (h2 : 2 ≤ b.length) (hm : b.length ≤ 140737488355328) :
  Calls Try.prog 45 #[.slice A n c] w (ParseOut w b) := by
 subst hn
 exact parse_calls A c b w hr hc hb h2 hm
set_option maxRecDepth 100000 in
set_option maxHeartbeats 3200000 in
theorem rfirst_main (A : Option Addr) (c : Nat) (b : List Int) (w : World) (hr : Kd.C (Kd.int .u8) w A b.length b) (hc : b.length ≤ c) (hb : ∀ x ∈ b, isByte x) (h8 : ¬ b.length < 8) (hm : b.length ≤ 140737488355328) (hh : fHead b = true) :
  Calls Try.prog 35 #[.slice A b.length c] w (FirstOut w b) := by
 obtain ⟨ad, rfl, HB⟩ := Byts.of hr (by omega)
 have x0 : w.cell? ad = some (.int .u8 (gB b 0)) := HB.zero (by omega)
 have hbk := World.block_lt_of_cell? w _ x0
 have x1 := HB.at_ 0 (by omega)
 have x2 := HB.at_ 1 (by omega)
 have x3 := HB.at_ 2 (by omega)
 simp only [Nat.reduceAdd] at x1 x2 x3
 have q0 := gB_byte hb 0
 have q1 := gB_byte hb 1
 have q2 := gB_byte hb 2
 have q3 := gB_byte hb 3
 have w0 : IntKind.i64.wrap (gB b 0) = gB b 0 := IntWalk.i64_in _ (by unfold isByte at q0; omega)
 have w1 : IntKind.i64.wrap (gB b 1) = gB b 1 := IntWalk.i64_in _ (by unfold isByte at q1; omega)
 have w2 : IntKind.i64.wrap (gB b 2) = gB b 2 := IntWalk.i64_in _ (by unfold isByte at q2; omega)
 have w3 : IntKind.i64.wrap (gB b 3) = gB b 3 := IntWalk.i64_in _ (by unfold isByte at q3; omega)
 have u1 : IntKind.i64.wrap (256 * gB b 0) = 256 * gB b 0 := IntWalk.i64_in _ (by unfold isByte at q0; omega)
 have u2 : IntKind.i64.wrap (256 * gB b 0 + gB b 1) = gT b 0 := IntWalk.i64_in _ (by unfold isByte at q0 q1; omega)
 have u3 : IntKind.i64.wrap (256 * gB b 2) = 256 * gB b 2 := IntWalk.i64_in _ (by unfold isByte at q2; omega)
 have u4 : IntKind.i64.wrap (256 * gB b 2 + gB b 3) = gT b 2 := IntWalk.i64_in _ (by unfold isByte at q2 q3; omega)
 obtain ⟨n0, n1⟩ := gT_range hb 0
 have u5 : IntKind.i64.wrap (65535 - gT b 0) = 65535 - gT b 0 := IntWalk.i64_in _ (by omega)
 have h1 : decide (b.length < 8) = false := decide_eq_false h8
 have h2 : ¬ (b.length : Int) < 8 := by omega
 have l0 : (0 : Int) < b.length := by omega
 have l1 : (1 : Int) < b.length := by omega
 have l2 : (2 : Int) < b.length := by omega
 have l3 : (3 : Int) < b.length := by omega
 have m1 : 1 < b.length := by omega
 have m2 : 2 < b.length := by omega
 have m3 : 3 < b.length := by omega
 have m0 : 0 < b.length := by omega
 have hh0 := hh
 simp only [fHead, Bool.and_eq_true, decide_eq_true_eq] at hh
 obtain ⟨h8', hcm, hn8, hnl⟩ := hh
 have hN : Aside0 (gT b 0 = (fN b : Int)) := ⟨by unfold fN; omega⟩
 have hn1 : 8 ≤ fN b := by have := hN.out; omega
 have hn2 : fN b ≤ b.length := by have := hN.out; omega
 have hn3 : fN b ≤ 65535 := by have := hN.out; omega
 have h3 : (gT b 2 != 65535 - (fN b : Int)) = false := by rw [bne_eq_false_iff_eq, hcm, hN.out]
 have h4 : decide ((fN b : Int) < 8) = false := decide_eq_false (by omega)
 have h4b : decide (fN b < 8) = false := decide_eq_false (by omega)
 have h5 : decide ((b.length : Int) < (fN b : Int)) = false := decide_eq_false (by omega)
 have h5b : decide (b.length < fN b) = false := decide_eq_false (by omega)
 rw [hN.out] at u2 u5
 have u6 : IntKind.i64.wrap ((fN b : Int) - 2) = (fN b : Int) - 2 := IntWalk.i64_in _ (by omega)
 have u7 : IntKind.i64.wrap ((fN b : Int) - 1) = (fN b : Int) - 1 := IntWalk.i64_in _ (by omega)
 have x4 : w.cell? (ad.add (fN b - 2)) = some (.int .u8 (gB b (fN b - 2))) := HB _ (by omega)
 have x5 : w.cell? (ad.add (fN b - 1)) = some (.int .u8 (gB b (fN b - 1))) := HB _ (by omega)
 have q4 := gB_byte hb (fN b - 2)
 have q5 := gB_byte hb (fN b - 1)
 have w4 : IntKind.i64.wrap (gB b (fN b - 2)) = gB b (fN b - 2) := IntWalk.i64_in _ (by unfold isByte at q4; omega)
 have w5 : IntKind.i64.wrap (gB b (fN b - 1)) = gB b (fN b - 1) := IntWalk.i64_in _ (by unfold isByte at q5; omega)
 have u8 : IntKind.i64.wrap (256 * gB b (fN b - 2)) = 256 * gB b (fN b - 2) := IntWalk.i64_in _ (by unfold isByte at q4; omega)
 have u9 : IntKind.i64.wrap (256 * gB b (fN b - 2) + gB b (fN b - 1)) = 256 * gB b (fN b - 2) + gB b (fN b - 1) := IntWalk.i64_in _ (by unfold isByte at q4 q5; omega)
 have hFS : (sumL (b.take (fN b - 2)) != 256 * gB b (fN b - 2) + gB b (fN b - 1)) = !fSum b := by
  have e : gT ((b.take (fN b)).drop (fN b - 2)) 0 = 256 * gB b (fN b - 2) + gB b (fN b - 1) := by
   rw [gT_drop]
   unfold gT
   rw [gB_take (by omega), gB_take (by omega)]
   rw [show fN b - 2 + 0 = fN b - 2 by omega, show fN b - 2 + 1 = fN b - 1 by omega]
  unfold fSum
  rw [e]
  cases h : decide (256 * gB b (fN b - 2) + gB b (fN b - 1) = sumL (b.take (fN b - 2))) <;> simp_all <;> omega
 have j1 : (0 : Int) ≤ (fN b : Int) - 2 ∧ (fN b : Int) - 2 ≤ (c : Int) := by omega
 have j2 : (0 : Int) ≤ (fN b : Int) - 2 ∧ (fN b : Int) - 2 < (b.length : Int) := by omega
 have j3 : (0 : Int) ≤ (fN b : Int) - 1 ∧ (fN b : Int) - 1 < (b.length : Int) := by omega
 have j9 : (2 : Int) ≤ (fN b : Int) := by omega
 have j10 : (1 : Int) ≤ (fN b : Int) := by omega
 have j4 := j1.1
 have j5 := j1.2
 have j6 := j2.2
 have j7 := j3.1
 have j8 := j3.2
 have t1 : ((fN b : Int) - 2).toNat = fN b - 2 := by omega
 have t2 : ((fN b : Int) - 1).toNat = fN b - 1 := by omega
 have LT : Aside0 (fN b - 2 = (b.take (fN b - 2)).length) := ⟨by rw [List.length_take]; omega⟩
 have HXT := Aside0.mk (take_byte hb (fN b - 2))
 have HX4 : Aside0 (∀ x ∈ fMid b, isByte x) := ⟨mid_byte hb (fN b - 2) 4⟩
 have L4 : Aside0 (fN b - 2 - 4 = (fMid b).length) := ⟨by unfold fMid; rw [List.length_drop, List.length_take]; omega⟩
 have C4 : Aside0 (Kd.C (Kd.int .u8) w (Option.map (fun x => x.add 4) (some ad)) (fMid b).length (fMid b)) := ⟨cut_at (some ad) c b 4 (fN b - 2) w (by omega) (by omega) hc (by omega) hr⟩
 have hb0 : Aside0 (Below w.heap.size w (w.alloc (.cells #[.int .i64 0, .int .i64 0, .int .i64 0, .slice none 0 0, .slice none 0 0] 25))) := ⟨below_alloc (Below.refl _ _) _⟩
 have LC : Aside0 (Kd.C (Kd.int .u8) (w.alloc (.cells #[.int .i64 0, .int .i64 0, .int .i64 0, .slice none 0 0, .slice none 0 0] 25)) (some ad) (b.take (fN b - 2)).length (b.take (fN b - 2))) := ⟨take_u8 (Kd.C_below hr hb0.out) _ (by omega)⟩
 clear hr hb HB hcm hn8 hnl h8'
 go_enter Try.func35, Try.ntmps35
 go_wp2_with fail
 go_region_held3 (fun w' => w'.cell? ad = some (.int .u8 (gB b 0)) ∧ w'.cell? ⟨ad.block, ad.off + 1, none⟩ = some (.int .u8 (gB b 1)))
  (first | go_keep)
  (fail)
 have e2 : ((w.alloc (.cells #[.int .i64 0, .int .i64 0, .int .i64 0, .slice none 0 0, .slice none 0 0] 25))).drew.cell? ⟨ad.block, ad.off + 2, none⟩ = _ := (hb0.out.cell (p := ⟨ad.block, ad.off + 2, none⟩) hbk).trans x2
 have e3 : ((w.alloc (.cells #[.int .i64 0, .int .i64 0, .int .i64 0, .slice none 0 0, .slice none 0 0] 25))).drew.cell? ⟨ad.block, ad.off + 3, none⟩ = _ := (hb0.out.cell (p := ⟨ad.block, ad.off + 3, none⟩) hbk).trans x3
 have e4 : ((w.alloc (.cells #[.int .i64 0, .int .i64 0, .int .i64 0, .slice none 0 0, .slice none 0 0] 25))).drew.cell? (ad.add (fN b - 2)) = _ := (hb0.out.cell (p := ad.add (fN b - 2)) (by rw [add_block]; exact hbk)).trans x4
 have e5 : ((w.alloc (.cells #[.int .i64 0, .int .i64 0, .int .i64 0, .slice none 0 0, .slice none 0 0] 25))).drew.cell? (ad.add (fN b - 1)) = _ := (hb0.out.cell (p := ad.add (fN b - 1)) (by rw [add_block]; exact hbk)).trans x5
 go_wp2_with fail
 refine start_ (n := 45) (S := fun w' => w'.cell? ⟨ad.block, ad.off + 2, none⟩ = some (.int .u8 (gB b 2)) ∧ w'.cell? ⟨ad.block, ad.off + 3, none⟩ = some (.int .u8 (gB b 3)) ∧ w'.cell? (ad.add (fN b - 2)) = some (.int .u8 (gB b (fN b - 2))) ∧ w'.cell? (ad.add (fN b - 1)) = some (.int .u8 (gB b (fN b - 1)))) (ds := []) #[false, false, false, false, false, false, false, false, false, false, false, false, false, false, false, false, false, false, false, false, false, false, false, false, false, false, false, false, false, false, false, false, false, false, false, false, false, false, false, false, false, false, false, false, false] (by kernel_rfl) rfl rfl ⟨e2, e3, e4, e5⟩ (fun hHeld => ?_)
 refine pureS_ (i := 0) (N := some 22) (v := ?_) (a' := ?_) rfl rfl (by kernel_rfl) (fun _ _ _ h => h) (Or.inl ⟨by rfl, ?_⟩) ?_ ?_
 rotate_left; (· intro w'; go_simp; with_reducible rfl); rotate_left; (· simp only [Act.put, List.setIfInBounds_toArray, List.set_cons_zero, List.set_cons_succ, i64_w, i32_w]; rfl)
 refine pureS_ (i := 1) (N := some 23) (v := ?_) (a' := ?_) rfl rfl (by kernel_rfl) (fun _ _ _ h => h) (Or.inl ⟨by rfl, ?_⟩) ?_ ?_
 rotate_left; (· intro w'; go_simp; with_reducible rfl); rotate_left; (· simp only [Act.put, List.setIfInBounds_toArray, List.set_cons_zero, List.set_cons_succ, i64_w, i32_w]; rfl)
 refine pureS_ (i := 5) (N := some 27) (v := ?_) (a' := ?_) rfl rfl (by kernel_rfl) (fun _ _ _ h => h) (Or.inl ⟨by rfl, ?_⟩) ?_ ?_
 rotate_left; (· intro w'; go_simp; with_reducible rfl); rotate_left; (· simp only [Act.put, List.setIfInBounds_toArray, List.set_cons_zero, List.set_cons_succ, i64_w, i32_w]; rfl)
 refine pureS_ (i := 6) (N := some 28) (v := ?_) (a' := ?_) rfl rfl (by kernel_rfl) (fun _ _ _ h => h) (Or.inl ⟨by rfl, ?_⟩) ?_ ?_
 rotate_left; (· intro w'; go_simp; with_reducible rfl); rotate_left; (· simp only [Act.put, List.setIfInBounds_toArray, List.set_cons_zero, List.set_cons_succ, i64_w, i32_w]; rfl)
 refine pureS_ (i := 10) (N := some 32) (v := ?_) (a' := ?_) rfl rfl (by kernel_rfl) (fun _ _ _ h => h) (Or.inl ⟨by rfl, ?_⟩) ?_ ?_
 rotate_left; (· intro w'; go_simp; with_reducible rfl); rotate_left; (· simp only [Act.put, List.setIfInBounds_toArray, List.set_cons_zero, List.set_cons_succ, i64_w, i32_w]; rfl)
 refine pureS_ (i := 11) (N := some 33) (v := ?_) (a' := ?_) rfl rfl (by kernel_rfl) (fun _ _ _ h => h) (Or.inl ⟨by rfl, ?_⟩) ?_ ?_
 rotate_left; (· intro w'; go_simp; with_reducible rfl); rotate_left; (· simp only [Act.put, List.setIfInBounds_toArray, List.set_cons_zero, List.set_cons_succ, i64_w, i32_w]; rfl)
 refine takeS_ (i := 2) (N := some 24) (v := ?_) (a' := ?_) rfl rfl (by kernel_rfl) (fun _ _ _ h => h) (Or.inl ⟨by rfl, ?_⟩) hHeld ?_ ?_
 rotate_left; (· rintro w' ⟨s0, s1, s2, s3⟩; go_simp; with_reducible rfl); rotate_left; (· simp only [Act.put, List.setIfInBounds_toArray, List.set_cons_zero, List.set_cons_succ, i64_w, i32_w]; rfl)
 refine pureS_ (i := 3) (N := some 25) (v := ?_) (a' := ?_) rfl rfl (by kernel_rfl) (fun _ _ _ h => h) (Or.inl ⟨by rfl, ?_⟩) ?_ ?_
 rotate_left; (· intro w'; go_simp; with_reducible rfl); rotate_left; (· simp only [Act.put, List.setIfInBounds_toArray, List.set_cons_zero, List.set_cons_succ, i64_w, i32_w]; rfl)
 refine pureS_ (i := 4) (N := some 26) (v := ?_) (a' := ?_) rfl rfl (by kernel_rfl) (fun _ _ _ h => h) (Or.inl ⟨by rfl, ?_⟩) ?_ ?_
 rotate_left; (· intro w'; go_simp; with_reducible rfl); rotate_left; (· simp only [Act.put, List.setIfInBounds_toArray, List.set_cons_zero, List.set_cons_succ, i64_w, i32_w]; rfl)
 refine takeS_ (i := 7) (N := some 29) (v := ?_) (a' := ?_) rfl rfl (by kernel_rfl) (fun _ _ _ h => h) (Or.inl ⟨by rfl, ?_⟩) hHeld ?_ ?_
 rotate_left; (· rintro w' ⟨s0, s1, s2, s3⟩; go_simp; with_reducible rfl); rotate_left; (· simp only [Act.put, List.setIfInBounds_toArray, List.set_cons_zero, List.set_cons_succ, i64_w, i32_w]; rfl)
 refine pureS_ (i := 8) (N := some 30) (v := ?_) (a' := ?_) rfl rfl (by kernel_rfl) (fun _ _ _ h => h) (Or.inl ⟨by rfl, ?_⟩) ?_ ?_
 rotate_left; (· intro w'; go_simp; with_reducible rfl); rotate_left; (· simp only [Act.put, List.setIfInBounds_toArray, List.set_cons_zero, List.set_cons_succ, i64_w, i32_w]; rfl)
 refine pureS_ (i := 9) (N := some 31) (v := ?_) (a' := ?_) rfl rfl (by kernel_rfl) (fun _ _ _ h => h) (Or.inl ⟨by rfl, ?_⟩) ?_ ?_
 rotate_left; (· intro w'; go_simp; with_reducible rfl); rotate_left; (· simp only [Act.put, List.setIfInBounds_toArray, List.set_cons_zero, List.set_cons_succ, i64_w, i32_w]; rfl)
 refine pureS_ (i := 12) (N := some 34) (v := ?_) (a' := ?_) rfl rfl (by kernel_rfl) (fun _ _ _ h => h) (Or.inl ⟨by rfl, ?_⟩) ?_ ?_
 rotate_left; (· intro w'; go_simp; with_reducible rfl); rotate_left; (· simp only [Act.put, List.setIfInBounds_toArray, List.set_cons_zero, List.set_cons_succ, i64_w, i32_w]; rfl)
 refine pureS_ (i := 13) (N := some 35) (v := ?_) (a' := ?_) rfl rfl (by kernel_rfl) (fun _ _ _ h => h) (Or.inl ⟨by rfl, ?_⟩) ?_ ?_
 rotate_left; (· intro w'; go_simp; with_reducible rfl); rotate_left; (· simp only [Act.put, List.setIfInBounds_toArray, List.set_cons_zero, List.set_cons_succ, i64_w, i32_w]; rfl)
 refine pureS_ (i := 14) (N := some 36) (v := ?_) (a' := ?_) rfl rfl (by kernel_rfl) (fun _ _ _ h => h) (Or.inl ⟨by rfl, ?_⟩) ?_ ?_
 rotate_left; (· intro w'; go_simp; with_reducible rfl); rotate_left; (· simp only [Act.put, List.setIfInBounds_toArray, List.set_cons_zero, List.set_cons_succ, i64_w, i32_w]; rfl)
 refine pureS_ (i := 15) (N := some 37) (v := ?_) (a' := ?_) rfl rfl (by kernel_rfl) (fun _ _ _ h => h) (Or.inl ⟨by rfl, ?_⟩) ?_ ?_
 rotate_left; (· intro w'; go_simp; with_reducible rfl); rotate_left; (· simp only [Act.put, List.setIfInBounds_toArray, List.set_cons_zero, List.set_cons_succ, i64_w, i32_w]; rfl)
 refine pureS_ (i := 16) (N := some 38) (v := ?_) (a' := ?_) rfl rfl (by kernel_rfl) (fun _ _ _ h => h) (Or.inl ⟨by rfl, ?_⟩) ?_ ?_
 rotate_left; (· intro w'; go_simp; with_reducible rfl); rotate_left; (· simp only [Act.put, List.setIfInBounds_toArray, List.set_cons_zero, List.set_cons_succ, i64_w, i32_w]; rfl)
 refine pureS_ (i := 17) (N := some 39) (v := ?_) (a' := ?_) rfl rfl (by kernel_rfl) (fun _ _ _ h => h) (Or.inl ⟨by rfl, ?_⟩) ?_ ?_
 rotate_left; (· intro w'; go_simp; with_reducible rfl); rotate_left; (· simp only [Act.put, List.setIfInBounds_toArray, List.set_cons_zero, List.set_cons_succ, i64_w, i32_w]; rfl)
 refine pureS_ (i := 18) (N := some 40) (v := ?_) (a' := ?_) rfl rfl (by kernel_rfl) (fun _ _ _ h => h) (Or.inl ⟨by rfl, ?_⟩) ?_ ?_
 rotate_left; (· intro w'; go_simp; with_reducible rfl); rotate_left; (· simp only [Act.put, List.setIfInBounds_toArray, List.set_cons_zero, List.set_cons_succ, i64_w, i32_w]; rfl)
 refine pureS_ (i := 19) (N := some 41) (v := ?_) (a' := ?_) rfl rfl (by kernel_rfl) (fun _ _ _ h => h) (Or.inl ⟨by rfl, ?_⟩) ?_ ?_
 rotate_left; (· intro w'; go_simp; with_reducible rfl); rotate_left; (· simp only [Act.put, List.setIfInBounds_toArray, List.set_cons_zero, List.set_cons_succ, i64_w, i32_w]; rfl)
 refine pureS_ (i := 20) (N := some 42) (v := ?_) (a' := ?_) rfl rfl (by kernel_rfl) (fun _ _ _ h => h) (Or.inl ⟨by rfl, ?_⟩) ?_ ?_
 rotate_left; (· intro w'; go_simp; with_reducible rfl); rotate_left; (· simp only [Act.put, List.setIfInBounds_toArray, List.set_cons_zero, List.set_cons_succ, i64_w, i32_w]; rfl)
 refine pureS_ (i := 21) (N := some 43) (v := ?_) (a' := ?_) rfl rfl (by kernel_rfl) (fun _ _ _ h => h) (Or.inl ⟨by rfl, ?_⟩) ?_ ?_
 rotate_left; (· intro w'; go_simp; with_reducible rfl); rotate_left; (· simp only [Act.put, List.setIfInBounds_toArray, List.set_cons_zero, List.set_cons_succ, i64_w, i32_w]; rfl)
 refine pureS_ (i := 22) (N := some 44) (v := ?_) (a' := ?_) rfl rfl (by kernel_rfl) (fun _ _ _ h => h) (Or.inl ⟨by rfl, ?_⟩) ?_ ?_
 rotate_left; (· intro w'; go_simp; with_reducible rfl); rotate_left; (· simp only [Act.put, List.setIfInBounds_toArray, List.set_cons_zero, List.set_cons_succ, i64_w, i32_w]; rfl)
 refine pureS_ (i := 23) (N := some 45) (v := ?_) (a' := ?_) rfl rfl (by kernel_rfl) (fun _ _ _ h => h) (Or.inl ⟨by rfl, ?_⟩) ?_ ?_
 rotate_left; (· intro w'; go_simp; with_reducible rfl); rotate_left; (· simp only [Act.put, List.setIfInBounds_toArray, List.set_cons_zero, List.set_cons_succ, i64_w, i32_w]; rfl)
 refine pureS_ (i := 24) (N := some 46) (v := ?_) (a' := ?_) rfl rfl (by kernel_rfl) (fun _ _ _ h => h) (Or.inl ⟨by rfl, ?_⟩) ?_ ?_
 rotate_left; (· intro w'; go_simp; with_reducible rfl); rotate_left; (· simp only [Act.put, List.setIfInBounds_toArray, List.set_cons_zero, List.set_cons_succ, i64_w, i32_w]; rfl)
 refine pureS_ (i := 25) (N := some 47) (v := ?_) (a' := ?_) rfl rfl (by kernel_rfl) (fun _ _ _ h => h) (Or.inl ⟨by rfl, ?_⟩) ?_ ?_
 rotate_left; (· intro w'; go_simp; with_reducible rfl); rotate_left; (· simp only [Act.put, List.setIfInBounds_toArray, List.set_cons_zero, List.set_cons_succ, i64_w, i32_w]; rfl)
 refine pureS_ (i := 26) (N := some 48) (v := ?_) (a' := ?_) rfl rfl (by kernel_rfl) (fun _ _ _ h => h) (Or.inl ⟨by rfl, ?_⟩) ?_ ?_
 rotate_left; (· intro w'; go_simp; with_reducible rfl); rotate_left; (· simp only [Act.put, List.setIfInBounds_toArray, List.set_cons_zero, List.set_cons_succ, i64_w, i32_w]; rfl)
 refine pureS_ (i := 27) (N := some 49) (v := ?_) (a' := ?_) rfl rfl (by kernel_rfl) (fun _ _ _ h => h) (Or.inl ⟨by rfl, ?_⟩) ?_ ?_
 rotate_left; (· intro w'; go_simp; with_reducible rfl); rotate_left; (· simp only [Act.put, List.setIfInBounds_toArray, List.set_cons_zero, List.set_cons_succ, i64_w, i32_w]; rfl)
 refine pureS_ (i := 29) (N := some 51) (v := ?_) (a' := ?_) rfl rfl (by kernel_rfl) (fun _ _ _ h => h) (Or.inl ⟨by rfl, ?_⟩) ?_ ?_
 rotate_left; (· intro w'; go_simp; with_reducible rfl); rotate_left; (· simp only [Act.put, List.setIfInBounds_toArray, List.set_cons_zero, List.set_cons_succ, i64_w, i32_w]; rfl)
 refine pureS_ (i := 30) (N := some 52) (v := ?_) (a' := ?_) rfl rfl (by kernel_rfl) (fun _ _ _ h => h) (Or.inl ⟨by rfl, ?_⟩) ?_ ?_
 rotate_left; (· intro w'; go_simp; with_reducible rfl); rotate_left; (· simp only [Act.put, List.setIfInBounds_toArray, List.set_cons_zero, List.set_cons_succ, i64_w, i32_w]; rfl)
 refine pureS_ (i := 31) (N := some 53) (v := ?_) (a' := ?_) rfl rfl (by kernel_rfl) (fun _ _ _ h => h) (Or.inl ⟨by rfl, ?_⟩) ?_ ?_
 rotate_left; (· intro w'; go_simp; with_reducible rfl); rotate_left; (· simp only [Act.put, List.setIfInBounds_toArray, List.set_cons_zero, List.set_cons_succ, i64_w, i32_w]; rfl)
 refine pureS_ (i := 32) (N := some 54) (v := ?_) (a' := ?_) rfl rfl (by kernel_rfl) (fun _ _ _ h => h) (Or.inl ⟨by rfl, ?_⟩) ?_ ?_
 rotate_left; (· intro w'; go_simp; with_reducible rfl); rotate_left; (· simp only [Act.put, List.setIfInBounds_toArray, List.set_cons_zero, List.set_cons_succ, i64_w, i32_w]; rfl)
 refine pureS_ (i := 36) (N := some 58) (v := ?_) (a' := ?_) rfl rfl (by kernel_rfl) (fun _ _ _ h => h) (Or.inl ⟨by rfl, ?_⟩) ?_ ?_
 rotate_left; (· intro w'; go_simp; with_reducible rfl); rotate_left; (· simp only [Act.put, List.setIfInBounds_toArray, List.set_cons_zero, List.set_cons_succ, i64_w, i32_w]; rfl)
 refine pureS_ (i := 37) (N := some 59) (v := ?_) (a' := ?_) rfl rfl (by kernel_rfl) (fun _ _ _ h => h) (Or.inl ⟨by rfl, ?_⟩) ?_ ?_
 rotate_left; (· intro w'; go_simp; with_reducible rfl); rotate_left; (· simp only [Act.put, List.setIfInBounds_toArray, List.set_cons_zero, List.set_cons_succ, i64_w, i32_w]; rfl)
 refine pureS_ (i := 38) (N := some 60) (v := ?_) (a' := ?_) rfl rfl (by kernel_rfl) (fun _ _ _ h => h) (Or.inl ⟨by rfl, ?_⟩) ?_ ?_
 rotate_left; (· intro w'; go_simp; with_reducible rfl); rotate_left; (· simp only [Act.put, List.setIfInBounds_toArray, List.set_cons_zero, List.set_cons_succ, i64_w, i32_w]; rfl)
 refine pureS_ (i := 39) (N := some 61) (v := ?_) (a' := ?_) rfl rfl (by kernel_rfl) (fun _ _ _ h => h) (Or.inl ⟨by rfl, ?_⟩) ?_ ?_
 rotate_left; (· intro w'; go_simp; with_reducible rfl); rotate_left; (· simp only [Act.put, List.setIfInBounds_toArray, List.set_cons_zero, List.set_cons_succ, i64_w, i32_w]; rfl)
 refine takeS_ (i := 33) (N := some 55) (v := ?_) (a' := ?_) rfl rfl (by kernel_rfl) (fun _ _ _ h => h) (Or.inl ⟨by rfl, ?_⟩) hHeld ?_ ?_
 rotate_left; (· rintro w' ⟨s0, s1, s2, s3⟩; go_simp; with_reducible rfl); rotate_left; (· simp only [Act.put, List.setIfInBounds_toArray, List.set_cons_zero, List.set_cons_succ, i64_w, i32_w]; rfl)
 refine pureS_ (i := 34) (N := some 56) (v := ?_) (a' := ?_) rfl rfl (by kernel_rfl) (fun _ _ _ h => h) (Or.inl ⟨by rfl, ?_⟩) ?_ ?_
 rotate_left; (· intro w'; go_simp; with_reducible rfl); rotate_left; (· simp only [Act.put, List.setIfInBounds_toArray, List.set_cons_zero, List.set_cons_succ, i64_w, i32_w]; rfl)
 refine pureS_ (i := 35) (N := some 57) (v := ?_) (a' := ?_) rfl rfl (by kernel_rfl) (fun _ _ _ h => h) (Or.inl ⟨by rfl, ?_⟩) ?_ ?_
 rotate_left; (· intro w'; go_simp; with_reducible rfl); rotate_left; (· simp only [Act.put, List.setIfInBounds_toArray, List.set_cons_zero, List.set_cons_succ, i64_w, i32_w]; rfl)
 refine takeS_ (i := 40) (N := some 62) (v := ?_) (a' := ?_) rfl rfl (by kernel_rfl) (fun _ _ _ h => h) (Or.inl ⟨by rfl, ?_⟩) hHeld ?_ ?_
 rotate_left; (· rintro w' ⟨s0, s1, s2, s3⟩; go_simp; with_reducible rfl); rotate_left; (· simp only [Act.put, List.setIfInBounds_toArray, List.set_cons_zero, List.set_cons_succ, i64_w, i32_w]; rfl)
 refine pureS_ (i := 41) (N := some 63) (v := ?_) (a' := ?_) rfl rfl (by kernel_rfl) (fun _ _ _ h => h) (Or.inl ⟨by rfl, ?_⟩) ?_ ?_
 rotate_left; (· intro w'; go_simp; with_reducible rfl); rotate_left; (· simp only [Act.put, List.setIfInBounds_toArray, List.set_cons_zero, List.set_cons_succ, i64_w, i32_w]; rfl)
 refine pureS_ (i := 42) (N := some 64) (v := ?_) (a' := ?_) rfl rfl (by kernel_rfl) (fun _ _ _ h => h) (Or.inl ⟨by rfl, ?_⟩) ?_ ?_
 rotate_left; (· intro w'; go_simp; with_reducible rfl); rotate_left; (· simp only [Act.put, List.setIfInBounds_toArray, List.set_cons_zero, List.set_cons_succ, i64_w, i32_w]; rfl)
 refine oneS_ (i := 28) (N := some 50) rfl rfl (by kernel_rfl) (by decide) (fun K hK => ?_)
 refine goes_ Try.func16 (by kernel_rfl) rfl #[.slice (some ad) (fN b - 2) c] (by rfl) rfl rfl (by simp only [List.map_toArray, List.map_cons, List.map_nil]; rfl) ?_
 with_reducible refine (rsum_at (some ad) (fN b - 2) c (b.take (fN b - 2)) _ LT.out (Kd.C_drew (Kd.C_drew LC.out)) (by omega) HXT.out (by rw [List.length_take]; omega)).mono ?_
 rintro e w4 ⟨rfl, ⟨q4, rfl⟩⟩
 refine ⟨_, rfl, ?_⟩
 refine hK.out _ _ ⟨hHeld.1, hHeld.2.1, hHeld.2.2.1, hHeld.2.2.2⟩ (fun hHeld => ?_)
 clear hK K
 refine norm_ (a' := ?_) ?_ ?_
 rotate_left
 ·show Act.put _ (some 50) _ = _
  simp only [Act.put, List.setIfInBounds_toArray, List.set_cons_zero, List.set_cons_succ, i64_w, i32_w]
  rfl
 refine pureS_ (i := 43) (N := some 65) (v := ?_) (a' := ?_) rfl rfl (by kernel_rfl) (fun _ _ _ h => h) (Or.inl ⟨by rfl, ?_⟩) ?_ ?_
 rotate_left; (· intro w'; go_simp; with_reducible rfl); rotate_left; (· simp only [Act.put, List.setIfInBounds_toArray, List.set_cons_zero, List.set_cons_succ, i64_w, i32_w]; rfl)
 refine pureS_ (i := 44) (N := some 66) (v := ?_) (a' := ?_) rfl rfl (by kernel_rfl) (fun _ _ _ h => h) (Or.inl ⟨by rfl, ?_⟩) ?_ ?_
 rotate_left; (· intro w'; go_simp; with_reducible rfl); rotate_left; (· simp only [Act.put, List.setIfInBounds_toArray, List.set_cons_zero, List.set_cons_succ, i64_w, i32_w]; rfl)
 refine done_ (by kernel_rfl) ?_
 have hB4 : Aside0 (Below w.heap.size w (((w.alloc (.cells #[.int .i64 0, .int .i64 0, .int .i64 0, .slice none 0 0, .slice none 0 0] 25)).drew.drew).drewN q4)) := ⟨pw_below_drewN (below_drew (below_drew hb0.out)) _⟩
 have hBk : Aside0 ((((w.alloc (.cells #[.int .i64 0, .int .i64 0, .int .i64 0, .slice none 0 0, .slice none 0 0] 25)).drew.drew).drewN q4).heap[w.heap.size]? = some (.cells #[.int .i64 0, .int .i64 0, .int .i64 0, .slice none 0 0, .slice none 0 0] 25 (0, 0))) := ⟨heap_alloc_new w _⟩
 clear hHeld e2 e3 e4 e5 LC hb0
 cases hs : fSum b with
 | false =>
  rw [hs] at hFS
  have hno : firstOk b = false := by unfold firstOk; rw [hs]; simp
  go_wp2_with fail
  refine bodyPost_ret (v := .tuple #[.agg #[.int .i64 0, .int .i64 0, .int .i64 0, .slice none 0 0, .slice none 0 0], .int .i64 0, .bool false]) (by simp [results, Try.results35, go_sem]) rfl (FirstOut.no hno rfl ?_)
  exact (((((pw_below_drewN (below_alloc (Below.refl _ _) _) _).setCell (Nat.le_refl _) _).setCell (Nat.le_refl _) _).setCell (Nat.le_refl _) _).setCell (Nat.le_refl _) _).setCell (Nat.le_refl _) _
 | true =>
  rw [hs] at hFS
  have hfo : firstOk b = recIs (fMid b) := by unfold firstOk; rw [hh0, hs]; simp
  generalize ((w.alloc (.cells #[.int .i64 0, .int .i64 0, .int .i64 0, .slice none 0 0, .slice none 0 0] 25)).drew.drew).drewN q4 = W4 at *
  have j11 : (4 : Int) ≤ (fN b : Int) - 2 := by omega
  have j12 : (6 : Int) ≤ (fN b : Int) := by omega
  go_wp2_with fail
  refine (parse_at _ (fN b - 2 - 4) (c - 4) (fMid b) _ L4.out (Kd.C_below C4.out hB4.out) (by omega) HX4.out (by have := L4.out; omega) (by have := L4.out; omega)).mono ?_
  rintro e W5 ⟨x0, x1, x2, v3, v4, rfl, hyes, hb5, ⟨A3, n3, c3, rfl⟩, ⟨A4, n4, c4, rfl⟩⟩
  have hBk5 := (hb5.block w.heap.size (blk_lt hBk.out)).trans hBk.out
  have hB5 := Aside0.mk (below_then hB4.out hB4.out.size hb5)
  have hz5 : w.heap.size < W5.heap.size := blk_lt hBk5
  replace hyes := Aside0.mk hyes
  replace hb5 := Aside0.mk hb5
  have g0 := blk_frozen hBk5 0
  have g1 := blk_frozen hBk5 1
  have g2 := blk_frozen hBk5 2
  have g3 := blk_frozen hBk5 3
  have g4 := blk_frozen hBk5 4
  have k0 := blk_cell hBk5 0
  have k1 := blk_cell hBk5 1
  have k2 := blk_cell hBk5 2
  have k3 := blk_cell hBk5 3
  have k4 := blk_cell hBk5 4
  simp at k0 k1 k2 k3 k4
  go_wp2_with fail
  obtain ⟨W9, hW9, hbx, ho9⟩ := put5 hBk5 (.int .i64 x0) (.int .i64 x1) (.int .i64 x2) (.slice A3 n3 c3) (.slice A4 n4 c4)
  rw [← hW9]
  clear hW9
  have hbx := ((below_alloc (Below.refl W9.heap.size W9) (.cells #[.int .i64 x0, .int .i64 x1, .int .i64 x2, .slice A3 n3 c3, .slice A4 n4 c4] 25)).block _ (blk_lt hbx)).trans hbx
  have hB9 := below_alloc (hB5.out.trans (ho9.below (Nat.le_refl w.heap.size))) (.cells #[.int .i64 x0, .int .i64 x1, .int .i64 x2, .slice A3 n3 c3, .slice A4 n4 c4] 25)
  have hR9 : ∀ {α : Type} {d : Kd α} {e : Nat} {v : Value} {xs : List α}, Kd.R d e W5 W4.heap.size (fun _ => True) v xs → Kd.R d e (W9.alloc (.cells #[.int .i64 x0, .int .i64 x1, .int .i64 x2, .slice A3 n3 c3, .slice A4 n4 c4] 25)) w.heap.size (fun _ => True) v xs := fun h => Kd.R_alloc (Kd.R_mono (Kd.R_step (Kd.R_lower (Kd.R_mono (Kd.R_bound h) (fun k hk => show w.heap.size < k from Nat.lt_of_lt_of_le (blk_lt hBk.out) hk.2.1)) hB4.out.size) (fun k hk _ => ho9.block k (Nat.ne_of_gt hk))) (fun _ _ => trivial)) _
  generalize W9.alloc (.cells #[.int .i64 x0, .int .i64 x1, .int .i64 x2, .slice A3 n3 c3, .slice A4 n4 c4] 25) = W10 at *
  have y0 : W10.cell? ⟨w.heap.size, 0, none⟩ = some (.int .i64 x0) := (blk_cell hbx 0).trans rfl
  have y1 : W10.cell? ⟨w.heap.size, 1, none⟩ = some (.int .i64 x1) := (blk_cell hbx 1).trans rfl
  have y2 : W10.cell? ⟨w.heap.size, 2, none⟩ = some (.int .i64 x2) := (blk_cell hbx 2).trans rfl
  have y3 : W10.cell? ⟨w.heap.size, 3, none⟩ = some (.slice A3 n3 c3) := (blk_cell hbx 3).trans rfl
  have y4 : W10.cell? ⟨w.heap.size, 4, none⟩ = some (.slice A4 n4 c4) := (blk_cell hbx 4).trans rfl
  refine bodyPost_ret (v := .tuple #[.agg #[.int .i64 x0, .int .i64 x1, .int .i64 x2, .slice A3 n3 c3, .slice A4 n4 c4], .int .i64 (fN b : Int), .bool (firstOk b)]) ?_ rfl ?_
  ·simp [results, Try.results35, go_sem, y0, y1, y2, y3, y4, hfo]
  ·refine ⟨x0, x1, x2, (fN b : Int), _, _, rfl, fun h => ?_, hB9, ⟨_, _, _, rfl⟩, ⟨_, _, _, rfl⟩⟩
   rw [hfo] at h
   obtain ⟨e0, e1, e2, e3, e4⟩ := hyes.out h
   exact ⟨e0, e1, e2, rfl, hR9 e3, hR9 e4⟩
theorem rfirst_calls (A : Option Addr) (c : Nat) (b : List Int) (w : World) (hr : Kd.C (Kd.int .u8) w A b.length b) (hc : b.length ≤ c) (hb : ∀ x ∈ b, isByte x) (hm : b.length ≤ 140737488355328) :
  Calls Try.prog 35 #[.slice A b.length c] w (FirstOut w b) := by
 by_cases h8 : b.length < 8
 ·exact rfirst_short A c b w hr hc h8
 ·cases hh : fHead b with
  | false => exact rfirst_head A c b w hr hc hb h8 hm hh
  | true => exact rfirst_main A c b w hr hc hb h8 hm hh
end Go.Proofs.Ytagkgddkpnbfoaa.P
