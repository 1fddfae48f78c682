import Derived.Test.YtfnfjkddlnnolaaP0
import Derived.Test.YtfnfjkddlnnolaaPf41
namespace Go.Proofs.Ytfnfjkddlnnolaa.P
open Go.RowKit Go.Proofs.YtfnfjkddlnnolaaW.PrintWords Go.Proofs.YtfnfjkddlnnolaaW.PrintLast Go.Proofs.YtfnfjkddlnnolaaW.PrintMore
attribute [local go_sem] max2_int min2_int max_two min_two max_three min_three max_four min_four   -- for this text's walks alone
set_option linter.unusedVariables false
set_option linter.unusedSimpArgs false

def drayageref03_labels.l0 : Nat → List (S38) → List (S43) → Int → Option ((List (S43)) × Int × Int)
 | 0, _, _, _ => none
 | k + 1, x7, x10, x11 => if x11 < (x7.length : Int) then (if 0 ≤ x11 then (if x10.length < 4398046511104 then (drayageref03_labels.l0 k x7 (x10 ++ [(⟨(rd_T38 x7 x11).f1, (rd_T38 x7 x11).f2⟩ : S43)]) (wrap64 (x11 + 1))) else (none)) else (none)) else (some (x10, 0, 0))
def drayageref03_labels.f (k : Nat) (a0 : ByteArray) (a1 : Bool) : Option ((List (S43)) × Int × Int) := (drayageref03_parts.f k a0 true a1).bind fun bt142 => (if bt142.2.2 = 0 then (drayageref03_labels.l0 k bt142.1 ([] : List (S43)) 0) else (some (([] : List (S43)), bt142.2.1, bt142.2.2)))
def drayageref03_labels.T8 : Bool × List (List Nat × List Nat) := (true, [([], []), ([], []), ([], []), ([1, 2], [1, 2]), ([3], [3]), ([4], [4]), ([], []), ([], []), ([6, 7], [6, 7]), ([8], [8]), ([9], [9]), ([5, 10], [5, 10]), ([11], [11]), ([0, 12], [0, 12]), ([13, 13, 0, 1, 2, 3, 4, 5, 6, 7, 8, 9, 10, 11, 12, 13], [0, 13])])
def drayageref03_labels.B8 : List Nat := [0, 0, 0, 6, 14, 30, 0, 0, 192, 448, 960, 2046, 4094, 8191, 16383]
theorem drayageref03_labels.tab8 : rtab .any (opsOf Try.f34 8) = drayageref03_labels.T8 := by kernel_rfl
theorem drayageref03_labels.bits8 : waitsOk drayageref03_labels.T8.2 drayageref03_labels.B8 = true := by kernel_rfl
set_option maxHeartbeats 8000000 in
set_option maxRecDepth 100000 in
theorem drayageref03_labels.calls (k : Nat) (a0 : ByteArray) (a1 : Bool) (r1 : List (S43)) (r2 : Int) (r3 : Int) (w : World) (h : drayageref03_labels.f k a0 a1 = some (r1, r2, r3)) :
  Calls Try.prog 34 #[.string a0, .bool a1] w fun e w' => ∃ v0_ : Value, e = .returned (.tuple #[v0_, .int .i64 r2, .int .i64 r3]) ∧ Kd.R k43 43 w' w.heap.size (fun _ => True) v0_ r1 ∧ Below w.heap.size w w' := by
 have hu43 := Try.underlying43
 have HB := Aside0.mk (Below.refl w.heap.size w)
 have H : ((drayageref03_parts.f k a0 true a1).bind fun bt142 => (if bt142.2.2 = 0 then (drayageref03_labels.l0 k bt142.1 ([] : List (S43)) 0) else (some (([] : List (S43)), bt142.2.1, bt142.2.2)))) = some (r1, r2, r3) := h
 clear h
 replace H := Option.bind_eq_some_iff.mp H
 obtain ⟨⟨t142, t143, t144⟩, A30, H⟩ := H
 try dsimp only at H
 have A3 := Aside0.mk A30
 clear A30
 by_cases c4 : t144 = 0
 ·rw [if_pos c4] at H
  have c4b0 : (t144 == 0) = true := beq_iff_eq.mpr c4
  have c4b1 : (t144 != 0) = false := bne_eq_false_iff_eq.mpr c4
  clear c4
  have H' := Aside0.mk H
  clear H
  go_enter Try.func34, Try.ntmps34
  go_wp2_with (first | ((with_reducible refine gate_callee (f := 41) rfl ?_); refine goesL_ (some 15) rfl rfl Try.func41 (by kernel_rfl) rfl #[.string a0, .bool true, .bool a1] rfl ca_ ?_; (with_reducible refine (drayageref03_parts.calls k a0 true a1 t142 t143 t144 _ A3.out).mono ?_); rintro e w5 ⟨v145, rfl, ho0, hb⟩; refine ⟨_, rfl, ?_⟩; have HO146 := Aside0.mk (Kd.R_lower ho0 (below_size bw_)); replace HB := Aside0.mk (below_step bw_ hb); (try clear hb); (try clear hb2); (try clear hk); (try clear hi); (try clear ho0)))
  go_loopg [10, 11] k (fun kq v10 v11 w' => ∃ (x10_1 : List (S43)) (x11_1 : Int), v11 = .int .i64 x11_1 ∧ Aside0 (drayageref03_labels.l0 kq t142 x10_1 x11_1 = some (r1, r2, r3)) ∧ Aside0 (kq ≤ k) ∧ Aside0 (Kd.R k38 38 w' w.heap.size (fun _ => True) v145 t142) ∧ Aside0 (Kd.R k43 43 w' w.heap.size (fun _ => True) v10 x10_1) ∧ Aside0 (Below w.heap.size w w'))
  case atStart => exact ⟨(([] : List (S43))), (0), fs_, H', ⟨Nat.le_refl _⟩, ⟨by (with_reducible repeat (first | apply Kd.R_alloc | apply Kd.R_drewN | apply Kd.R_drew)); exact HO146.out⟩, ⟨by first | exact Kd.R_nil _ _ _ _ _ | exact Kd.N_nil _ _ _ _ _ | exact Kd.V_nil _ _ _ _ _ | exact Kd.Q_nil _ _ _ _ _ | exact Kd.S_nil _ _ _ _ _⟩, ⟨bw_⟩⟩
  case round =>
   clear H'
   (try clear p2); (try clear c3); (try clear c4); (try clear c4b0); (try clear c4b1)
   obtain ⟨x10_1, x11_1, rfl, HA, HK1, HO_7, HO_10, HB⟩ := hrel
   cases gk with
   | zero => exact absurd HA.out (by simp [drayageref03_labels.l0])
   | succ k1 =>
    have H := HA.out
    clear HA
    simp only [drayageref03_labels.l0] at H
    by_cases c6 : x11_1 < (t142.length : Int)
    ·rw [if_pos c6] at H
     have c6b0 : decide (x11_1 < (t142.length : Int)) = true := decide_eq_true c6
     clear c6
     by_cases c7 : 0 ≤ x11_1
     ·rw [if_pos c7] at H
      have c7b0 : decide (0 ≤ x11_1) = true := decide_eq_true c7
      clear c7
      by_cases c8 : x10_1.length < 4398046511104
      ·rw [if_pos c8] at H
       have LMc8 := Aside0.mk c8
       clear c8
       obtain ⟨y149, hy149⟩ : ∃ y_ : List (S43), y_ = (x10_1 ++ [(⟨(rd_T38 t142 x11_1).f1, (rd_T38 t142 x11_1).f2⟩ : S43)]) := ⟨_, rfl⟩
       replace H : (drayageref03_labels.l0 k1 t142 y149 (wrap64 (x11_1 + 1))) = some (r1, r2, r3) := by first | (rw [hy149]; with_reducible exact H) | (have H2_ := (Option.bind_some _ _).symm.trans H; rw [hy149]; with_reducible exact H2_) | (have H2_ := (Option.bind_some _ _).symm.trans H; with_reducible exact H2_) | with_reducible exact H | (rw [hy149]; exact H) | exact H
       have Ny149 := Aside0.mk hy149
       clear hy149
       have H' := Aside0.mk H
       clear H
       obtain ⟨Ao9, co9, eo9⟩ := Kd.R_slice HO_7.out
       subst eo9
       try go_wp2
       replace HO_7 := Aside0.mk (Kd.R_drew HO_7.out)
       replace HO_10 := Aside0.mk (Kd.R_drew HO_10.out)
       replace HB := Aside0.mk (below_drew1 HB.out)
       have p147 : 0 ≤ (x11_1 : Int) := of_decide_eq_true (by first | (with_reducible assumption) | assumption)
       have q147 : x11_1 < (t142.length : Int) := of_decide_eq_true (by first | (with_reducible assumption) | assumption)
       obtain ⟨ad147, e147, hx147_0, hx147_1, hx147_2⟩ := at_T38 (Kd.R_reads' HO_7.out).2.2 x11_1 p147 q147
       cases e147
       replace p147 := eq_true p147
       replace q147 := eq_true q147
       have p148 : 0 ≤ (x11_1 : Int) := of_decide_eq_true (by first | (with_reducible assumption) | assumption)
       have q148 : x11_1 < (t142.length : Int) := of_decide_eq_true (by first | (with_reducible assumption) | assumption)
       obtain ⟨ad148, e148, hx148_0, hx148_1, hx148_2⟩ := at_T38 (Kd.R_reads' HO_7.out).2.2 x11_1 p148 q148
       obtain rfl : ad147 = ad148 := (by injection e148)
       replace p148 := eq_true p148
       replace q148 := eq_true q148
       refine start_ (n := 15) (S := fun w' => w'.cell? (ad147.add ((x11_1).toNat * 3)) = some (.int .i64 ((rd_T38 t142 x11_1).f0)) ∧ w'.cell? ⟨(ad147.add ((x11_1).toNat * 3)).block, (ad147.add ((x11_1).toNat * 3)).off + 1, none⟩ = some (.string ((rd_T38 t142 x11_1).f1)) ∧ w'.cell? ⟨(ad147.add ((x11_1).toNat * 3)).block, (ad147.add ((x11_1).toNat * 3)).off + 2, none⟩ = some (.string ((rd_T38 t142 x11_1).f2)) ∧ w'.cell? (ad147.add ((x11_1).toNat * 3)) = some (.int .i64 ((rd_T38 t142 x11_1).f0)) ∧ w'.cell? ⟨(ad147.add ((x11_1).toNat * 3)).block, (ad147.add ((x11_1).toNat * 3)).off + 1, none⟩ = some (.string ((rd_T38 t142 x11_1).f1)) ∧ w'.cell? ⟨(ad147.add ((x11_1).toNat * 3)).block, (ad147.add ((x11_1).toNat * 3)).off + 2, none⟩ = some (.string ((rd_T38 t142 x11_1).f2))) (ds := [12, 13]) #[false, false, false, false, false, false, false, false, false, false, false, false, false, false, false] (by kernel_rfl) rfl rfl ⟨hx147_0, hx147_1, hx147_2, hx148_0, hx148_1, hx148_2⟩ (fun hHeld => ?_); refine with_tabW drayageref03_labels.tab8 drayageref03_labels.bits8 (fun HT_ HW_ => ?_)
       generalize wr.drew = w10 at HO_7 HO_10 HB hx147_0 hx147_1 hx147_2 hx148_0 hx148_1 hx148_2 hHeld ⊢
       refine pureS_ (i := 0) (N := some 29) (v := ?_) (a' := ?_) rfl rfl (any_of HT_.out (by kernel_rfl)) (fun _ _ _ h => h) (Or.inl ⟨by rfl, ?_⟩) ?_ ?_
       rotate_left; (· intro w'; go_simp; with_reducible rfl); rotate_left; (· simp only [Act.put, List.setIfInBounds_toArray, List.set_cons_zero, List.set_cons_succ, i64_w, i32_w]; rfl)
       refine pureS_ (i := 1) (N := some 30) (v := ?_) (a' := ?_) rfl rfl (any_of HT_.out (by kernel_rfl)) (fun _ _ _ h => h) (Or.inl ⟨by rfl, ?_⟩) ?_ ?_
       rotate_left; (· intro w'; go_simp; with_reducible rfl); rotate_left; (· simp only [Act.put, List.setIfInBounds_toArray, List.set_cons_zero, List.set_cons_succ, i64_w, i32_w]; rfl)
       refine pureS_ (i := 2) (N := some 31) (v := ?_) (a' := ?_) rfl rfl (any_of HT_.out (by kernel_rfl)) (fun _ _ _ h => h) (Or.inl ⟨by rfl, ?_⟩) ?_ ?_
       rotate_left; (· intro w'; go_simp; with_reducible rfl); rotate_left; (· simp only [Act.put, List.setIfInBounds_toArray, List.set_cons_zero, List.set_cons_succ, i64_w, i32_w]; rfl)
       refine pureS_ (i := 3) (N := some 32) (v := ?_) (a' := ?_) rfl rfl (any_of HT_.out (by kernel_rfl)) (fun _ _ _ h => h) (Or.inl ⟨by rfl, ?_⟩) ?_ ?_
       rotate_left; (· intro w'; go_simp; with_reducible rfl); rotate_left; (· simp only [Act.put, List.setIfInBounds_toArray, List.set_cons_zero, List.set_cons_succ, i64_w, i32_w]; rfl)
       refine pureS_ (i := 4) (N := some 33) (v := ?_) (a' := ?_) rfl rfl (any_of HT_.out (by kernel_rfl)) (fun _ _ _ h => h) (Or.inl ⟨by rfl, ?_⟩) ?_ ?_
       rotate_left; (· intro w'; go_simp; with_reducible rfl); rotate_left; (· simp only [Act.put, List.setIfInBounds_toArray, List.set_cons_zero, List.set_cons_succ, i64_w, i32_w]; rfl)
       refine pureS_ (i := 6) (N := some 35) (v := ?_) (a' := ?_) rfl rfl (any_of HT_.out (by kernel_rfl)) (fun _ _ _ h => h) (Or.inl ⟨by rfl, ?_⟩) ?_ ?_
       rotate_left; (· intro w'; go_simp; with_reducible rfl); rotate_left; (· simp only [Act.put, List.setIfInBounds_toArray, List.set_cons_zero, List.set_cons_succ, i64_w, i32_w]; rfl)
       refine pureS_ (i := 7) (N := some 36) (v := ?_) (a' := ?_) rfl rfl (any_of HT_.out (by kernel_rfl)) (fun _ _ _ h => h) (Or.inl ⟨by rfl, ?_⟩) ?_ ?_
       rotate_left; (· intro w'; go_simp; with_reducible rfl); rotate_left; (· simp only [Act.put, List.setIfInBounds_toArray, List.set_cons_zero, List.set_cons_succ, i64_w, i32_w]; rfl)
       refine pureS_ (i := 8) (N := some 37) (v := ?_) (a' := ?_) rfl rfl (any_of HT_.out (by kernel_rfl)) (fun _ _ _ h => h) (Or.inl ⟨by rfl, ?_⟩) ?_ ?_
       rotate_left; (· intro w'; go_simp; with_reducible rfl); rotate_left; (· simp only [Act.put, List.setIfInBounds_toArray, List.set_cons_zero, List.set_cons_succ, i64_w, i32_w]; rfl)
       refine pureS_ (i := 9) (N := some 38) (v := ?_) (a' := ?_) rfl rfl (any_of HT_.out (by kernel_rfl)) (fun _ _ _ h => h) (Or.inl ⟨by rfl, ?_⟩) ?_ ?_
       rotate_left; (· intro w'; go_simp; with_reducible rfl); rotate_left; (· simp only [Act.put, List.setIfInBounds_toArray, List.set_cons_zero, List.set_cons_succ, i64_w, i32_w]; rfl)
       refine takeS_ (i := 5) (N := some 34) (v := ?_) (a' := ?_) rfl rfl (take_ofW HT_.out HW_.out (by kernel_rfl)) (fun _ _ _ h => h) (Or.inl ⟨by rfl, ?_⟩) hHeld ?_ ?_
       rotate_left; (· rintro w' ⟨s0, s1, s2, s3, s4, s5⟩; go_simp; with_reducible rfl); rotate_left; (· simp only [Act.put, List.setIfInBounds_toArray, List.set_cons_zero, List.set_cons_succ, i64_w, i32_w]; rfl)
       refine takeS_ (i := 10) (N := some 39) (v := ?_) (a' := ?_) rfl rfl (take_ofW HT_.out HW_.out (by kernel_rfl)) (fun _ _ _ h => h) (Or.inl ⟨by rfl, ?_⟩) hHeld ?_ ?_
       rotate_left; (· rintro w' ⟨s0, s1, s2, s3, s4, s5⟩; go_simp; with_reducible rfl); rotate_left; (· simp only [Act.put, List.setIfInBounds_toArray, List.set_cons_zero, List.set_cons_succ, i64_w, i32_w]; rfl)
       refine pureS_ (i := 11) (N := some 40) (v := ?_) (a' := ?_) rfl rfl (any_of HT_.out (by kernel_rfl)) (fun _ _ _ h => h) (Or.inl ⟨by rfl, ?_⟩) ?_ ?_
       rotate_left; (· intro w'; go_simp; with_reducible rfl); rotate_left; (· simp only [Act.put, List.setIfInBounds_toArray, List.set_cons_zero, List.set_cons_succ, i64_w, i32_w]; rfl)
       refine lastS_ (i := 12) (N := some 41) rfl rfl (one_of HT_.out (by kernel_rfl)) (by decide) (fun K hK => ?_)
       refine value_ (w1 := ?_) (v := ?_) (by rfl) rfl ?_ ?_
       rotate_left 2
       ·go_simp
        constructor
        ·rfl
        ·rfl
       refine hK.out _ _ ?_
       clear hK K
       refine norm_ (a' := ?_) ?_ ?_
       rotate_left
       ·show Act.put _ (some 41) _ = _
        simp only [Act.put, List.setIfInBounds_toArray, List.set_cons_zero, List.set_cons_succ, i64_w, i32_w]
        rfl
       refine lastS_ (i := 13) (N := some 42) rfl rfl (one_of HT_.out (by kernel_rfl)) (by decide) (fun K hK => ?_)
       refine Kd.R_append_step k43 (w0 := w) w.heap.size (by rfl) (.tmp 29) (.tmp 41) 22 43 (.agg #[(.string ⟨#[]⟩), (.string ⟨#[]⟩)]) 32 rfl Try.underlying22 info43 rfl (by decide) (by omega) u10 x10_1 (⟨(rd_T38 t142 x11_1).f1, (rd_T38 t142 x11_1).f2⟩ : S43) [.string ((rd_T38 t142 x11_1).f1), .string ((rd_T38 t142 x11_1).f2)] (fun _ => True) (fun _ => False) rfl rfl ?aP (fun _ hk => hk.elim) ?aF ?aO ?aB ?aS ?aL ?_
       (case aP => exact k43_mkM _ _ _ (⟨(rd_T38 t142 x11_1).f1, (rd_T38 t142 x11_1).f2⟩ : S43))
       (case aB => exact bw_)
       (case aF => exact (fun _ _ => trivial))
       (case aO => exact (ra_ HO_10.out))
       (case aS => exact (below_size bw_))
       (case aL => have := LMc8.out; omega)
       intro v150 w11 ho hb hg hat
       rw [← Ny149.out] at ho
       replace HO_7 := Aside0.mk (Kd.R_over' (ra_ HO_7.out) (Kd.R_typed (ra_ HO_10.out)) (by decide) hg)
       replace HB := Aside0.mk (hb)
       have HO151 := Aside0.mk (ho)
       clear HO_10
       clear ho hb hg hat
       refine hK.out _ _ ?_
       clear hK K
       refine norm_ (a' := ?_) ?_ ?_
       rotate_left
       ·show Act.put _ (some 42) _ = _
        simp only [Act.put, List.setIfInBounds_toArray, List.set_cons_zero, List.set_cons_succ, i64_w, i32_w]
        rfl
       refine pureS_ (i := 14) (N := some 10) (v := ?_) (a' := ?_) rfl rfl (any_of HT_.out (by kernel_rfl)) (fun _ _ _ h => h) (Or.inl ⟨by rfl, ?_⟩) ?_ ?_
       rotate_left; (· intro w'; go_simp; with_reducible rfl); rotate_left; (· simp only [Act.put, List.setIfInBounds_toArray, List.set_cons_zero, List.set_cons_succ, i64_w, i32_w]; rfl)
       refine done_ (done_of HT_.out (by kernel_rfl)) ?_
       try go_wp2
       go_roundg k1
       case measure => have := HK1.out; omega
       case rel => exact ⟨(y149), (wrap64 (x11_1 + 1)), fs_, H', ⟨by have := HK1.out; omega⟩, ⟨by (with_reducible repeat (first | apply Kd.R_alloc | apply Kd.R_drewN | apply Kd.R_drew)); exact HO_7.out⟩, ⟨by (with_reducible repeat (first | apply Kd.R_alloc | apply Kd.R_drewN | apply Kd.R_drew)); exact HO151.out⟩, ⟨bw_⟩⟩
      ·rw [if_neg c8] at H
       exact absurd H (by simp)
     ·rw [if_neg c7] at H
      exact absurd H (by simp)
    ·rw [if_neg c6] at H
     have c6b0 : decide (x11_1 < (t142.length : Int)) = false := decide_eq_false c6
     clear c6
     simp only [Option.some.injEq, Prod.mk.injEq] at H
     obtain ⟨rfl, rfl, rfl⟩ := H
     obtain ⟨Ao12, co12, eo12⟩ := Kd.R_slice HO_7.out
     subst eo12
     go_wp2
     go_ret3
     exact ⟨_, fi_, by (with_reducible repeat (first | apply Kd.R_alloc | apply Kd.R_drewN | apply Kd.R_drew)); exact HO_10.out, bw_⟩
 ·rw [if_neg c4] at H
  have c4b0 : (t144 == 0) = false := beq_eq_false_iff_ne.mpr c4
  have c4b1 : (t144 != 0) = true := bne_iff_ne.mpr c4
  simp only [Option.some.injEq, Prod.mk.injEq] at H
  obtain ⟨rfl, rfl, rfl⟩ := H
  go_enter Try.func34, Try.ntmps34
  go_wp2_with (first | ((with_reducible refine gate_callee (f := 41) rfl ?_); refine goesL_ (some 15) rfl rfl Try.func41 (by kernel_rfl) rfl #[.string a0, .bool true, .bool a1] rfl ca_ ?_; (with_reducible refine (drayageref03_parts.calls k a0 true a1 t142 t143 t144 _ A3.out).mono ?_); rintro e w13 ⟨v145, rfl, ho0, hb⟩; refine ⟨_, rfl, ?_⟩; have HO146 := Aside0.mk (Kd.R_lower ho0 (below_size bw_)); replace HB := Aside0.mk (below_step bw_ hb); (try clear hb); (try clear hb2); (try clear hk); (try clear hi); (try clear ho0)))
  go_ret3
  exact ⟨_, fi_, by first | exact Kd.R_nil _ _ _ _ _ | exact Kd.N_nil _ _ _ _ _ | exact Kd.V_nil _ _ _ _ _ | exact Kd.Q_nil _ _ _ _ _ | exact Kd.S_nil _ _ _ _ _, bw_⟩

end Go.Proofs.Ytfnfjkddlnnolaa.P
