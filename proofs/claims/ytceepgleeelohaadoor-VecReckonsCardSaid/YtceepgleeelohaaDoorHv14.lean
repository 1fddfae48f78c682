import Derived.Test.YtceepgleeelohaaDoorHv13
/- The law VecShare, walked. -/
namespace Go.Proofs.YtceepgleeelohaaDoor.P
set_option linter.unusedVariables false
set_option linter.unusedSimpArgs false
open Go.RowKit Go.Proofs.YtceepgleeelohaaDoorW.PrintWords Go.Proofs.YtceepgleeelohaaDoorW.PrintLast Go.Proofs.YtceepgleeelohaaDoorW.PrintMore
attribute [local go_sem] max2_int min2_int max_two min_two
theorem bring_5 (a : Int) : drayageref00_Bring.f a 5 = some (a % 5) := by
  unfold drayageref00_Bring.f
  rw [if_neg (by decide)]
  have h0 := Int.emod_nonneg a (show (5 : Int) ≠ 0 by decide)
  have h1 := Int.emod_lt_of_pos a (show (0 : Int) < 5 by decide)
  have h := Int.tmod_eq_emod (a := a) (b := 5)
  by_cases hq : 0 ≤ a ∨ (5 : Int) ∣ a
  · rw [if_pos hq] at h
    have h2 : Int.tmod a 5 = a % 5 := by omega
    rw [h2, if_neg (by omega)]
  · rw [if_neg hq] at h
    have hz : a % 5 ≠ 0 := fun hz => hq (.inr (Int.dvd_of_emod_eq_zero hz))
    have h2 : Int.tmod a 5 = a % 5 - 5 := by omega
    rw [h2, if_pos (by omega), wrap64_id (by omega) (by omega)]
    congr 1
    omega
def qS (x u : Int) : Int := wrap64 (Int.tdiv (wrap64 (x * 1000)) u)
def mxS (m q : Int) : Int := if m < q then q else m
def mostS (v u : V) : Int := mxS (mxS (mxS (mxS (mxS 0 (qS v.a u.a)) (qS v.b u.b)) (qS v.c u.c)) (qS v.d u.d)) (qS v.e u.e)
set_option maxRecDepth 100000 in
set_option maxHeartbeats 4000000 in
theorem vecShare_w (a b c d e a' b' c' d' e' k : Int) (w : World) (hT : Tb w) (hN : Nm w) (i : Nat) (hi : i < 5) (hk : k % 5 = (i : Int))
    (X Y U : V) (hX : X = ⟨(a % 68719476736), (b % 68719476736), (c % 68719476736), (d % 68719476736), (e % 68719476736)⟩) (hY : Y = ⟨(a' % 68719476736), (b' % 68719476736), (c' % 68719476736), (d' % 68719476736), (e' % 68719476736)⟩) (hU : U = ⟨wrap64 (Y.a + 1), wrap64 (Y.b + 1), wrap64 (Y.c + 1), wrap64 (Y.d + 1), wrap64 (Y.e + 1)⟩)
    (hnz : U.a ≠ 0 ∧ U.b ≠ 0 ∧ U.c ≠ 0 ∧ U.d ≠ 0 ∧ U.e ≠ 0) (m2 : Int) (e1 : (V.shares X U).2 = 0) (e2 : V.max (V.shares X U).1 = mostS X U)
    (e3 : (V.shares (X.set i (wrap64 (X.get i + 7))) U).2 = 0) (e4 : V.max (V.shares (X.set i (wrap64 (X.get i + 7))) U).1 = m2) (e5 : mostS X U ≤ m2) :
    Calls Tryd.prog 6 #[.agg #[.int .i64 a, .int .i64 b, .int .i64 c, .int .i64 d, .int .i64 e], .agg #[.int .i64 a', .int .i64 b', .int .i64 c', .int .i64 d', .int .i64 e'], .int .i64 k] w fun e_ w' => e_ = .returned (.bool true) ∧ Below w.heap.size w w' := by
  obtain ⟨g, hg⟩ : ∃ g, w.heap.size = g := ⟨_, rfl⟩
  obtain ⟨W0, hW0⟩ : ∃ W, (w.alloc (.cells #[.int .i64 a, .int .i64 b, .int .i64 c, .int .i64 d, .int .i64 e] 23)).alloc (.cells #[.int .i64 a', .int .i64 b', .int .i64 c', .int .i64 d', .int .i64 e'] 23) = W := ⟨_, rfl⟩
  have p0_ : At W0 g a b c d e := by rw [← hW0, ← hg]; exact (At.new _ _ _ _ _ _).alloc _
  have q0_ : At W0 (g + 1) a' b' c' d' e' := by rw [← hW0, ← hg]; simpa using At.new (w.alloc (.cells #[.int .i64 a, .int .i64 b, .int .i64 c, .int .i64 d, .int .i64 e] 23)) a' b' c' d' e'
  have r0_ : Below g w W0 := by rw [← hW0, ← hg]; exact below_alloc (below_alloc (Below.refl _ _) _) _
  have a0_ := p0_.drew
  have c0_ := q0_.drew
  have b0_ := below_drew1 r0_
  clear p0_ q0_ r0_
  have HP := Aside0.mk (And.intro hX (And.intro hY (And.intro hU (And.intro hnz (And.intro e1 (And.intro e2 (And.intro e3 (And.intro e4 e5))))))))
  have HT := Aside0.mk (And.intro hT hN)
  have HK := Aside0.mk (And.intro hi hk)
  clear hX hY hU hnz e1 e2 e3 e4 e5 hT hN hi hk
  go_enter Tryd.func6, Tryd.ntmps6
  go_wp2_with fail
  refine start_ (n := 6) (S := fun w' => w'.cell? ⟨g, 0, none⟩ = some (.int .i64 a) ∧ w'.cell? ⟨g, 1, none⟩ = some (.int .i64 b) ∧ w'.cell? ⟨g, 2, none⟩ = some (.int .i64 c) ∧ w'.cell? ⟨g, 3, none⟩ = some (.int .i64 d) ∧ w'.cell? ⟨g, 4, none⟩ = some (.int .i64 e) ∧ w'.cell? ⟨g + 1, 0, none⟩ = some (.int .i64 a') ∧ w'.cell? ⟨g + 1, 1, none⟩ = some (.int .i64 b') ∧ w'.cell? ⟨g + 1, 2, none⟩ = some (.int .i64 c') ∧ w'.cell? ⟨g + 1, 3, none⟩ = some (.int .i64 d') ∧ w'.cell? ⟨g + 1, 4, none⟩ = some (.int .i64 e')) (ds := [4, 5]) #[false, false, false, false, false, false] (by kernel_rfl) rfl rfl ⟨a0_.cell_0, a0_.cell_1, a0_.cell_2, a0_.cell_3, a0_.cell_4, c0_.cell_0, c0_.cell_1, c0_.cell_2, c0_.cell_3, c0_.cell_4⟩ (fun hHeld => ?_)
  refine take_ (i := 0) (N := some 13) (v := ?_) (a' := ?_) #[true, false, false, false, false, false] rfl rfl (by kernel_rfl) (fun _ _ _ h => h) (Or.inl ⟨by rfl, ?_⟩) hHeld ?_ ?_
  rotate_left
  · rintro w' ⟨s0, s1, s2, s3, s4, s5, s6, s7, s8, s9⟩
    go_simp
    with_reducible rfl
  rotate_left
  · simp only [Act.put, List.setIfInBounds_toArray, List.set_cons_zero, List.set_cons_succ, i64_w, i32_w]
    rfl
  refine take_ (i := 2) (N := some 15) (v := ?_) (a' := ?_) #[true, false, true, false, false, false] rfl rfl (by kernel_rfl) (fun _ _ _ h => h) (Or.inl ⟨by rfl, ?_⟩) hHeld ?_ ?_
  rotate_left
  · rintro w' ⟨s0, s1, s2, s3, s4, s5, s6, s7, s8, s9⟩
    go_simp
    with_reducible rfl
  rotate_left
  · simp only [Act.put, List.setIfInBounds_toArray, List.set_cons_zero, List.set_cons_succ, i64_w, i32_w]
    rfl
  refine one_ (i := 1) (N := some 14) #[true, true, true, false, false, false] rfl rfl (by kernel_rfl) (by decide) (fun K hK => ?_)
  refine goes_ Tryd.func8 (by kernel_rfl) rfl #[.agg #[.int .i64 a, .int .i64 b, .int .i64 c, .int .i64 d, .int .i64 e]] (by rfl) rfl rfl (by simp only [List.map_toArray, List.map_cons, List.map_nil]; rfl) ?_
  with_reducible refine (made_c a b c d e _).mono ?_
  rintro e_ V1 ⟨rfl, hb⟩
  refine ⟨_, rfl, ?_⟩
  have a1_ := a0_.below hb
  have c1_ := c0_.below hb
  have b1_ := bk b0_ (Nat.le_of_lt a0_.lt) hb
  clear hb
  refine hK.out _ _ ⟨a1_.cell_0, a1_.cell_1, a1_.cell_2, a1_.cell_3, a1_.cell_4, c1_.cell_0, c1_.cell_1, c1_.cell_2, c1_.cell_3, c1_.cell_4⟩ (fun hHeld => ?_)
  clear hK K
  refine norm_ (a' := ?_) ?_ ?_
  rotate_left
  · show Act.put _ (some 14) _ = _
    simp only [Act.put, List.setIfInBounds_toArray, List.set_cons_zero, List.set_cons_succ, i64_w, i32_w]
    rfl
  refine one_ (i := 3) (N := some 16) #[true, true, true, true, false, false] rfl rfl (by kernel_rfl) (by decide) (fun K hK => ?_)
  refine goes_ Tryd.func8 (by kernel_rfl) rfl #[.agg #[.int .i64 a', .int .i64 b', .int .i64 c', .int .i64 d', .int .i64 e']] (by rfl) rfl rfl (by simp only [List.map_toArray, List.map_cons, List.map_nil]; rfl) ?_
  with_reducible refine (made_c a' b' c' d' e' _).mono ?_
  rintro e_ V2 ⟨rfl, hb⟩
  refine ⟨_, rfl, ?_⟩
  have a2_ := a1_.below hb
  have c2_ := c1_.below hb
  have b2_ := bk b1_ (Nat.le_of_lt a1_.lt) hb
  clear hb
  refine hK.out _ _ ⟨a2_.cell_0, a2_.cell_1, a2_.cell_2, a2_.cell_3, a2_.cell_4, c2_.cell_0, c2_.cell_1, c2_.cell_2, c2_.cell_3, c2_.cell_4⟩ (fun hHeld => ?_)
  clear hK K
  refine norm_ (a' := ?_) ?_ ?_
  rotate_left
  · show Act.put _ (some 16) _ = _
    simp only [Act.put, List.setIfInBounds_toArray, List.set_cons_zero, List.set_cons_succ, i64_w, i32_w]
    rfl
  refine last_ (i := 4) (N := none) #[true, true, true, true, true, false] rfl rfl (by kernel_rfl) (by decide) (fun K hK => ?_)
  have f0_ := a2_.fz 0
  have f1_ := a2_.fz 1
  have f2_ := a2_.fz 2
  have f3_ := a2_.fz 3
  have f4_ := a2_.fz 4
  have k0_ := a2_.cell_0
  have k1_ := a2_.cell_1
  have k2_ := a2_.cell_2
  have k3_ := a2_.cell_3
  have k4_ := a2_.cell_4
  refine skip_ (w1 := ?_) (by rfl) rfl ?_ ?_
  rotate_left
  · go_simp
    rfl
  clear f0_ k0_ f1_ k1_ f2_ k2_ f3_ k3_ f4_ k4_
  have a3_ := a2_.five (a % 68719476736) (b % 68719476736) (c % 68719476736) (d % 68719476736) (e % 68719476736)
  have c3_ := c2_.five_other (show g + 1 ≠ g by omega) (.int .i64 (a % 68719476736)) (.int .i64 (b % 68719476736)) (.int .i64 (c % 68719476736)) (.int .i64 (d % 68719476736)) (.int .i64 (e % 68719476736))
  have b3_ := below_five b2_ (Nat.le_refl g) (.int .i64 (a % 68719476736)) (.int .i64 (b % 68719476736)) (.int .i64 (c % 68719476736)) (.int .i64 (d % 68719476736)) (.int .i64 (e % 68719476736))
  clear a2_ c2_ b2_
  refine hK.out _ _ ?_
  clear hK K
  refine last_ (i := 5) (N := none) #[true, true, true, true, true, true] rfl rfl (by kernel_rfl) (by decide) (fun K hK => ?_)
  have f0_ := c3_.fz 0
  have f1_ := c3_.fz 1
  have f2_ := c3_.fz 2
  have f3_ := c3_.fz 3
  have f4_ := c3_.fz 4
  have k0_ := c3_.cell_0
  have k1_ := c3_.cell_1
  have k2_ := c3_.cell_2
  have k3_ := c3_.cell_3
  have k4_ := c3_.cell_4
  refine skip_ (w1 := ?_) (by rfl) rfl ?_ ?_
  rotate_left
  · go_simp
    rfl
  clear f0_ k0_ f1_ k1_ f2_ k2_ f3_ k3_ f4_ k4_
  refine hK.out _ _ ?_
  clear hK K
  refine done_ (by kernel_rfl) ?_
  have a4_ := a3_.five_other (show g ≠ g + 1 by omega) (.int .i64 (a' % 68719476736)) (.int .i64 (b' % 68719476736)) (.int .i64 (c' % 68719476736)) (.int .i64 (d' % 68719476736)) (.int .i64 (e' % 68719476736))
  have c4_ := c3_.five (a' % 68719476736) (b' % 68719476736) (c' % 68719476736) (d' % 68719476736) (e' % 68719476736)
  have b4_ := below_five b3_ (Nat.le_succ g) (.int .i64 (a' % 68719476736)) (.int .i64 (b' % 68719476736)) (.int .i64 (c' % 68719476736)) (.int .i64 (d' % 68719476736)) (.int .i64 (e' % 68719476736))
  clear a3_ c3_ b3_
  generalize ((((((((((V2).setCell ⟨g, 0, none⟩ (.int .i64 (a % 68719476736))).setCell ⟨g, 1, none⟩ (.int .i64 (b % 68719476736))).setCell ⟨g, 2, none⟩ (.int .i64 (c % 68719476736))).setCell ⟨g, 3, none⟩ (.int .i64 (d % 68719476736))).setCell ⟨g, 4, none⟩ (.int .i64 (e % 68719476736))).setCell ⟨g + 1, 0, none⟩ (.int .i64 (a' % 68719476736))).setCell ⟨g + 1, 1, none⟩ (.int .i64 (b' % 68719476736))).setCell ⟨g + 1, 2, none⟩ (.int .i64 (c' % 68719476736))).setCell ⟨g + 1, 3, none⟩ (.int .i64 (d' % 68719476736))).setCell ⟨g + 1, 4, none⟩ (.int .i64 (e' % 68719476736)) = W1 at a4_ c4_ b4_ ⊢
  obtain ⟨hX, hY, hU, hnz, e1, e2, e3, e4, e5⟩ := HP.out
  obtain ⟨x0, x1, x2, x3, x4⟩ := X
  obtain ⟨y0, y1, y2, y3, y4⟩ := Y
  obtain ⟨u0, u1, u2, u3, u4⟩ := U
  rw [← (V.mk.inj hX).1, ← (V.mk.inj hX).2.1, ← (V.mk.inj hX).2.2.1, ← (V.mk.inj hX).2.2.2.1, ← (V.mk.inj hX).2.2.2.2] at a4_
  rw [← (V.mk.inj hY).1, ← (V.mk.inj hY).2.1, ← (V.mk.inj hY).2.2.1, ← (V.mk.inj hY).2.2.2.1, ← (V.mk.inj hY).2.2.2.2] at c4_
  have hU0 : wrap64 (y0 + 1) = u0 := (V.mk.inj hU).1.symm
  have hU1 : wrap64 (y1 + 1) = u1 := (V.mk.inj hU).2.1.symm
  have hU2 : wrap64 (y2 + 1) = u2 := (V.mk.inj hU).2.2.1.symm
  have hU3 : wrap64 (y3 + 1) = u3 := (V.mk.inj hU).2.2.2.1.symm
  have hU4 : wrap64 (y4 + 1) = u4 := (V.mk.inj hU).2.2.2.2.symm
  have nz0 : ¬ u0 = 0 := hnz.1
  have nz1 : ¬ u1 = 0 := hnz.2.1
  have nz2 : ¬ u2 = 0 := hnz.2.2.1
  have nz3 : ¬ u3 = 0 := hnz.2.2.2.1
  have nz4 : ¬ u4 = 0 := hnz.2.2.2.2
  have HE := Aside0.mk (And.intro e1 (And.intro e2 (And.intro e3 (And.intro e4 e5))))
  clear HP hX hY hU hnz e1 e2 e3 e4 e5
  obtain ⟨q0_, hq0⟩ : ∃ q, qS x0 u0 = q := ⟨_, rfl⟩
  obtain ⟨q1_, hq1⟩ : ∃ q, qS x1 u1 = q := ⟨_, rfl⟩
  obtain ⟨q2_, hq2⟩ : ∃ q, qS x2 u2 = q := ⟨_, rfl⟩
  obtain ⟨q3_, hq3⟩ : ∃ q, qS x3 u3 = q := ⟨_, rfl⟩
  obtain ⟨q4_, hq4⟩ : ∃ q, qS x4 u4 = q := ⟨_, rfl⟩
  obtain ⟨m1_, hm1⟩ : ∃ q, mxS 0 q0_ = q := ⟨_, rfl⟩
  obtain ⟨m2_, hm2⟩ : ∃ q, mxS m1_ q1_ = q := ⟨_, rfl⟩
  obtain ⟨m3_, hm3⟩ : ∃ q, mxS m2_ q2_ = q := ⟨_, rfl⟩
  obtain ⟨m4_, hm4⟩ : ∃ q, mxS m3_ q3_ = q := ⟨_, rfl⟩
  obtain ⟨m5_, hm5⟩ : ∃ q, mxS m4_ q4_ = q := ⟨_, rfl⟩
  have HM5 : Aside0 (mostS ⟨x0, x1, x2, x3, x4⟩ ⟨u0, u1, u2, u3, u4⟩ = m5_) := ⟨by
    show mxS (mxS (mxS (mxS (mxS 0 (qS x0 u0)) (qS x1 u1)) (qS x2 u2)) (qS x3 u3)) (qS x4 u4) = m5_
    rw [hq0, hq1, hq2, hq3, hq4, hm1, hm2, hm3, hm4, hm5]⟩
  have HQ0 : Aside0 (wrap64 (Int.tdiv (wrap64 (x0 * 1000)) u0) = q0_) := ⟨hq0⟩
  have HM0 : Aside0 ((if 0 < q0_ then q0_ else 0) = m1_) := ⟨hm1⟩
  have HU0 := Aside0.mk hU0
  clear hq0 hm1 hU0
  have HQ1 : Aside0 (wrap64 (Int.tdiv (wrap64 (x1 * 1000)) u1) = q1_) := ⟨hq1⟩
  have HM1 : Aside0 ((if m1_ < q1_ then q1_ else m1_) = m2_) := ⟨hm2⟩
  have HU1 := Aside0.mk hU1
  clear hq1 hm2 hU1
  have HQ2 : Aside0 (wrap64 (Int.tdiv (wrap64 (x2 * 1000)) u2) = q2_) := ⟨hq2⟩
  have HM2 : Aside0 ((if m2_ < q2_ then q2_ else m2_) = m3_) := ⟨hm3⟩
  have HU2 := Aside0.mk hU2
  clear hq2 hm3 hU2
  have HQ3 : Aside0 (wrap64 (Int.tdiv (wrap64 (x3 * 1000)) u3) = q3_) := ⟨hq3⟩
  have HM3 : Aside0 ((if m3_ < q3_ then q3_ else m3_) = m4_) := ⟨hm4⟩
  have HU3 := Aside0.mk hU3
  clear hq3 hm4 hU3
  have HQ4 : Aside0 (wrap64 (Int.tdiv (wrap64 (x4 * 1000)) u4) = q4_) := ⟨hq4⟩
  have HM4 : Aside0 ((if m4_ < q4_ then q4_ else m4_) = m5_) := ⟨hm5⟩
  have HU4 := Aside0.mk hU4
  clear hq4 hm5 hU4
  go_wp2_with fail
  refine wp_loop_rounds 6 ?_
  rw [rounds_succ]
  have k_ := c4_.cell_0
  have f_ := c4_.fz 0
  obtain ⟨W5, hW5⟩ : ∃ W, W1.setCell ⟨g + 1, 0, none⟩ (.int .i64 u0) = W := ⟨_, rfl⟩
  have a5_ : At W5 g x0 x1 x2 x3 x4 := by rw [← hW5]; exact a4_.other _ _ (by omega)
  have c5_ : At W5 (g + 1) u0 y1 y2 y3 y4 := by rw [← hW5]; exact c4_.set_0 _
  have b5_ : Below g w W5 := by rw [← hW5]; exact b4_.setCell (Nat.le_succ g) _
  clear a4_ c4_ b4_
  have h1_ := a5_.cell_0
  have h2_ := c5_.cell_0
  have hu_ := HU0.out
  go_wp2_with fail
  clear k_ f_ hW5 hu_
  have hq_ := HQ0.out
  have hm_ := HM0.out
  refine start_ (n := 11) (S := fun w' => w'.cell? ⟨g, 0, none⟩ = some (.int .i64 x0) ∧ w'.cell? ⟨g + 1, 0, none⟩ = some (.int .i64 u0)) (ds := []) #[false, false, false, false, false, false, false, false, false, false, false] (by kernel_rfl) rfl rfl ⟨h1_, h2_⟩ (fun hHeld => ?_)
  refine pure_ (i := 0) (N := some 27) (v := ?_) (a' := ?_) #[true, false, false, false, false, false, false, false, false, false, false] rfl rfl (by kernel_rfl) (fun _ _ _ h => h) (Or.inl ⟨by rfl, ?_⟩) ?_ ?_
  rotate_left
  · intro w'
    go_simp
    with_reducible rfl
  rotate_left
  · simp only [Act.put, List.setIfInBounds_toArray, List.set_cons_zero, List.set_cons_succ, i64_w, i32_w]
    rfl
  refine pure_ (i := 1) (N := some 28) (v := ?_) (a' := ?_) #[true, true, false, false, false, false, false, false, false, false, false] rfl rfl (by kernel_rfl) (fun _ _ _ h => h) (Or.inl ⟨by rfl, ?_⟩) ?_ ?_
  rotate_left
  · intro w'
    go_simp
    with_reducible rfl
  rotate_left
  · simp only [Act.put, List.setIfInBounds_toArray, List.set_cons_zero, List.set_cons_succ, i64_w, i32_w]
    rfl
  refine pure_ (i := 2) (N := some 29) (v := ?_) (a' := ?_) #[true, true, true, false, false, false, false, false, false, false, false] rfl rfl (by kernel_rfl) (fun _ _ _ h => h) (Or.inl ⟨by rfl, ?_⟩) ?_ ?_
  rotate_left
  · intro w'
    go_simp
    with_reducible rfl
  rotate_left
  · simp only [Act.put, List.setIfInBounds_toArray, List.set_cons_zero, List.set_cons_succ, i64_w, i32_w]
    rfl
  refine pure_ (i := 5) (N := some 32) (v := ?_) (a' := ?_) #[true, true, true, false, false, true, false, false, false, false, false] rfl rfl (by kernel_rfl) (fun _ _ _ h => h) (Or.inl ⟨by rfl, ?_⟩) ?_ ?_
  rotate_left
  · intro w'
    go_simp
    with_reducible rfl
  rotate_left
  · simp only [Act.put, List.setIfInBounds_toArray, List.set_cons_zero, List.set_cons_succ, i64_w, i32_w]
    rfl
  refine pure_ (i := 6) (N := some 33) (v := ?_) (a' := ?_) #[true, true, true, false, false, true, true, false, false, false, false] rfl rfl (by kernel_rfl) (fun _ _ _ h => h) (Or.inl ⟨by rfl, ?_⟩) ?_ ?_
  rotate_left
  · intro w'
    go_simp
    with_reducible rfl
  rotate_left
  · simp only [Act.put, List.setIfInBounds_toArray, List.set_cons_zero, List.set_cons_succ, i64_w, i32_w]
    rfl
  refine take_ (i := 3) (N := some 30) (v := ?_) (a' := ?_) #[true, true, true, true, false, true, true, false, false, false, false] rfl rfl (by kernel_rfl) (fun _ _ _ h => h) (Or.inl ⟨by rfl, ?_⟩) hHeld ?_ ?_
  rotate_left
  · rintro w' ⟨s0, s1⟩
    go_simp
    with_reducible rfl
  rotate_left
  · simp only [Act.put, List.setIfInBounds_toArray, List.set_cons_zero, List.set_cons_succ, i64_w, i32_w]
    rfl
  refine pure_ (i := 4) (N := some 31) (v := ?_) (a' := ?_) #[true, true, true, true, true, true, true, false, false, false, false] rfl rfl (by kernel_rfl) (fun _ _ _ h => h) (Or.inl ⟨by rfl, ?_⟩) ?_ ?_
  rotate_left
  · intro w'
    go_simp
    with_reducible rfl
  rotate_left
  · simp only [Act.put, List.setIfInBounds_toArray, List.set_cons_zero, List.set_cons_succ, i64_w, i32_w]
    rfl
  refine take_ (i := 7) (N := some 34) (v := ?_) (a' := ?_) #[true, true, true, true, true, true, true, true, false, false, false] rfl rfl (by kernel_rfl) (fun _ _ _ h => h) (Or.inl ⟨by rfl, ?_⟩) hHeld ?_ ?_
  rotate_left
  · rintro w' ⟨s0, s1⟩
    go_simp
    with_reducible rfl
  rotate_left
  · simp only [Act.put, List.setIfInBounds_toArray, List.set_cons_zero, List.set_cons_succ, i64_w, i32_w]
    rfl
  refine pure_ (i := 8) (N := some 35) (v := ?_) (a' := ?_) #[true, true, true, true, true, true, true, true, true, false, false] rfl rfl (by kernel_rfl) (fun _ _ _ h => h) (Or.inl ⟨by rfl, ?_⟩) ?_ ?_
  rotate_left
  · intro w'
    go_simp
    with_reducible rfl
  rotate_left
  · simp only [Act.put, List.setIfInBounds_toArray, List.set_cons_zero, List.set_cons_succ, i64_w, i32_w]
    rfl
  refine pure_ (i := 9) (N := some 36) (v := ?_) (a' := ?_) #[true, true, true, true, true, true, true, true, true, true, false] rfl rfl (by kernel_rfl) (fun _ _ _ h => h) (Or.inl ⟨by rfl, ?_⟩) ?_ ?_
  rotate_left
  · intro w'
    go_simp
    with_reducible rfl
  rotate_left
  · simp only [Act.put, List.setIfInBounds_toArray, List.set_cons_zero, List.set_cons_succ, i64_w, i32_w]
    rfl
  refine pure_ (i := 10) (N := some 7) (v := ?_) (a' := ?_) #[true, true, true, true, true, true, true, true, true, true, true] rfl rfl (by kernel_rfl) (fun _ _ _ h => h) (Or.inl ⟨by rfl, ?_⟩) ?_ ?_
  rotate_left
  · intro w'
    go_simp
    with_reducible rfl
  rotate_left
  · simp only [Act.put, List.setIfInBounds_toArray, List.set_cons_zero, List.set_cons_succ, i64_w, i32_w]
    rfl
  refine done_ (by kernel_rfl) ?_
  clear hHeld h1_ h2_
  go_wp2_with fail
  clear hq_ hm_
  replace a5_ := a5_.drew
  replace c5_ := c5_.drew
  replace b5_ := below_drew1 b5_
  generalize W5.drew = W5' at a5_ c5_ b5_ ⊢
  rw [rounds_succ]
  have k_ := c5_.cell_1
  have f_ := c5_.fz 1
  obtain ⟨W6, hW6⟩ : ∃ W, W5'.setCell ⟨g + 1, 1, none⟩ (.int .i64 u1) = W := ⟨_, rfl⟩
  have a6_ : At W6 g x0 x1 x2 x3 x4 := by rw [← hW6]; exact a5_.other _ _ (by omega)
  have c6_ : At W6 (g + 1) u0 u1 y2 y3 y4 := by rw [← hW6]; exact c5_.set_1 _
  have b6_ : Below g w W6 := by rw [← hW6]; exact b5_.setCell (Nat.le_succ g) _
  clear a5_ c5_ b5_
  have h1_ := a6_.cell_1
  have h2_ := c6_.cell_1
  have hu_ := HU1.out
  go_wp2_with fail
  clear k_ f_ hW6 hu_
  have hq_ := HQ1.out
  have hm_ := HM1.out
  refine start_ (n := 11) (S := fun w' => w'.cell? ⟨g, 1, none⟩ = some (.int .i64 x1) ∧ w'.cell? ⟨g + 1, 1, none⟩ = some (.int .i64 u1)) (ds := []) #[false, false, false, false, false, false, false, false, false, false, false] (by kernel_rfl) rfl rfl ⟨h1_, h2_⟩ (fun hHeld => ?_)
  refine pure_ (i := 0) (N := some 27) (v := ?_) (a' := ?_) #[true, false, false, false, false, false, false, false, false, false, false] rfl rfl (by kernel_rfl) (fun _ _ _ h => h) (Or.inl ⟨by rfl, ?_⟩) ?_ ?_
  rotate_left
  · intro w'
    go_simp
    with_reducible rfl
  rotate_left
  · simp only [Act.put, List.setIfInBounds_toArray, List.set_cons_zero, List.set_cons_succ, i64_w, i32_w]
    rfl
  refine pure_ (i := 1) (N := some 28) (v := ?_) (a' := ?_) #[true, true, false, false, false, false, false, false, false, false, false] rfl rfl (by kernel_rfl) (fun _ _ _ h => h) (Or.inl ⟨by rfl, ?_⟩) ?_ ?_
  rotate_left
  · intro w'
    go_simp
    with_reducible rfl
  rotate_left
  · simp only [Act.put, List.setIfInBounds_toArray, List.set_cons_zero, List.set_cons_succ, i64_w, i32_w]
    rfl
  refine pure_ (i := 2) (N := some 29) (v := ?_) (a' := ?_) #[true, true, true, false, false, false, false, false, false, false, false] rfl rfl (by kernel_rfl) (fun _ _ _ h => h) (Or.inl ⟨by rfl, ?_⟩) ?_ ?_
  rotate_left
  · intro w'
    go_simp
    with_reducible rfl
  rotate_left
  · simp only [Act.put, List.setIfInBounds_toArray, List.set_cons_zero, List.set_cons_succ, i64_w, i32_w]
    rfl
  refine pure_ (i := 5) (N := some 32) (v := ?_) (a' := ?_) #[true, true, true, false, false, true, false, false, false, false, false] rfl rfl (by kernel_rfl) (fun _ _ _ h => h) (Or.inl ⟨by rfl, ?_⟩) ?_ ?_
  rotate_left
  · intro w'
    go_simp
    with_reducible rfl
  rotate_left
  · simp only [Act.put, List.setIfInBounds_toArray, List.set_cons_zero, List.set_cons_succ, i64_w, i32_w]
    rfl
  refine pure_ (i := 6) (N := some 33) (v := ?_) (a' := ?_) #[true, true, true, false, false, true, true, false, false, false, false] rfl rfl (by kernel_rfl) (fun _ _ _ h => h) (Or.inl ⟨by rfl, ?_⟩) ?_ ?_
  rotate_left
  · intro w'
    go_simp
    with_reducible rfl
  rotate_left
  · simp only [Act.put, List.setIfInBounds_toArray, List.set_cons_zero, List.set_cons_succ, i64_w, i32_w]
    rfl
  refine take_ (i := 3) (N := some 30) (v := ?_) (a' := ?_) #[true, true, true, true, false, true, true, false, false, false, false] rfl rfl (by kernel_rfl) (fun _ _ _ h => h) (Or.inl ⟨by rfl, ?_⟩) hHeld ?_ ?_
  rotate_left
  · rintro w' ⟨s0, s1⟩
    go_simp
    with_reducible rfl
  rotate_left
  · simp only [Act.put, List.setIfInBounds_toArray, List.set_cons_zero, List.set_cons_succ, i64_w, i32_w]
    rfl
  refine pure_ (i := 4) (N := some 31) (v := ?_) (a' := ?_) #[true, true, true, true, true, true, true, false, false, false, false] rfl rfl (by kernel_rfl) (fun _ _ _ h => h) (Or.inl ⟨by rfl, ?_⟩) ?_ ?_
  rotate_left
  · intro w'
    go_simp
    with_reducible rfl
  rotate_left
  · simp only [Act.put, List.setIfInBounds_toArray, List.set_cons_zero, List.set_cons_succ, i64_w, i32_w]
    rfl
  refine take_ (i := 7) (N := some 34) (v := ?_) (a' := ?_) #[true, true, true, true, true, true, true, true, false, false, false] rfl rfl (by kernel_rfl) (fun _ _ _ h => h) (Or.inl ⟨by rfl, ?_⟩) hHeld ?_ ?_
  rotate_left
  · rintro w' ⟨s0, s1⟩
    go_simp
    with_reducible rfl
  rotate_left
  · simp only [Act.put, List.setIfInBounds_toArray, List.set_cons_zero, List.set_cons_succ, i64_w, i32_w]
    rfl
  refine pure_ (i := 8) (N := some 35) (v := ?_) (a' := ?_) #[true, true, true, true, true, true, true, true, true, false, false] rfl rfl (by kernel_rfl) (fun _ _ _ h => h) (Or.inl ⟨by rfl, ?_⟩) ?_ ?_
  rotate_left
  · intro w'
    go_simp
    with_reducible rfl
  rotate_left
  · simp only [Act.put, List.setIfInBounds_toArray, List.set_cons_zero, List.set_cons_succ, i64_w, i32_w]
    rfl
  refine pure_ (i := 9) (N := some 36) (v := ?_) (a' := ?_) #[true, true, true, true, true, true, true, true, true, true, false] rfl rfl (by kernel_rfl) (fun _ _ _ h => h) (Or.inl ⟨by rfl, ?_⟩) ?_ ?_
  rotate_left
  · intro w'
    go_simp
    with_reducible rfl
  rotate_left
  · simp only [Act.put, List.setIfInBounds_toArray, List.set_cons_zero, List.set_cons_succ, i64_w, i32_w]
    rfl
  refine pure_ (i := 10) (N := some 7) (v := ?_) (a' := ?_) #[true, true, true, true, true, true, true, true, true, true, true] rfl rfl (by kernel_rfl) (fun _ _ _ h => h) (Or.inl ⟨by rfl, ?_⟩) ?_ ?_
  rotate_left
  · intro w'
    go_simp
    with_reducible rfl
  rotate_left
  · simp only [Act.put, List.setIfInBounds_toArray, List.set_cons_zero, List.set_cons_succ, i64_w, i32_w]
    rfl
  refine done_ (by kernel_rfl) ?_
  clear hHeld h1_ h2_
  go_wp2_with fail
  clear hq_ hm_
  replace a6_ := a6_.drew
  replace c6_ := c6_.drew
  replace b6_ := below_drew1 b6_
  generalize W6.drew = W6' at a6_ c6_ b6_ ⊢
  rw [rounds_succ]
  have k_ := c6_.cell_2
  have f_ := c6_.fz 2
  obtain ⟨W7, hW7⟩ : ∃ W, W6'.setCell ⟨g + 1, 2, none⟩ (.int .i64 u2) = W := ⟨_, rfl⟩
  have a7_ : At W7 g x0 x1 x2 x3 x4 := by rw [← hW7]; exact a6_.other _ _ (by omega)
  have c7_ : At W7 (g + 1) u0 u1 u2 y3 y4 := by rw [← hW7]; exact c6_.set_2 _
  have b7_ : Below g w W7 := by rw [← hW7]; exact b6_.setCell (Nat.le_succ g) _
  clear a6_ c6_ b6_
  have h1_ := a7_.cell_2
  have h2_ := c7_.cell_2
  have hu_ := HU2.out
  go_wp2_with fail
  clear k_ f_ hW7 hu_
  have hq_ := HQ2.out
  have hm_ := HM2.out
  refine start_ (n := 11) (S := fun w' => w'.cell? ⟨g, 2, none⟩ = some (.int .i64 x2) ∧ w'.cell? ⟨g + 1, 2, none⟩ = some (.int .i64 u2)) (ds := []) #[false, false, false, false, false, false, false, false, false, false, false] (by kernel_rfl) rfl rfl ⟨h1_, h2_⟩ (fun hHeld => ?_)
  refine pure_ (i := 0) (N := some 27) (v := ?_) (a' := ?_) #[true, false, false, false, false, false, false, false, false, false, false] rfl rfl (by kernel_rfl) (fun _ _ _ h => h) (Or.inl ⟨by rfl, ?_⟩) ?_ ?_
  rotate_left
  · intro w'
    go_simp
    with_reducible rfl
  rotate_left
  · simp only [Act.put, List.setIfInBounds_toArray, List.set_cons_zero, List.set_cons_succ, i64_w, i32_w]
    rfl
  refine pure_ (i := 1) (N := some 28) (v := ?_) (a' := ?_) #[true, true, false, false, false, false, false, false, false, false, false] rfl rfl (by kernel_rfl) (fun _ _ _ h => h) (Or.inl ⟨by rfl, ?_⟩) ?_ ?_
  rotate_left
  · intro w'
    go_simp
    with_reducible rfl
  rotate_left
  · simp only [Act.put, List.setIfInBounds_toArray, List.set_cons_zero, List.set_cons_succ, i64_w, i32_w]
    rfl
  refine pure_ (i := 2) (N := some 29) (v := ?_) (a' := ?_) #[true, true, true, false, false, false, false, false, false, false, false] rfl rfl (by kernel_rfl) (fun _ _ _ h => h) (Or.inl ⟨by rfl, ?_⟩) ?_ ?_
  rotate_left
  · intro w'
    go_simp
    with_reducible rfl
  rotate_left
  · simp only [Act.put, List.setIfInBounds_toArray, List.set_cons_zero, List.set_cons_succ, i64_w, i32_w]
    rfl
  refine pure_ (i := 5) (N := some 32) (v := ?_) (a' := ?_) #[true, true, true, false, false, true, false, false, false, false, false] rfl rfl (by kernel_rfl) (fun _ _ _ h => h) (Or.inl ⟨by rfl, ?_⟩) ?_ ?_
  rotate_left
  · intro w'
    go_simp
    with_reducible rfl
  rotate_left
  · simp only [Act.put, List.setIfInBounds_toArray, List.set_cons_zero, List.set_cons_succ, i64_w, i32_w]
    rfl
  refine pure_ (i := 6) (N := some 33) (v := ?_) (a' := ?_) #[true, true, true, false, false, true, true, false, false, false, false] rfl rfl (by kernel_rfl) (fun _ _ _ h => h) (Or.inl ⟨by rfl, ?_⟩) ?_ ?_
  rotate_left
  · intro w'
    go_simp
    with_reducible rfl
  rotate_left
  · simp only [Act.put, List.setIfInBounds_toArray, List.set_cons_zero, List.set_cons_succ, i64_w, i32_w]
    rfl
  refine take_ (i := 3) (N := some 30) (v := ?_) (a' := ?_) #[true, true, true, true, false, true, true, false, false, false, false] rfl rfl (by kernel_rfl) (fun _ _ _ h => h) (Or.inl ⟨by rfl, ?_⟩) hHeld ?_ ?_
  rotate_left
  · rintro w' ⟨s0, s1⟩
    go_simp
    with_reducible rfl
  rotate_left
  · simp only [Act.put, List.setIfInBounds_toArray, List.set_cons_zero, List.set_cons_succ, i64_w, i32_w]
    rfl
  refine pure_ (i := 4) (N := some 31) (v := ?_) (a' := ?_) #[true, true, true, true, true, true, true, false, false, false, false] rfl rfl (by kernel_rfl) (fun _ _ _ h => h) (Or.inl ⟨by rfl, ?_⟩) ?_ ?_
  rotate_left
  · intro w'
    go_simp
    with_reducible rfl
  rotate_left
  · simp only [Act.put, List.setIfInBounds_toArray, List.set_cons_zero, List.set_cons_succ, i64_w, i32_w]
    rfl
  refine take_ (i := 7) (N := some 34) (v := ?_) (a' := ?_) #[true, true, true, true, true, true, true, true, false, false, false] rfl rfl (by kernel_rfl) (fun _ _ _ h => h) (Or.inl ⟨by rfl, ?_⟩) hHeld ?_ ?_
  rotate_left
  · rintro w' ⟨s0, s1⟩
    go_simp
    with_reducible rfl
  rotate_left
  · simp only [Act.put, List.setIfInBounds_toArray, List.set_cons_zero, List.set_cons_succ, i64_w, i32_w]
    rfl
  refine pure_ (i := 8) (N := some 35) (v := ?_) (a' := ?_) #[true, true, true, true, true, true, true, true, true, false, false] rfl rfl (by kernel_rfl) (fun _ _ _ h => h) (Or.inl ⟨by rfl, ?_⟩) ?_ ?_
  rotate_left
  · intro w'
    go_simp
    with_reducible rfl
  rotate_left
  · simp only [Act.put, List.setIfInBounds_toArray, List.set_cons_zero, List.set_cons_succ, i64_w, i32_w]
    rfl
  refine pure_ (i := 9) (N := some 36) (v := ?_) (a' := ?_) #[true, true, true, true, true, true, true, true, true, true, false] rfl rfl (by kernel_rfl) (fun _ _ _ h => h) (Or.inl ⟨by rfl, ?_⟩) ?_ ?_
  rotate_left
  · intro w'
    go_simp
    with_reducible rfl
  rotate_left
  · simp only [Act.put, List.setIfInBounds_toArray, List.set_cons_zero, List.set_cons_succ, i64_w, i32_w]
    rfl
  refine pure_ (i := 10) (N := some 7) (v := ?_) (a' := ?_) #[true, true, true, true, true, true, true, true, true, true, true] rfl rfl (by kernel_rfl) (fun _ _ _ h => h) (Or.inl ⟨by rfl, ?_⟩) ?_ ?_
  rotate_left
  · intro w'
    go_simp
    with_reducible rfl
  rotate_left
  · simp only [Act.put, List.setIfInBounds_toArray, List.set_cons_zero, List.set_cons_succ, i64_w, i32_w]
    rfl
  refine done_ (by kernel_rfl) ?_
  clear hHeld h1_ h2_
  go_wp2_with fail
  clear hq_ hm_
  replace a7_ := a7_.drew
  replace c7_ := c7_.drew
  replace b7_ := below_drew1 b7_
  generalize W7.drew = W7' at a7_ c7_ b7_ ⊢
  rw [rounds_succ]
  have k_ := c7_.cell_3
  have f_ := c7_.fz 3
  obtain ⟨W8, hW8⟩ : ∃ W, W7'.setCell ⟨g + 1, 3, none⟩ (.int .i64 u3) = W := ⟨_, rfl⟩
  have a8_ : At W8 g x0 x1 x2 x3 x4 := by rw [← hW8]; exact a7_.other _ _ (by omega)
  have c8_ : At W8 (g + 1) u0 u1 u2 u3 y4 := by rw [← hW8]; exact c7_.set_3 _
  have b8_ : Below g w W8 := by rw [← hW8]; exact b7_.setCell (Nat.le_succ g) _
  clear a7_ c7_ b7_
  have h1_ := a8_.cell_3
  have h2_ := c8_.cell_3
  have hu_ := HU3.out
  go_wp2_with fail
  clear k_ f_ hW8 hu_
  have hq_ := HQ3.out
  have hm_ := HM3.out
  refine start_ (n := 11) (S := fun w' => w'.cell? ⟨g, 3, none⟩ = some (.int .i64 x3) ∧ w'.cell? ⟨g + 1, 3, none⟩ = some (.int .i64 u3)) (ds := []) #[false, false, false, false, false, false, false, false, false, false, false] (by kernel_rfl) rfl rfl ⟨h1_, h2_⟩ (fun hHeld => ?_)
  refine pure_ (i := 0) (N := some 27) (v := ?_) (a' := ?_) #[true, false, false, false, false, false, false, false, false, false, false] rfl rfl (by kernel_rfl) (fun _ _ _ h => h) (Or.inl ⟨by rfl, ?_⟩) ?_ ?_
  rotate_left
  · intro w'
    go_simp
    with_reducible rfl
  rotate_left
  · simp only [Act.put, List.setIfInBounds_toArray, List.set_cons_zero, List.set_cons_succ, i64_w, i32_w]
    rfl
  refine pure_ (i := 1) (N := some 28) (v := ?_) (a' := ?_) #[true, true, false, false, false, false, false, false, false, false, false] rfl rfl (by kernel_rfl) (fun _ _ _ h => h) (Or.inl ⟨by rfl, ?_⟩) ?_ ?_
  rotate_left
  · intro w'
    go_simp
    with_reducible rfl
  rotate_left
  · simp only [Act.put, List.setIfInBounds_toArray, List.set_cons_zero, List.set_cons_succ, i64_w, i32_w]
    rfl
  refine pure_ (i := 2) (N := some 29) (v := ?_) (a' := ?_) #[true, true, true, false, false, false, false, false, false, false, false] rfl rfl (by kernel_rfl) (fun _ _ _ h => h) (Or.inl ⟨by rfl, ?_⟩) ?_ ?_
  rotate_left
  · intro w'
    go_simp
    with_reducible rfl
  rotate_left
  · simp only [Act.put, List.setIfInBounds_toArray, List.set_cons_zero, List.set_cons_succ, i64_w, i32_w]
    rfl
  refine pure_ (i := 5) (N := some 32) (v := ?_) (a' := ?_) #[true, true, true, false, false, true, false, false, false, false, false] rfl rfl (by kernel_rfl) (fun _ _ _ h => h) (Or.inl ⟨by rfl, ?_⟩) ?_ ?_
  rotate_left
  · intro w'
    go_simp
    with_reducible rfl
  rotate_left
  · simp only [Act.put, List.setIfInBounds_toArray, List.set_cons_zero, List.set_cons_succ, i64_w, i32_w]
    rfl
  refine pure_ (i := 6) (N := some 33) (v := ?_) (a' := ?_) #[true, true, true, false, false, true, true, false, false, false, false] rfl rfl (by kernel_rfl) (fun _ _ _ h => h) (Or.inl ⟨by rfl, ?_⟩) ?_ ?_
  rotate_left
  · intro w'
    go_simp
    with_reducible rfl
  rotate_left
  · simp only [Act.put, List.setIfInBounds_toArray, List.set_cons_zero, List.set_cons_succ, i64_w, i32_w]
    rfl
  refine take_ (i := 3) (N := some 30) (v := ?_) (a' := ?_) #[true, true, true, true, false, true, true, false, false, false, false] rfl rfl (by kernel_rfl) (fun _ _ _ h => h) (Or.inl ⟨by rfl, ?_⟩) hHeld ?_ ?_
  rotate_left
  · rintro w' ⟨s0, s1⟩
    go_simp
    with_reducible rfl
  rotate_left
  · simp only [Act.put, List.setIfInBounds_toArray, List.set_cons_zero, List.set_cons_succ, i64_w, i32_w]
    rfl
  refine pure_ (i := 4) (N := some 31) (v := ?_) (a' := ?_) #[true, true, true, true, true, true, true, false, false, false, false] rfl rfl (by kernel_rfl) (fun _ _ _ h => h) (Or.inl ⟨by rfl, ?_⟩) ?_ ?_
  rotate_left
  · intro w'
    go_simp
    with_reducible rfl
  rotate_left
  · simp only [Act.put, List.setIfInBounds_toArray, List.set_cons_zero, List.set_cons_succ, i64_w, i32_w]
    rfl
  refine take_ (i := 7) (N := some 34) (v := ?_) (a' := ?_) #[true, true, true, true, true, true, true, true, false, false, false] rfl rfl (by kernel_rfl) (fun _ _ _ h => h) (Or.inl ⟨by rfl, ?_⟩) hHeld ?_ ?_
  rotate_left
  · rintro w' ⟨s0, s1⟩
    go_simp
    with_reducible rfl
  rotate_left
  · simp only [Act.put, List.setIfInBounds_toArray, List.set_cons_zero, List.set_cons_succ, i64_w, i32_w]
    rfl
  refine pure_ (i := 8) (N := some 35) (v := ?_) (a' := ?_) #[true, true, true, true, true, true, true, true, true, false, false] rfl rfl (by kernel_rfl) (fun _ _ _ h => h) (Or.inl ⟨by rfl, ?_⟩) ?_ ?_
  rotate_left
  · intro w'
    go_simp
    with_reducible rfl
  rotate_left
  · simp only [Act.put, List.setIfInBounds_toArray, List.set_cons_zero, List.set_cons_succ, i64_w, i32_w]
    rfl
  refine pure_ (i := 9) (N := some 36) (v := ?_) (a' := ?_) #[true, true, true, true, true, true, true, true, true, true, false] rfl rfl (by kernel_rfl) (fun _ _ _ h => h) (Or.inl ⟨by rfl, ?_⟩) ?_ ?_
  rotate_left
  · intro w'
    go_simp
    with_reducible rfl
  rotate_left
  · simp only [Act.put, List.setIfInBounds_toArray, List.set_cons_zero, List.set_cons_succ, i64_w, i32_w]
    rfl
  refine pure_ (i := 10) (N := some 7) (v := ?_) (a' := ?_) #[true, true, true, true, true, true, true, true, true, true, true] rfl rfl (by kernel_rfl) (fun _ _ _ h => h) (Or.inl ⟨by rfl, ?_⟩) ?_ ?_
  rotate_left
  · intro w'
    go_simp
    with_reducible rfl
  rotate_left
  · simp only [Act.put, List.setIfInBounds_toArray, List.set_cons_zero, List.set_cons_succ, i64_w, i32_w]
    rfl
  refine done_ (by kernel_rfl) ?_
  clear hHeld h1_ h2_
  go_wp2_with fail
  clear hq_ hm_
  replace a8_ := a8_.drew
  replace c8_ := c8_.drew
  replace b8_ := below_drew1 b8_
  generalize W8.drew = W8' at a8_ c8_ b8_ ⊢
  rw [rounds_succ]
  have k_ := c8_.cell_4
  have f_ := c8_.fz 4
  obtain ⟨W9, hW9⟩ : ∃ W, W8'.setCell ⟨g + 1, 4, none⟩ (.int .i64 u4) = W := ⟨_, rfl⟩
  have a9_ : At W9 g x0 x1 x2 x3 x4 := by rw [← hW9]; exact a8_.other _ _ (by omega)
  have c9_ : At W9 (g + 1) u0 u1 u2 u3 u4 := by rw [← hW9]; exact c8_.set_4 _
  have b9_ : Below g w W9 := by rw [← hW9]; exact b8_.setCell (Nat.le_succ g) _
  clear a8_ c8_ b8_
  have h1_ := a9_.cell_4
  have h2_ := c9_.cell_4
  have hu_ := HU4.out
  go_wp2_with fail
  clear k_ f_ hW9 hu_
  have hq_ := HQ4.out
  have hm_ := HM4.out
  refine start_ (n := 11) (S := fun w' => w'.cell? ⟨g, 4, none⟩ = some (.int .i64 x4) ∧ w'.cell? ⟨g + 1, 4, none⟩ = some (.int .i64 u4)) (ds := []) #[false, false, false, false, false, false, false, false, false, false, false] (by kernel_rfl) rfl rfl ⟨h1_, h2_⟩ (fun hHeld => ?_)
  refine pure_ (i := 0) (N := some 27) (v := ?_) (a' := ?_) #[true, false, false, false, false, false, false, false, false, false, false] rfl rfl (by kernel_rfl) (fun _ _ _ h => h) (Or.inl ⟨by rfl, ?_⟩) ?_ ?_
  rotate_left
  · intro w'
    go_simp
    with_reducible rfl
  rotate_left
  · simp only [Act.put, List.setIfInBounds_toArray, List.set_cons_zero, List.set_cons_succ, i64_w, i32_w]
    rfl
  refine pure_ (i := 1) (N := some 28) (v := ?_) (a' := ?_) #[true, true, false, false, false, false, false, false, false, false, false] rfl rfl (by kernel_rfl) (fun _ _ _ h => h) (Or.inl ⟨by rfl, ?_⟩) ?_ ?_
  rotate_left
  · intro w'
    go_simp
    with_reducible rfl
  rotate_left
  · simp only [Act.put, List.setIfInBounds_toArray, List.set_cons_zero, List.set_cons_succ, i64_w, i32_w]
    rfl
  refine pure_ (i := 2) (N := some 29) (v := ?_) (a' := ?_) #[true, true, true, false, false, false, false, false, false, false, false] rfl rfl (by kernel_rfl) (fun _ _ _ h => h) (Or.inl ⟨by rfl, ?_⟩) ?_ ?_
  rotate_left
  · intro w'
    go_simp
    with_reducible rfl
  rotate_left
  · simp only [Act.put, List.setIfInBounds_toArray, List.set_cons_zero, List.set_cons_succ, i64_w, i32_w]
    rfl
  refine pure_ (i := 5) (N := some 32) (v := ?_) (a' := ?_) #[true, true, true, false, false, true, false, false, false, false, false] rfl rfl (by kernel_rfl) (fun _ _ _ h => h) (Or.inl ⟨by rfl, ?_⟩) ?_ ?_
  rotate_left
  · intro w'
    go_simp
    with_reducible rfl
  rotate_left
  · simp only [Act.put, List.setIfInBounds_toArray, List.set_cons_zero, List.set_cons_succ, i64_w, i32_w]
    rfl
  refine pure_ (i := 6) (N := some 33) (v := ?_) (a' := ?_) #[true, true, true, false, false, true, true, false, false, false, false] rfl rfl (by kernel_rfl) (fun _ _ _ h => h) (Or.inl ⟨by rfl, ?_⟩) ?_ ?_
  rotate_left
  · intro w'
    go_simp
    with_reducible rfl
  rotate_left
  · simp only [Act.put, List.setIfInBounds_toArray, List.set_cons_zero, List.set_cons_succ, i64_w, i32_w]
    rfl
  refine take_ (i := 3) (N := some 30) (v := ?_) (a' := ?_) #[true, true, true, true, false, true, true, false, false, false, false] rfl rfl (by kernel_rfl) (fun _ _ _ h => h) (Or.inl ⟨by rfl, ?_⟩) hHeld ?_ ?_
  rotate_left
  · rintro w' ⟨s0, s1⟩
    go_simp
    with_reducible rfl
  rotate_left
  · simp only [Act.put, List.setIfInBounds_toArray, List.set_cons_zero, List.set_cons_succ, i64_w, i32_w]
    rfl
  refine pure_ (i := 4) (N := some 31) (v := ?_) (a' := ?_) #[true, true, true, true, true, true, true, false, false, false, false] rfl rfl (by kernel_rfl) (fun _ _ _ h => h) (Or.inl ⟨by rfl, ?_⟩) ?_ ?_
  rotate_left
  · intro w'
    go_simp
    with_reducible rfl
  rotate_left
  · simp only [Act.put, List.setIfInBounds_toArray, List.set_cons_zero, List.set_cons_succ, i64_w, i32_w]
    rfl
  refine take_ (i := 7) (N := some 34) (v := ?_) (a' := ?_) #[true, true, true, true, true, true, true, true, false, false, false] rfl rfl (by kernel_rfl) (fun _ _ _ h => h) (Or.inl ⟨by rfl, ?_⟩) hHeld ?_ ?_
  rotate_left
  · rintro w' ⟨s0, s1⟩
    go_simp
    with_reducible rfl
  rotate_left
  · simp only [Act.put, List.setIfInBounds_toArray, List.set_cons_zero, List.set_cons_succ, i64_w, i32_w]
    rfl
  refine pure_ (i := 8) (N := some 35) (v := ?_) (a' := ?_) #[true, true, true, true, true, true, true, true, true, false, false] rfl rfl (by kernel_rfl) (fun _ _ _ h => h) (Or.inl ⟨by rfl, ?_⟩) ?_ ?_
  rotate_left
  · intro w'
    go_simp
    with_reducible rfl
  rotate_left
  · simp only [Act.put, List.setIfInBounds_toArray, List.set_cons_zero, List.set_cons_succ, i64_w, i32_w]
    rfl
  refine pure_ (i := 9) (N := some 36) (v := ?_) (a' := ?_) #[true, true, true, true, true, true, true, true, true, true, false] rfl rfl (by kernel_rfl) (fun _ _ _ h => h) (Or.inl ⟨by rfl, ?_⟩) ?_ ?_
  rotate_left
  · intro w'
    go_simp
    with_reducible rfl
  rotate_left
  · simp only [Act.put, List.setIfInBounds_toArray, List.set_cons_zero, List.set_cons_succ, i64_w, i32_w]
    rfl
  refine pure_ (i := 10) (N := some 7) (v := ?_) (a' := ?_) #[true, true, true, true, true, true, true, true, true, true, true] rfl rfl (by kernel_rfl) (fun _ _ _ h => h) (Or.inl ⟨by rfl, ?_⟩) ?_ ?_
  rotate_left
  · intro w'
    go_simp
    with_reducible rfl
  rotate_left
  · simp only [Act.put, List.setIfInBounds_toArray, List.set_cons_zero, List.set_cons_succ, i64_w, i32_w]
    rfl
  refine done_ (by kernel_rfl) ?_
  clear hHeld h1_ h2_
  go_wp2_with fail
  clear hq_ hm_
  replace a9_ := a9_.drew
  replace c9_ := c9_.drew
  replace b9_ := below_drew1 b9_
  generalize W9.drew = W9' at a9_ c9_ b9_ ⊢
  rw [rounds_succ]
  have k0_ := a9_.cell_0
  have l0_ := c9_.cell_0
  have k1_ := a9_.cell_1
  have l1_ := c9_.cell_1
  have k2_ := a9_.cell_2
  have l2_ := c9_.cell_2
  have k3_ := a9_.cell_3
  have l3_ := c9_.cell_3
  have k4_ := a9_.cell_4
  have l4_ := c9_.cell_4
  go_wp2_with fail
  refine (share_c x0 x1 x2 x3 x4 u0 u1 u2 u3 u4 _).mono ?_
  rw [HE.out.2.1, HE.out.1, HM5.out]
  rintro _ V6 ⟨rfl, hb⟩
  have a10_ := a9_.below hb
  have c10_ := c9_.below hb
  have b10_ := bk b9_ (Nat.le_of_lt a9_.lt) hb
  clear a9_ c9_ b9_ hb k0_ l0_ k1_ l1_ k2_ l2_ k3_ l3_ k4_ l4_
  go_wp2_with fail
  have BR := drayageref00_Bring.calls k 5 (i : Int) V6 ((bring_5 k).trans (congrArg some HK.out.2))
  refine BR.mono ?_
  rintro _ V7 ⟨rfl, hd⟩
  have hb := hd.below
  have a11_ := a10_.below hb
  have c11_ := c10_.below hb
  have b11_ := bk b10_ (Nat.le_of_lt a10_.lt) hb
  clear a10_ c10_ b10_ hb hd BR
  have i0 : (0 : Int) ≤ (i : Int) := by omega
  have i5 : (i : Int) < 5 := by have := HK.out.1; omega
  have hk_ := a11_.at_ i HK.out.1
  have hf_ := a11_.fz i
  obtain ⟨xi, hxi⟩ : ∃ x, V.get ⟨x0, x1, x2, x3, x4⟩ i = x := ⟨_, rfl⟩
  obtain ⟨x7, hx7⟩ : ∃ x, wrap64 (xi + 7) = x := ⟨_, rfl⟩
  have HS : Aside0 (V.set ⟨x0, x1, x2, x3, x4⟩ i (wrap64 (V.get ⟨x0, x1, x2, x3, x4⟩ i + 7)) = V.set ⟨x0, x1, x2, x3, x4⟩ i x7) := ⟨by rw [hxi, hx7]⟩
  rw [hxi] at hk_
  obtain ⟨W8, hW8⟩ : ∃ W, V7.setCell ⟨g, i, none⟩ (.int .i64 x7) = W := ⟨_, rfl⟩
  have z8_ : AtV W8 g (V.set ⟨x0, x1, x2, x3, x4⟩ i x7) := by rw [← hW8]; exact AtV.set_ a11_ i HK.out.1 x7
  have c8_ : At W8 (g + 1) u0 u1 u2 u3 u4 := by rw [← hW8]; exact c11_.other _ _ (by omega)
  have b8_ : Below g w W8 := by rw [← hW8]; exact b11_.setCell (Nat.le_refl _) _
  clear a11_ c11_ b11_ hxi
  obtain ⟨⟨z0, z1, z2, z3, z4⟩, hz⟩ : ∃ z, V.set ⟨x0, x1, x2, x3, x4⟩ i x7 = z := ⟨_, rfl⟩
  rw [hz] at z8_
  have HZ := Aside0.mk (HS.out.trans hz)
  clear hz HS
  (try dsimp only at z8_)
  have k0_ := z8_.cell_0
  have l0_ := c8_.cell_0
  have k1_ := z8_.cell_1
  have l1_ := c8_.cell_1
  have k2_ := z8_.cell_2
  have l2_ := c8_.cell_2
  have k3_ := z8_.cell_3
  have l3_ := c8_.cell_3
  have k4_ := z8_.cell_4
  have l4_ := c8_.cell_4
  go_wp2_with fail
  clear hx7 hW8 hk_ hf_
  refine (share_c z0 z1 z2 z3 z4 u0 u1 u2 u3 u4 _).mono ?_
  have HE2 := HE.out.2.2
  rw [HZ.out, HM5.out] at HE2
  rw [HE2.1, HE2.2.1]
  rintro _ V9 ⟨rfl, hb⟩
  have b12_ := bk b8_ (Nat.le_of_lt z8_.lt) hb
  clear z8_ c8_ b8_ hb k0_ l0_ k1_ l1_ k2_ l2_ k3_ l3_ k4_ l4_
  have hge : decide (m2 ≥ m5_) = true := decide_eq_true HE2.2.2
  clear HE2
  go_wp2_with fail
  refine (works_c _ (HT.out.1.up (by first | exact b12_ | exact hg ▸ b12_)) (HT.out.2.up (by first | exact b12_ | exact hg ▸ b12_))).mono ?_
  rintro _ V13 ⟨rfl, hb⟩
  have b13_ := bk b12_ (by have := b12_.size; omega) hb
  clear hb
  go_wp2_with fail
  go_ret
  exact ⟨rfl, by first | exact b13_ | exact below_is hg b13_⟩
end Go.Proofs.YtceepgleeelohaaDoor.P
