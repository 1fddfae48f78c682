import Derived.Test.YtceepgleeelohaaDoorHv0
import Derived.Test.YtceepgleeelohaaDoorHv13
/- The law VecBack, walked. -/
namespace Go.Proofs.YtceepgleeelohaaDoor.P
set_option linter.unusedVariables false
set_option linter.unusedSimpArgs false
open Go.RowKit Go.Proofs.YtceepgleeelohaaDoorW.PrintWords Go.Proofs.YtceepgleeelohaaDoorW.PrintLast Go.Proofs.YtceepgleeelohaaDoorW.PrintMore
attribute [local go_sem] eq23
set_option maxRecDepth 100000 in
set_option maxHeartbeats 4000000 in
theorem vecBack_w (a b c d e : Int) (w : World) (hT : Tb w) (hN : Nm w)
    (hb0 : ∀ k, -9223372036854775808 ≤ V.get ⟨a, b, c, d, e⟩ k ∧ V.get ⟨a, b, c, d, e⟩ k ≤ 9223372036854775807) (hb1 : ∀ k, -9223372036854775808 ≤ V.get ⟨(a % 68719476736), (b % 68719476736), (c % 68719476736), (d % 68719476736), (e % 68719476736)⟩ k ∧ V.get ⟨(a % 68719476736), (b % 68719476736), (c % 68719476736), (d % 68719476736), (e % 68719476736)⟩ k ≤ 9223372036854775807)
    (h0 : V.check ⟨a, b, c, d, e⟩ = 0 → V.parse (V.print ⟨a, b, c, d, e⟩).1 = (⟨a, b, c, d, e⟩, 0, 0) ∧ (V.print ⟨a, b, c, d, e⟩).1.size ≤ 1000000) (h1 : V.check ⟨(a % 68719476736), (b % 68719476736), (c % 68719476736), (d % 68719476736), (e % 68719476736)⟩ = 0) (h2 : V.parse (V.print ⟨(a % 68719476736), (b % 68719476736), (c % 68719476736), (d % 68719476736), (e % 68719476736)⟩).1 = (⟨(a % 68719476736), (b % 68719476736), (c % 68719476736), (d % 68719476736), (e % 68719476736)⟩, 0, 0) ∧ (V.print ⟨(a % 68719476736), (b % 68719476736), (c % 68719476736), (d % 68719476736), (e % 68719476736)⟩).1.size ≤ 1000000) :
    Calls Tryd.prog 5 #[.agg #[.int .i64 a, .int .i64 b, .int .i64 c, .int .i64 d, .int .i64 e]] w fun e_ w' => e_ = .returned (.bool true) ∧ Below w.heap.size w w' := by
  obtain ⟨g, hg⟩ : ∃ g, w.heap.size = g := ⟨_, rfl⟩
  obtain ⟨W0, hW0⟩ : ∃ W, w.alloc (.cells #[.int .i64 a, .int .i64 b, .int .i64 c, .int .i64 d, .int .i64 e] 23) = W := ⟨_, rfl⟩
  have a_ : At W0 g a b c d e := by rw [← hW0, ← hg]; exact At.new _ _ _ _ _ _
  have b_ : Below g w W0 := by rw [← hW0, ← hg]; exact below_alloc (Below.refl _ _) _
  have HT := Aside0.mk (And.intro hT hN)
  have pc0 := fun W (h1 : Tb W) (h2 : Nm W) => print_c a b c d e W h1 h2 hb0
  have pc1 := fun W (h1 : Tb W) (h2 : Nm W) => print_c (a % 68719476736) (b % 68719476736) (c % 68719476736) (d % 68719476736) (e % 68719476736) W h1 h2 hb1
  have cc0 := fun W => check_c a b c d e W
  have cc1 := fun W => check_c (a % 68719476736) (b % 68719476736) (c % 68719476736) (d % 68719476736) (e % 68719476736) W
  have MC0 := Aside0.mk (fun W => made_c a b c d e W)
  have mc1 := fun W => made_c (a % 68719476736) (b % 68719476736) (c % 68719476736) (d % 68719476736) (e % 68719476736) W
  have p1 : V.print ⟨(a % 68719476736), (b % 68719476736), (c % 68719476736), (d % 68719476736), (e % 68719476736)⟩ = ((V.print ⟨(a % 68719476736), (b % 68719476736), (c % 68719476736), (d % 68719476736), (e % 68719476736)⟩).1, 0) := by
    unfold V.print
    rw [if_neg (by rw [h1]; decide)]
  obtain ⟨s1, hs1⟩ : ∃ s, (V.print ⟨(a % 68719476736), (b % 68719476736), (c % 68719476736), (d % 68719476736), (e % 68719476736)⟩).1 = s := ⟨_, rfl⟩
  rw [hs1] at p1 h2
  have qc1 := fun W (h : Nm W) => parse_c s1 W h h2.2
  rw [h2.1] at qc1
  rw [p1] at pc1
  rw [h1] at cc1
  dsimp only at qc1 pc1 cc1
  obtain ⟨m0, hm0⟩ : ∃ m, a % 68719476736 = m := ⟨_, rfl⟩
  obtain ⟨m1, hm1⟩ : ∃ m, b % 68719476736 = m := ⟨_, rfl⟩
  obtain ⟨m2, hm2⟩ : ∃ m, c % 68719476736 = m := ⟨_, rfl⟩
  obtain ⟨m3, hm3⟩ : ∃ m, d % 68719476736 = m := ⟨_, rfl⟩
  obtain ⟨m4, hm4⟩ : ∃ m, e % 68719476736 = m := ⟨_, rfl⟩
  have HM := Aside0.mk (And.intro hm0 (And.intro hm1 (And.intro hm2 (And.intro hm3 hm4))))
  rw [hm0, hm1, hm2, hm3, hm4] at MC0 pc1 cc1 qc1 mc1
  obtain ⟨n0, hn0⟩ : ∃ m, m0 % 68719476736 = m := ⟨_, rfl⟩
  obtain ⟨n1, hn1⟩ : ∃ m, m1 % 68719476736 = m := ⟨_, rfl⟩
  obtain ⟨n2, hn2⟩ : ∃ m, m2 % 68719476736 = m := ⟨_, rfl⟩
  obtain ⟨n3, hn3⟩ : ∃ m, m3 % 68719476736 = m := ⟨_, rfl⟩
  obtain ⟨n4, hn4⟩ : ∃ m, m4 % 68719476736 = m := ⟨_, rfl⟩
  rw [hn0, hn1, hn2, hn3, hn4] at mc1
  have PC1 := Aside0.mk pc1
  have CC1 := Aside0.mk cc1
  have QC1 := Aside0.mk qc1
  have MC1 := Aside0.mk mc1
  clear pc1 cc1 qc1 mc1 hm0 hm1 hm2 hm3 hm4 hn0 hn1 hn2 hn3 hn4 hs1 p1 h1 h2 hT hN hb0 hb1
  by_cases hq : V.check ⟨a, b, c, d, e⟩ = 0
  · have p0 : V.print ⟨a, b, c, d, e⟩ = ((V.print ⟨a, b, c, d, e⟩).1, 0) := by
      unfold V.print
      rw [if_neg (by rw [hq]; decide)]
    obtain ⟨s0, hs0⟩ : ∃ s, (V.print ⟨a, b, c, d, e⟩).1 = s := ⟨_, rfl⟩
    have h00 := h0 hq
    rw [hs0] at p0 h00
    have qc0 := fun W (h : Nm W) => parse_c s0 W h h00.2
    rw [h00.1] at qc0
    rw [p0] at pc0
    rw [hq] at cc0
    dsimp only at qc0 pc0 cc0
    have PC0 := Aside0.mk pc0
    have CC0 := Aside0.mk cc0
    have QC0 := Aside0.mk qc0
    clear pc0 cc0 qc0 hs0 p0 h00 h0 hq
    go_enter Tryd.func5, Tryd.ntmps5
    go_wp2_with fail
    refine (works_c _ (HT.out.1.up (hg ▸ b_)) (HT.out.2.up (hg ▸ b_))).mono ?_
    rintro _ VW ⟨rfl, hb⟩
    replace b_ := bk b_ (hg ▸ b_.size) hb
    replace a_ := a_.below hb
    clear hb hW0
    go_wp2_with fail
    refine wp_loop_rounds 3 ?_
    rw [rounds_succ]
    have kv0_ := a_.cell_0
    have kv1_ := a_.cell_1
    have kv2_ := a_.cell_2
    have kv3_ := a_.cell_3
    have kv4_ := a_.cell_4
    go_wp2_with fail
    clear kv0_ kv1_ kv2_ kv3_ kv4_
    refine (PC0.out _ (HT.out.1.up (hg ▸ b_)) (HT.out.2.up (hg ▸ b_))).mono ?_
    rintro _ VA0 ⟨rfl, hb⟩
    replace b_ := bk b_ (hg ▸ b_.size) hb
    replace a_ := a_.below hb
    clear hb
    have kv0_ := a_.cell_0
    have kv1_ := a_.cell_1
    have kv2_ := a_.cell_2
    have kv3_ := a_.cell_3
    have kv4_ := a_.cell_4
    go_wp2_with fail
    clear kv0_ kv1_ kv2_ kv3_ kv4_
    refine (CC0.out _).mono ?_
    rintro _ VB0 ⟨rfl, hb⟩
    replace b_ := bk b_ (hg ▸ b_.size) hb
    replace a_ := a_.below hb
    clear hb
    go_wp2_with fail
    refine (QC0.out _ (HT.out.2.up (hg ▸ b_))).mono ?_
    rintro _ VC0 ⟨rfl, hb⟩
    replace b_ := bk b_ (hg ▸ b_.size) hb
    replace a_ := a_.below hb
    clear hb
    have ha_ := a_.lt
    obtain ⟨h0, hh⟩ : ∃ h, VC0.heap.size = h := ⟨_, rfl⟩
    obtain ⟨X0, hX⟩ : ∃ W, VC0.alloc (.cells #[.int .i64 0, .int .i64 0, .int .i64 0, .int .i64 0, .int .i64 0] 23) = W := ⟨_, rfl⟩
    have z_ : At X0 h0 0 0 0 0 0 := by rw [← hX, ← hh]; exact At.new _ _ _ _ _ _
    replace a_ : At X0 g a b c d e := by rw [← hX]; exact a_.alloc _
    replace b_ : Below g w X0 := by rw [← hX]; exact b_.alloc (hg ▸ b_.size) _
    replace a_ := a_.five_other (show g ≠ h0 by omega) (.int .i64 a) (.int .i64 b) (.int .i64 c) (.int .i64 d) (.int .i64 e)
    have y_ := z_.five a b c d e
    replace b_ := below_five b_ (show g ≤ h0 by omega) (.int .i64 a) (.int .i64 b) (.int .i64 c) (.int .i64 d) (.int .i64 e)
    have fz0_ := z_.fz 0
    have fz1_ := z_.fz 1
    have fz2_ := z_.fz 2
    have fz3_ := z_.fz 3
    have fz4_ := z_.fz 4
    have kz0_ := z_.cell_0
    have kz1_ := z_.cell_1
    have kz2_ := z_.cell_2
    have kz3_ := z_.cell_3
    have kz4_ := z_.cell_4
    have kv0_ := a_.cell_0
    have kv1_ := a_.cell_1
    have kv2_ := a_.cell_2
    have kv3_ := a_.cell_3
    have kv4_ := a_.cell_4
    have ky0_ := y_.cell_0
    have ky1_ := y_.cell_1
    have ky2_ := y_.cell_2
    have ky3_ := y_.cell_3
    have ky4_ := y_.cell_4
    go_wp2_with fail
    clear fz0_ fz1_ fz2_ fz3_ fz4_ kz0_ kz1_ kz2_ kz3_ kz4_ kv0_ kv1_ kv2_ kv3_ kv4_ ky0_ ky1_ ky2_ ky3_ ky4_ z_ y_ hX hh ha_
    refine (MC0.out _).mono ?_
    rintro _ VD0 ⟨rfl, hb⟩
    replace b_ := bk b_ (hg ▸ b_.size) hb
    replace a_ := a_.below hb
    clear hb
    have fv0_ := a_.fz 0
    have fv1_ := a_.fz 1
    have fv2_ := a_.fz 2
    have fv3_ := a_.fz 3
    have fv4_ := a_.fz 4
    have kv0_ := a_.cell_0
    have kv1_ := a_.cell_1
    have kv2_ := a_.cell_2
    have kv3_ := a_.cell_3
    have kv4_ := a_.cell_4
    obtain ⟨Y0, hY⟩ : ∃ W, (((((VD0).setCell ⟨g, 0, none⟩ (.int .i64 m0)).setCell ⟨g, 1, none⟩ (.int .i64 m1)).setCell ⟨g, 2, none⟩ (.int .i64 m2)).setCell ⟨g, 3, none⟩ (.int .i64 m3)).setCell ⟨g, 4, none⟩ (.int .i64 m4) = W := ⟨_, rfl⟩
    replace a_ : At Y0 g m0 m1 m2 m3 m4 := by rw [← hY]; exact a_.five m0 m1 m2 m3 m4
    replace b_ : Below g w Y0 := by rw [← hY]; exact below_five b_ (Nat.le_refl g) (.int .i64 m0) (.int .i64 m1) (.int .i64 m2) (.int .i64 m3) (.int .i64 m4)
    go_wp2_with fail
    clear fv0_ fv1_ fv2_ fv3_ fv4_ kv0_ kv1_ kv2_ kv3_ kv4_ hY
    rw [rounds_succ]
    have kv0_ := a_.cell_0
    have kv1_ := a_.cell_1
    have kv2_ := a_.cell_2
    have kv3_ := a_.cell_3
    have kv4_ := a_.cell_4
    go_wp2_with fail
    clear kv0_ kv1_ kv2_ kv3_ kv4_
    refine (PC1.out _ (HT.out.1.up (hg ▸ b_)) (HT.out.2.up (hg ▸ b_))).mono ?_
    rintro _ VA1 ⟨rfl, hb⟩
    replace b_ := bk b_ (hg ▸ b_.size) hb
    replace a_ := a_.below hb
    clear hb
    have kv0_ := a_.cell_0
    have kv1_ := a_.cell_1
    have kv2_ := a_.cell_2
    have kv3_ := a_.cell_3
    have kv4_ := a_.cell_4
    go_wp2_with fail
    clear kv0_ kv1_ kv2_ kv3_ kv4_
    refine (CC1.out _).mono ?_
    rintro _ VB1 ⟨rfl, hb⟩
    replace b_ := bk b_ (hg ▸ b_.size) hb
    replace a_ := a_.below hb
    clear hb
    go_wp2_with fail
    refine (QC1.out _ (HT.out.2.up (hg ▸ b_))).mono ?_
    rintro _ VC1 ⟨rfl, hb⟩
    replace b_ := bk b_ (hg ▸ b_.size) hb
    replace a_ := a_.below hb
    clear hb
    have ha_ := a_.lt
    obtain ⟨h1, hh⟩ : ∃ h, VC1.heap.size = h := ⟨_, rfl⟩
    obtain ⟨X1, hX⟩ : ∃ W, VC1.alloc (.cells #[.int .i64 0, .int .i64 0, .int .i64 0, .int .i64 0, .int .i64 0] 23) = W := ⟨_, rfl⟩
    have z_ : At X1 h1 0 0 0 0 0 := by rw [← hX, ← hh]; exact At.new _ _ _ _ _ _
    replace a_ : At X1 g m0 m1 m2 m3 m4 := by rw [← hX]; exact a_.alloc _
    replace b_ : Below g w X1 := by rw [← hX]; exact b_.alloc (hg ▸ b_.size) _
    replace a_ := a_.five_other (show g ≠ h1 by omega) (.int .i64 m0) (.int .i64 m1) (.int .i64 m2) (.int .i64 m3) (.int .i64 m4)
    have y_ := z_.five m0 m1 m2 m3 m4
    replace b_ := below_five b_ (show g ≤ h1 by omega) (.int .i64 m0) (.int .i64 m1) (.int .i64 m2) (.int .i64 m3) (.int .i64 m4)
    have fz0_ := z_.fz 0
    have fz1_ := z_.fz 1
    have fz2_ := z_.fz 2
    have fz3_ := z_.fz 3
    have fz4_ := z_.fz 4
    have kz0_ := z_.cell_0
    have kz1_ := z_.cell_1
    have kz2_ := z_.cell_2
    have kz3_ := z_.cell_3
    have kz4_ := z_.cell_4
    have kv0_ := a_.cell_0
    have kv1_ := a_.cell_1
    have kv2_ := a_.cell_2
    have kv3_ := a_.cell_3
    have kv4_ := a_.cell_4
    have ky0_ := y_.cell_0
    have ky1_ := y_.cell_1
    have ky2_ := y_.cell_2
    have ky3_ := y_.cell_3
    have ky4_ := y_.cell_4
    go_wp2_with fail
    clear fz0_ fz1_ fz2_ fz3_ fz4_ kz0_ kz1_ kz2_ kz3_ kz4_ kv0_ kv1_ kv2_ kv3_ kv4_ ky0_ ky1_ ky2_ ky3_ ky4_ z_ y_ hX hh ha_
    refine (MC1.out _).mono ?_
    rintro _ VD1 ⟨rfl, hb⟩
    replace b_ := bk b_ (hg ▸ b_.size) hb
    replace a_ := a_.below hb
    clear hb
    have fv0_ := a_.fz 0
    have fv1_ := a_.fz 1
    have fv2_ := a_.fz 2
    have fv3_ := a_.fz 3
    have fv4_ := a_.fz 4
    have kv0_ := a_.cell_0
    have kv1_ := a_.cell_1
    have kv2_ := a_.cell_2
    have kv3_ := a_.cell_3
    have kv4_ := a_.cell_4
    obtain ⟨Y1, hY⟩ : ∃ W, (((((VD1).setCell ⟨g, 0, none⟩ (.int .i64 n0)).setCell ⟨g, 1, none⟩ (.int .i64 n1)).setCell ⟨g, 2, none⟩ (.int .i64 n2)).setCell ⟨g, 3, none⟩ (.int .i64 n3)).setCell ⟨g, 4, none⟩ (.int .i64 n4) = W := ⟨_, rfl⟩
    replace a_ : At Y1 g n0 n1 n2 n3 n4 := by rw [← hY]; exact a_.five n0 n1 n2 n3 n4
    replace b_ : Below g w Y1 := by rw [← hY]; exact below_five b_ (Nat.le_refl g) (.int .i64 n0) (.int .i64 n1) (.int .i64 n2) (.int .i64 n3) (.int .i64 n4)
    go_wp2_with fail
    clear fv0_ fv1_ fv2_ fv3_ fv4_ kv0_ kv1_ kv2_ kv3_ kv4_ hY
    rw [rounds_succ]
    go_wp2_with fail
    go_ret
    exact ⟨rfl, by first | exact b_ | exact below_is hg b_⟩
  · obtain ⟨q, hqq⟩ : ∃ q, V.check ⟨a, b, c, d, e⟩ = q := ⟨_, rfl⟩
    have p0 : V.print ⟨a, b, c, d, e⟩ = ((⟨#[]⟩ : ByteArray), q) := by
      unfold V.print
      rw [if_pos hq, hqq]
    rw [hqq] at hq
    rw [p0] at pc0
    rw [hqq] at cc0
    dsimp only at pc0 cc0
    have PC0 := Aside0.mk pc0
    have CC0 := Aside0.mk cc0
    have hq1 : (q == 0) = false := beq_eq_false_iff_ne.2 hq
    have hq2 : (q != 0) = true := bne_iff_ne.2 hq
    clear pc0 cc0 p0 hqq h0 hq
    go_enter Tryd.func5, Tryd.ntmps5
    go_wp2_with fail
    refine (works_c _ (HT.out.1.up (hg ▸ b_)) (HT.out.2.up (hg ▸ b_))).mono ?_
    rintro _ VW ⟨rfl, hb⟩
    replace b_ := bk b_ (hg ▸ b_.size) hb
    replace a_ := a_.below hb
    clear hb hW0
    go_wp2_with fail
    refine wp_loop_rounds 3 ?_
    rw [rounds_succ]
    have kv0_ := a_.cell_0
    have kv1_ := a_.cell_1
    have kv2_ := a_.cell_2
    have kv3_ := a_.cell_3
    have kv4_ := a_.cell_4
    go_wp2_with fail
    clear kv0_ kv1_ kv2_ kv3_ kv4_
    refine (PC0.out _ (HT.out.1.up (hg ▸ b_)) (HT.out.2.up (hg ▸ b_))).mono ?_
    rintro _ VA0 ⟨rfl, hb⟩
    replace b_ := bk b_ (hg ▸ b_.size) hb
    replace a_ := a_.below hb
    clear hb
    have kv0_ := a_.cell_0
    have kv1_ := a_.cell_1
    have kv2_ := a_.cell_2
    have kv3_ := a_.cell_3
    have kv4_ := a_.cell_4
    go_wp2_with fail
    clear kv0_ kv1_ kv2_ kv3_ kv4_
    refine (CC0.out _).mono ?_
    rintro _ VB0 ⟨rfl, hb⟩
    replace b_ := bk b_ (hg ▸ b_.size) hb
    replace a_ := a_.below hb
    clear hb
    have kv0_ := a_.cell_0
    have kv1_ := a_.cell_1
    have kv2_ := a_.cell_2
    have kv3_ := a_.cell_3
    have kv4_ := a_.cell_4
    go_wp2_with fail
    clear kv0_ kv1_ kv2_ kv3_ kv4_
    refine (MC0.out _).mono ?_
    rintro _ VD0 ⟨rfl, hb⟩
    replace b_ := bk b_ (hg ▸ b_.size) hb
    replace a_ := a_.below hb
    clear hb
    have fv0_ := a_.fz 0
    have fv1_ := a_.fz 1
    have fv2_ := a_.fz 2
    have fv3_ := a_.fz 3
    have fv4_ := a_.fz 4
    have kv0_ := a_.cell_0
    have kv1_ := a_.cell_1
    have kv2_ := a_.cell_2
    have kv3_ := a_.cell_3
    have kv4_ := a_.cell_4
    obtain ⟨Y0, hY⟩ : ∃ W, (((((VD0).setCell ⟨g, 0, none⟩ (.int .i64 m0)).setCell ⟨g, 1, none⟩ (.int .i64 m1)).setCell ⟨g, 2, none⟩ (.int .i64 m2)).setCell ⟨g, 3, none⟩ (.int .i64 m3)).setCell ⟨g, 4, none⟩ (.int .i64 m4) = W := ⟨_, rfl⟩
    replace a_ : At Y0 g m0 m1 m2 m3 m4 := by rw [← hY]; exact a_.five m0 m1 m2 m3 m4
    replace b_ : Below g w Y0 := by rw [← hY]; exact below_five b_ (Nat.le_refl g) (.int .i64 m0) (.int .i64 m1) (.int .i64 m2) (.int .i64 m3) (.int .i64 m4)
    go_wp2_with fail
    clear fv0_ fv1_ fv2_ fv3_ fv4_ kv0_ kv1_ kv2_ kv3_ kv4_ hY
    rw [rounds_succ]
    have kv0_ := a_.cell_0
    have kv1_ := a_.cell_1
    have kv2_ := a_.cell_2
    have kv3_ := a_.cell_3
    have kv4_ := a_.cell_4
    go_wp2_with fail
    clear kv0_ kv1_ kv2_ kv3_ kv4_
    refine (PC1.out _ (HT.out.1.up (hg ▸ b_)) (HT.out.2.up (hg ▸ b_))).mono ?_
    rintro _ VA1 ⟨rfl, hb⟩
    replace b_ := bk b_ (hg ▸ b_.size) hb
    replace a_ := a_.below hb
    clear hb
    have kv0_ := a_.cell_0
    have kv1_ := a_.cell_1
    have kv2_ := a_.cell_2
    have kv3_ := a_.cell_3
    have kv4_ := a_.cell_4
    go_wp2_with fail
    clear kv0_ kv1_ kv2_ kv3_ kv4_
    refine (CC1.out _).mono ?_
    rintro _ VB1 ⟨rfl, hb⟩
    replace b_ := bk b_ (hg ▸ b_.size) hb
    replace a_ := a_.below hb
    clear hb
    go_wp2_with fail
    refine (QC1.out _ (HT.out.2.up (hg ▸ b_))).mono ?_
    rintro _ VC1 ⟨rfl, hb⟩
    replace b_ := bk b_ (hg ▸ b_.size) hb
    replace a_ := a_.below hb
    clear hb
    have ha_ := a_.lt
    obtain ⟨h1, hh⟩ : ∃ h, VC1.heap.size = h := ⟨_, rfl⟩
    obtain ⟨X1, hX⟩ : ∃ W, VC1.alloc (.cells #[.int .i64 0, .int .i64 0, .int .i64 0, .int .i64 0, .int .i64 0] 23) = W := ⟨_, rfl⟩
    have z_ : At X1 h1 0 0 0 0 0 := by rw [← hX, ← hh]; exact At.new _ _ _ _ _ _
    replace a_ : At X1 g m0 m1 m2 m3 m4 := by rw [← hX]; exact a_.alloc _
    replace b_ : Below g w X1 := by rw [← hX]; exact b_.alloc (hg ▸ b_.size) _
    replace a_ := a_.five_other (show g ≠ h1 by omega) (.int .i64 m0) (.int .i64 m1) (.int .i64 m2) (.int .i64 m3) (.int .i64 m4)
    have y_ := z_.five m0 m1 m2 m3 m4
    replace b_ := below_five b_ (show g ≤ h1 by omega) (.int .i64 m0) (.int .i64 m1) (.int .i64 m2) (.int .i64 m3) (.int .i64 m4)
    have fz0_ := z_.fz 0
    have fz1_ := z_.fz 1
    have fz2_ := z_.fz 2
    have fz3_ := z_.fz 3
    have fz4_ := z_.fz 4
    have kz0_ := z_.cell_0
    have kz1_ := z_.cell_1
    have kz2_ := z_.cell_2
    have kz3_ := z_.cell_3
    have kz4_ := z_.cell_4
    have kv0_ := a_.cell_0
    have kv1_ := a_.cell_1
    have kv2_ := a_.cell_2
    have kv3_ := a_.cell_3
    have kv4_ := a_.cell_4
    have ky0_ := y_.cell_0
    have ky1_ := y_.cell_1
    have ky2_ := y_.cell_2
    have ky3_ := y_.cell_3
    have ky4_ := y_.cell_4
    go_wp2_with fail
    clear fz0_ fz1_ fz2_ fz3_ fz4_ kz0_ kz1_ kz2_ kz3_ kz4_ kv0_ kv1_ kv2_ kv3_ kv4_ ky0_ ky1_ ky2_ ky3_ ky4_ z_ y_ hX hh ha_
    refine (MC1.out _).mono ?_
    rintro _ VD1 ⟨rfl, hb⟩
    replace b_ := bk b_ (hg ▸ b_.size) hb
    replace a_ := a_.below hb
    clear hb
    have fv0_ := a_.fz 0
    have fv1_ := a_.fz 1
    have fv2_ := a_.fz 2
    have fv3_ := a_.fz 3
    have fv4_ := a_.fz 4
    have kv0_ := a_.cell_0
    have kv1_ := a_.cell_1
    have kv2_ := a_.cell_2
    have kv3_ := a_.cell_3
    have kv4_ := a_.cell_4
    obtain ⟨Y1, hY⟩ : ∃ W, (((((VD1).setCell ⟨g, 0, none⟩ (.int .i64 n0)).setCell ⟨g, 1, none⟩ (.int .i64 n1)).setCell ⟨g, 2, none⟩ (.int .i64 n2)).setCell ⟨g, 3, none⟩ (.int .i64 n3)).setCell ⟨g, 4, none⟩ (.int .i64 n4) = W := ⟨_, rfl⟩
    replace a_ : At Y1 g n0 n1 n2 n3 n4 := by rw [← hY]; exact a_.five n0 n1 n2 n3 n4
    replace b_ : Below g w Y1 := by rw [← hY]; exact below_five b_ (Nat.le_refl g) (.int .i64 n0) (.int .i64 n1) (.int .i64 n2) (.int .i64 n3) (.int .i64 n4)
    go_wp2_with fail
    clear fv0_ fv1_ fv2_ fv3_ fv4_ kv0_ kv1_ kv2_ kv3_ kv4_ hY
    rw [rounds_succ]
    go_wp2_with fail
    go_ret
    exact ⟨rfl, by first | exact b_ | exact below_is hg b_⟩
end Go.Proofs.YtceepgleeelohaaDoor.P
