import Derived.Test.YtceepgleeelohaaDoorHv4
/- each, at each closure; Minus, Times. -/
namespace Go.Proofs.YtceepgleeelohaaDoor.P
set_option linter.unusedVariables false
set_option linter.unusedSimpArgs false
open Go.RowKit Go.Proofs.YtceepgleeelohaaDoorW.PrintWords Go.Proofs.YtceepgleeelohaaDoorW.PrintLast Go.Proofs.YtceepgleeelohaaDoorW.PrintMore
/-- place by place: the first error's, or all -/
def eachS (F : Nat → Int × Int) : V × Int :=
  if (F 0).2 ≠ 0 then (⟨0, 0, 0, 0, 0⟩, (F 0).2) else if (F 1).2 ≠ 0 then (⟨0, 0, 0, 0, 0⟩, (F 1).2) else if (F 2).2 ≠ 0 then (⟨0, 0, 0, 0, 0⟩, (F 2).2)
  else if (F 3).2 ≠ 0 then (⟨0, 0, 0, 0, 0⟩, (F 3).2) else if (F 4).2 ≠ 0 then (⟨0, 0, 0, 0, 0⟩, (F 4).2) else (⟨(F 0).1, (F 1).1, (F 2).1, (F 3).1, (F 4).1⟩, 0)
abbrev V.val (v : V) : Value := .agg #[.int .i64 v.a, .int .i64 v.b, .int .i64 v.c, .int .i64 v.d, .int .i64 v.e]
theorem bk {n : Nat} {w W W' : World} (h : Below n w W) (hn : n ≤ W.heap.size) (hb : Below W.heap.size W W') : Below n w W' := h.trans (hb.mono hn)
set_option maxRecDepth 100000 in
set_option maxHeartbeats 4000000 in
theorem each29_c (g1 g2 : Nat) (F : Nat → Int × Int) (w : World) (hF : ∀ i : Nat, i < 5 → ∀ W : World, Below w.heap.size w W → Calls Tryd.prog 29 #[.int .i64 (i : Int), .pointer (some ⟨g1, 0, none⟩), .pointer (some ⟨g2, 0, none⟩)] W fun e_ w' => e_ = .returned (.tuple #[.int .i64 (F i).1, .int .i64 (F i).2]) ∧ Below W.heap.size W w') :
    Calls Tryd.prog 28 #[.func (.func 29) #[] #[.pointer (some ⟨g1, 0, none⟩), .pointer (some ⟨g2, 0, none⟩)]] w fun e_ w' => e_ = .returned (.tuple #[(eachS F).1.val, .int .i64 (eachS F).2]) ∧ Below w.heap.size w w' := by
  obtain ⟨g, hg⟩ : ∃ g, w.heap.size = g := ⟨_, rfl⟩
  obtain ⟨W0, hW0⟩ : ∃ W, w.alloc (.cells #[.int .i64 0, .int .i64 0, .int .i64 0, .int .i64 0, .int .i64 0] 23) = W := ⟨_, rfl⟩
  have a0_ : At W0 g 0 0 0 0 0 := by rw [← hW0, ← hg]; exact At.new _ _ _ _ _ _
  have b0_ : Below g w W0 := by rw [← hW0, ← hg]; exact below_alloc (Below.refl _ _) _
  have C0 := Aside0.mk (hF 0 (by decide))
  have C1 := Aside0.mk (hF 1 (by decide))
  have C2 := Aside0.mk (hF 2 (by decide))
  have C3 := Aside0.mk (hF 3 (by decide))
  have C4 := Aside0.mk (hF 4 (by decide))
  clear hF
  obtain ⟨R, hR⟩ : ∃ R, eachS F = R := ⟨_, rfl⟩
  rw [hR]
  unfold eachS at hR
  obtain ⟨n0, e0, q0⟩ : ∃ n e, F 0 = (n, e) := ⟨_, _, rfl⟩
  obtain ⟨n1, e1, q1⟩ : ∃ n e, F 1 = (n, e) := ⟨_, _, rfl⟩
  obtain ⟨n2, e2, q2⟩ : ∃ n e, F 2 = (n, e) := ⟨_, _, rfl⟩
  obtain ⟨n3, e3, q3⟩ : ∃ n e, F 3 = (n, e) := ⟨_, _, rfl⟩
  obtain ⟨n4, e4, q4⟩ : ∃ n e, F 4 = (n, e) := ⟨_, _, rfl⟩
  rw [q0] at C0 hR
  rw [q1] at C1 hR
  rw [q2] at C2 hR
  rw [q3] at C3 hR
  rw [q4] at C4 hR
  clear q0 q1 q2 q3 q4 F
  dsimp only at C0 C1 C2 C3 C4 hR
  have R0 := Aside0.mk hR
  clear hR
  go_enter Tryd.func28, Tryd.ntmps28
  go_wp2_with fail
  refine wp_loop_rounds 6 ?_
  rw [rounds_succ]
  go_wp2_with fail
  refine (C0.out W0 (below_is hg b0_)).mono ?_
  rintro _ V0 ⟨rfl, hb⟩
  have k_ := (a0_.below hb).cell_0
  have f_ := (a0_.below hb).fz 0
  obtain ⟨W1, hW1⟩ : ∃ W, V0.setCell ⟨g, 0, none⟩ (.int .i64 n0) = W := ⟨_, rfl⟩
  have a1_ : At W1 g n0 0 0 0 0 := by rw [← hW1]; exact (a0_.below hb).set_0 _
  have b1_ : Below g w W1 := by rw [← hW1]; exact (bk b0_ (Nat.le_of_lt a0_.lt) hb).setCell (Nat.le_refl _) _
  clear a0_ b0_ hb
  by_cases h0 : e0 ≠ 0
  · have hr := R0.out
    rw [if_pos h0] at hr
    subst hr
    clear R0
    have h0b : (e0 != 0) = true := bne_iff_ne.mpr h0
    clear h0
    have f0_ := a1_.fz 0
    have k0_ := a1_.cell_0
    have f1_ := a1_.fz 1
    have k1_ := a1_.cell_1
    have f2_ := a1_.fz 2
    have k2_ := a1_.cell_2
    have f3_ := a1_.fz 3
    have k3_ := a1_.cell_3
    have f4_ := a1_.fz 4
    have k4_ := a1_.cell_4
    go_wp2_with fail
    (try simp only [Exit.inBlock, Exit.then])
    exact bodyPost_ret (results_vt rfl _ _ g rfl (a1_.five _ _ _ _ _)) rfl ⟨rfl, by first | exact below_five b1_ (Nat.le_refl g) _ _ _ _ _ | exact below_is hg (below_five b1_ (Nat.le_refl g) _ _ _ _ _)⟩
  have R1 := Aside0.mk ((if_neg h0).symm.trans R0.out)
  clear R0
  have h0b : (e0 != 0) = false := by simpa using h0
  clear h0
  go_wp2_with fail
  clear k_ f_ hW1 h0b
  rw [rounds_succ]
  go_wp2_with fail
  refine (C1.out W1 (below_is hg b1_)).mono ?_
  rintro _ V1 ⟨rfl, hb⟩
  have k_ := (a1_.below hb).cell_1
  have f_ := (a1_.below hb).fz 1
  obtain ⟨W2, hW2⟩ : ∃ W, V1.setCell ⟨g, 1, none⟩ (.int .i64 n1) = W := ⟨_, rfl⟩
  have a2_ : At W2 g n0 n1 0 0 0 := by rw [← hW2]; exact (a1_.below hb).set_1 _
  have b2_ : Below g w W2 := by rw [← hW2]; exact (bk b1_ (Nat.le_of_lt a1_.lt) hb).setCell (Nat.le_refl _) _
  clear a1_ b1_ hb
  by_cases h1 : e1 ≠ 0
  · have hr := R1.out
    rw [if_pos h1] at hr
    subst hr
    clear R1
    have h1b : (e1 != 0) = true := bne_iff_ne.mpr h1
    clear h1
    have f0_ := a2_.fz 0
    have k0_ := a2_.cell_0
    have f1_ := a2_.fz 1
    have k1_ := a2_.cell_1
    have f2_ := a2_.fz 2
    have k2_ := a2_.cell_2
    have f3_ := a2_.fz 3
    have k3_ := a2_.cell_3
    have f4_ := a2_.fz 4
    have k4_ := a2_.cell_4
    go_wp2_with fail
    (try simp only [Exit.inBlock, Exit.then])
    exact bodyPost_ret (results_vt rfl _ _ g rfl (a2_.five _ _ _ _ _)) rfl ⟨rfl, by first | exact below_five b2_ (Nat.le_refl g) _ _ _ _ _ | exact below_is hg (below_five b2_ (Nat.le_refl g) _ _ _ _ _)⟩
  have R2 := Aside0.mk ((if_neg h1).symm.trans R1.out)
  clear R1
  have h1b : (e1 != 0) = false := by simpa using h1
  clear h1
  go_wp2_with fail
  clear k_ f_ hW2 h1b
  rw [rounds_succ]
  go_wp2_with fail
  refine (C2.out W2 (below_is hg b2_)).mono ?_
  rintro _ V2 ⟨rfl, hb⟩
  have k_ := (a2_.below hb).cell_2
  have f_ := (a2_.below hb).fz 2
  obtain ⟨W3, hW3⟩ : ∃ W, V2.setCell ⟨g, 2, none⟩ (.int .i64 n2) = W := ⟨_, rfl⟩
  have a3_ : At W3 g n0 n1 n2 0 0 := by rw [← hW3]; exact (a2_.below hb).set_2 _
  have b3_ : Below g w W3 := by rw [← hW3]; exact (bk b2_ (Nat.le_of_lt a2_.lt) hb).setCell (Nat.le_refl _) _
  clear a2_ b2_ hb
  by_cases h2 : e2 ≠ 0
  · have hr := R2.out
    rw [if_pos h2] at hr
    subst hr
    clear R2
    have h2b : (e2 != 0) = true := bne_iff_ne.mpr h2
    clear h2
    have f0_ := a3_.fz 0
    have k0_ := a3_.cell_0
    have f1_ := a3_.fz 1
    have k1_ := a3_.cell_1
    have f2_ := a3_.fz 2
    have k2_ := a3_.cell_2
    have f3_ := a3_.fz 3
    have k3_ := a3_.cell_3
    have f4_ := a3_.fz 4
    have k4_ := a3_.cell_4
    go_wp2_with fail
    (try simp only [Exit.inBlock, Exit.then])
    exact bodyPost_ret (results_vt rfl _ _ g rfl (a3_.five _ _ _ _ _)) rfl ⟨rfl, by first | exact below_five b3_ (Nat.le_refl g) _ _ _ _ _ | exact below_is hg (below_five b3_ (Nat.le_refl g) _ _ _ _ _)⟩
  have R3 := Aside0.mk ((if_neg h2).symm.trans R2.out)
  clear R2
  have h2b : (e2 != 0) = false := by simpa using h2
  clear h2
  go_wp2_with fail
  clear k_ f_ hW3 h2b
  rw [rounds_succ]
  go_wp2_with fail
  refine (C3.out W3 (below_is hg b3_)).mono ?_
  rintro _ V3 ⟨rfl, hb⟩
  have k_ := (a3_.below hb).cell_3
  have f_ := (a3_.below hb).fz 3
  obtain ⟨W4, hW4⟩ : ∃ W, V3.setCell ⟨g, 3, none⟩ (.int .i64 n3) = W := ⟨_, rfl⟩
  have a4_ : At W4 g n0 n1 n2 n3 0 := by rw [← hW4]; exact (a3_.below hb).set_3 _
  have b4_ : Below g w W4 := by rw [← hW4]; exact (bk b3_ (Nat.le_of_lt a3_.lt) hb).setCell (Nat.le_refl _) _
  clear a3_ b3_ hb
  by_cases h3 : e3 ≠ 0
  · have hr := R3.out
    rw [if_pos h3] at hr
    subst hr
    clear R3
    have h3b : (e3 != 0) = true := bne_iff_ne.mpr h3
    clear h3
    have f0_ := a4_.fz 0
    have k0_ := a4_.cell_0
    have f1_ := a4_.fz 1
    have k1_ := a4_.cell_1
    have f2_ := a4_.fz 2
    have k2_ := a4_.cell_2
    have f3_ := a4_.fz 3
    have k3_ := a4_.cell_3
    have f4_ := a4_.fz 4
    have k4_ := a4_.cell_4
    go_wp2_with fail
    (try simp only [Exit.inBlock, Exit.then])
    exact bodyPost_ret (results_vt rfl _ _ g rfl (a4_.five _ _ _ _ _)) rfl ⟨rfl, by first | exact below_five b4_ (Nat.le_refl g) _ _ _ _ _ | exact below_is hg (below_five b4_ (Nat.le_refl g) _ _ _ _ _)⟩
  have R4 := Aside0.mk ((if_neg h3).symm.trans R3.out)
  clear R3
  have h3b : (e3 != 0) = false := by simpa using h3
  clear h3
  go_wp2_with fail
  clear k_ f_ hW4 h3b
  rw [rounds_succ]
  go_wp2_with fail
  refine (C4.out W4 (below_is hg b4_)).mono ?_
  rintro _ V4 ⟨rfl, hb⟩
  have k_ := (a4_.below hb).cell_4
  have f_ := (a4_.below hb).fz 4
  obtain ⟨W5, hW5⟩ : ∃ W, V4.setCell ⟨g, 4, none⟩ (.int .i64 n4) = W := ⟨_, rfl⟩
  have a5_ : At W5 g n0 n1 n2 n3 n4 := by rw [← hW5]; exact (a4_.below hb).set_4 _
  have b5_ : Below g w W5 := by rw [← hW5]; exact (bk b4_ (Nat.le_of_lt a4_.lt) hb).setCell (Nat.le_refl _) _
  clear a4_ b4_ hb
  by_cases h4 : e4 ≠ 0
  · have hr := R4.out
    rw [if_pos h4] at hr
    subst hr
    clear R4
    have h4b : (e4 != 0) = true := bne_iff_ne.mpr h4
    clear h4
    have f0_ := a5_.fz 0
    have k0_ := a5_.cell_0
    have f1_ := a5_.fz 1
    have k1_ := a5_.cell_1
    have f2_ := a5_.fz 2
    have k2_ := a5_.cell_2
    have f3_ := a5_.fz 3
    have k3_ := a5_.cell_3
    have f4_ := a5_.fz 4
    have k4_ := a5_.cell_4
    go_wp2_with fail
    (try simp only [Exit.inBlock, Exit.then])
    exact bodyPost_ret (results_vt rfl _ _ g rfl (a5_.five _ _ _ _ _)) rfl ⟨rfl, by first | exact below_five b5_ (Nat.le_refl g) _ _ _ _ _ | exact below_is hg (below_five b5_ (Nat.le_refl g) _ _ _ _ _)⟩
  have R5 := Aside0.mk ((if_neg h4).symm.trans R4.out)
  clear R4
  have h4b : (e4 != 0) = false := by simpa using h4
  clear h4
  go_wp2_with fail
  clear k_ f_ hW5 h4b
  have f0_ := a5_.fz 0
  have k0_ := a5_.cell_0
  have f1_ := a5_.fz 1
  have k1_ := a5_.cell_1
  have f2_ := a5_.fz 2
  have k2_ := a5_.cell_2
  have f3_ := a5_.fz 3
  have k3_ := a5_.cell_3
  have f4_ := a5_.fz 4
  have k4_ := a5_.cell_4
  have hr := R5.out
  subst hr
  clear R5
  rw [rounds_succ]
  go_wp2_with fail
  (try simp only [Exit.inBlock, Exit.then])
  exact bodyPost_ret (results_vt rfl _ _ g rfl (a5_.five _ _ _ _ _)) rfl ⟨rfl, by first | exact below_five b5_ (Nat.le_refl g) _ _ _ _ _ | exact below_is hg (below_five b5_ (Nat.le_refl g) _ _ _ _ _)⟩
set_option maxRecDepth 100000 in
set_option maxHeartbeats 4000000 in
theorem each45_c (g1 g2 : Nat) (F : Nat → Int × Int) (w : World) (hF : ∀ i : Nat, i < 5 → ∀ W : World, Below w.heap.size w W → Calls Tryd.prog 45 #[.int .i64 (i : Int), .pointer (some ⟨g1, 0, none⟩), .pointer (some ⟨g2, 0, none⟩)] W fun e_ w' => e_ = .returned (.tuple #[.int .i64 (F i).1, .int .i64 (F i).2]) ∧ Below W.heap.size W w') :
    Calls Tryd.prog 28 #[.func (.func 45) #[] #[.pointer (some ⟨g1, 0, none⟩), .pointer (some ⟨g2, 0, none⟩)]] w fun e_ w' => e_ = .returned (.tuple #[(eachS F).1.val, .int .i64 (eachS F).2]) ∧ Below w.heap.size w w' := by
  obtain ⟨g, hg⟩ : ∃ g, w.heap.size = g := ⟨_, rfl⟩
  obtain ⟨W0, hW0⟩ : ∃ W, w.alloc (.cells #[.int .i64 0, .int .i64 0, .int .i64 0, .int .i64 0, .int .i64 0] 23) = W := ⟨_, rfl⟩
  have a0_ : At W0 g 0 0 0 0 0 := by rw [← hW0, ← hg]; exact At.new _ _ _ _ _ _
  have b0_ : Below g w W0 := by rw [← hW0, ← hg]; exact below_alloc (Below.refl _ _) _
  have C0 := Aside0.mk (hF 0 (by decide))
  have C1 := Aside0.mk (hF 1 (by decide))
  have C2 := Aside0.mk (hF 2 (by decide))
  have C3 := Aside0.mk (hF 3 (by decide))
  have C4 := Aside0.mk (hF 4 (by decide))
  clear hF
  obtain ⟨R, hR⟩ : ∃ R, eachS F = R := ⟨_, rfl⟩
  rw [hR]
  unfold eachS at hR
  obtain ⟨n0, e0, q0⟩ : ∃ n e, F 0 = (n, e) := ⟨_, _, rfl⟩
  obtain ⟨n1, e1, q1⟩ : ∃ n e, F 1 = (n, e) := ⟨_, _, rfl⟩
  obtain ⟨n2, e2, q2⟩ : ∃ n e, F 2 = (n, e) := ⟨_, _, rfl⟩
  obtain ⟨n3, e3, q3⟩ : ∃ n e, F 3 = (n, e) := ⟨_, _, rfl⟩
  obtain ⟨n4, e4, q4⟩ : ∃ n e, F 4 = (n, e) := ⟨_, _, rfl⟩
  rw [q0] at C0 hR
  rw [q1] at C1 hR
  rw [q2] at C2 hR
  rw [q3] at C3 hR
  rw [q4] at C4 hR
  clear q0 q1 q2 q3 q4 F
  dsimp only at C0 C1 C2 C3 C4 hR
  have R0 := Aside0.mk hR
  clear hR
  go_enter Tryd.func28, Tryd.ntmps28
  go_wp2_with fail
  refine wp_loop_rounds 6 ?_
  rw [rounds_succ]
  go_wp2_with fail
  refine (C0.out W0 (below_is hg b0_)).mono ?_
  rintro _ V0 ⟨rfl, hb⟩
  have k_ := (a0_.below hb).cell_0
  have f_ := (a0_.below hb).fz 0
  obtain ⟨W1, hW1⟩ : ∃ W, V0.setCell ⟨g, 0, none⟩ (.int .i64 n0) = W := ⟨_, rfl⟩
  have a1_ : At W1 g n0 0 0 0 0 := by rw [← hW1]; exact (a0_.below hb).set_0 _
  have b1_ : Below g w W1 := by rw [← hW1]; exact (bk b0_ (Nat.le_of_lt a0_.lt) hb).setCell (Nat.le_refl _) _
  clear a0_ b0_ hb
  by_cases h0 : e0 ≠ 0
  · have hr := R0.out
    rw [if_pos h0] at hr
    subst hr
    clear R0
    have h0b : (e0 != 0) = true := bne_iff_ne.mpr h0
    clear h0
    have f0_ := a1_.fz 0
    have k0_ := a1_.cell_0
    have f1_ := a1_.fz 1
    have k1_ := a1_.cell_1
    have f2_ := a1_.fz 2
    have k2_ := a1_.cell_2
    have f3_ := a1_.fz 3
    have k3_ := a1_.cell_3
    have f4_ := a1_.fz 4
    have k4_ := a1_.cell_4
    go_wp2_with fail
    (try simp only [Exit.inBlock, Exit.then])
    exact bodyPost_ret (results_vt rfl _ _ g rfl (a1_.five _ _ _ _ _)) rfl ⟨rfl, by first | exact below_five b1_ (Nat.le_refl g) _ _ _ _ _ | exact below_is hg (below_five b1_ (Nat.le_refl g) _ _ _ _ _)⟩
  have R1 := Aside0.mk ((if_neg h0).symm.trans R0.out)
  clear R0
  have h0b : (e0 != 0) = false := by simpa using h0
  clear h0
  go_wp2_with fail
  clear k_ f_ hW1 h0b
  rw [rounds_succ]
  go_wp2_with fail
  refine (C1.out W1 (below_is hg b1_)).mono ?_
  rintro _ V1 ⟨rfl, hb⟩
  have k_ := (a1_.below hb).cell_1
  have f_ := (a1_.below hb).fz 1
  obtain ⟨W2, hW2⟩ : ∃ W, V1.setCell ⟨g, 1, none⟩ (.int .i64 n1) = W := ⟨_, rfl⟩
  have a2_ : At W2 g n0 n1 0 0 0 := by rw [← hW2]; exact (a1_.below hb).set_1 _
  have b2_ : Below g w W2 := by rw [← hW2]; exact (bk b1_ (Nat.le_of_lt a1_.lt) hb).setCell (Nat.le_refl _) _
  clear a1_ b1_ hb
  by_cases h1 : e1 ≠ 0
  · have hr := R1.out
    rw [if_pos h1] at hr
    subst hr
    clear R1
    have h1b : (e1 != 0) = true := bne_iff_ne.mpr h1
    clear h1
    have f0_ := a2_.fz 0
    have k0_ := a2_.cell_0
    have f1_ := a2_.fz 1
    have k1_ := a2_.cell_1
    have f2_ := a2_.fz 2
    have k2_ := a2_.cell_2
    have f3_ := a2_.fz 3
    have k3_ := a2_.cell_3
    have f4_ := a2_.fz 4
    have k4_ := a2_.cell_4
    go_wp2_with fail
    (try simp only [Exit.inBlock, Exit.then])
    exact bodyPost_ret (results_vt rfl _ _ g rfl (a2_.five _ _ _ _ _)) rfl ⟨rfl, by first | exact below_five b2_ (Nat.le_refl g) _ _ _ _ _ | exact below_is hg (below_five b2_ (Nat.le_refl g) _ _ _ _ _)⟩
  have R2 := Aside0.mk ((if_neg h1).symm.trans R1.out)
  clear R1
  have h1b : (e1 != 0) = false := by simpa using h1
  clear h1
  go_wp2_with fail
  clear k_ f_ hW2 h1b
  rw [rounds_succ]
  go_wp2_with fail
  refine (C2.out W2 (below_is hg b2_)).mono ?_
  rintro _ V2 ⟨rfl, hb⟩
  have k_ := (a2_.below hb).cell_2
  have f_ := (a2_.below hb).fz 2
  obtain ⟨W3, hW3⟩ : ∃ W, V2.setCell ⟨g, 2, none⟩ (.int .i64 n2) = W := ⟨_, rfl⟩
  have a3_ : At W3 g n0 n1 n2 0 0 := by rw [← hW3]; exact (a2_.below hb).set_2 _
  have b3_ : Below g w W3 := by rw [← hW3]; exact (bk b2_ (Nat.le_of_lt a2_.lt) hb).setCell (Nat.le_refl _) _
  clear a2_ b2_ hb
  by_cases h2 : e2 ≠ 0
  · have hr := R2.out
    rw [if_pos h2] at hr
    subst hr
    clear R2
    have h2b : (e2 != 0) = true := bne_iff_ne.mpr h2
    clear h2
    have f0_ := a3_.fz 0
    have k0_ := a3_.cell_0
    have f1_ := a3_.fz 1
    have k1_ := a3_.cell_1
    have f2_ := a3_.fz 2
    have k2_ := a3_.cell_2
    have f3_ := a3_.fz 3
    have k3_ := a3_.cell_3
    have f4_ := a3_.fz 4
    have k4_ := a3_.cell_4
    go_wp2_with fail
    (try simp only [Exit.inBlock, Exit.then])
    exact bodyPost_ret (results_vt rfl _ _ g rfl (a3_.five _ _ _ _ _)) rfl ⟨rfl, by first | exact below_five b3_ (Nat.le_refl g) _ _ _ _ _ | exact below_is hg (below_five b3_ (Nat.le_refl g) _ _ _ _ _)⟩
  have R3 := Aside0.mk ((if_neg h2).symm.trans R2.out)
  clear R2
  have h2b : (e2 != 0) = false := by simpa using h2
  clear h2
  go_wp2_with fail
  clear k_ f_ hW3 h2b
  rw [rounds_succ]
  go_wp2_with fail
  refine (C3.out W3 (below_is hg b3_)).mono ?_
  rintro _ V3 ⟨rfl, hb⟩
  have k_ := (a3_.below hb).cell_3
  have f_ := (a3_.below hb).fz 3
  obtain ⟨W4, hW4⟩ : ∃ W, V3.setCell ⟨g, 3, none⟩ (.int .i64 n3) = W := ⟨_, rfl⟩
  have a4_ : At W4 g n0 n1 n2 n3 0 := by rw [← hW4]; exact (a3_.below hb).set_3 _
  have b4_ : Below g w W4 := by rw [← hW4]; exact (bk b3_ (Nat.le_of_lt a3_.lt) hb).setCell (Nat.le_refl _) _
  clear a3_ b3_ hb
  by_cases h3 : e3 ≠ 0
  · have hr := R3.out
    rw [if_pos h3] at hr
    subst hr
    clear R3
    have h3b : (e3 != 0) = true := bne_iff_ne.mpr h3
    clear h3
    have f0_ := a4_.fz 0
    have k0_ := a4_.cell_0
    have f1_ := a4_.fz 1
    have k1_ := a4_.cell_1
    have f2_ := a4_.fz 2
    have k2_ := a4_.cell_2
    have f3_ := a4_.fz 3
    have k3_ := a4_.cell_3
    have f4_ := a4_.fz 4
    have k4_ := a4_.cell_4
    go_wp2_with fail
    (try simp only [Exit.inBlock, Exit.then])
    exact bodyPost_ret (results_vt rfl _ _ g rfl (a4_.five _ _ _ _ _)) rfl ⟨rfl, by first | exact below_five b4_ (Nat.le_refl g) _ _ _ _ _ | exact below_is hg (below_five b4_ (Nat.le_refl g) _ _ _ _ _)⟩
  have R4 := Aside0.mk ((if_neg h3).symm.trans R3.out)
  clear R3
  have h3b : (e3 != 0) = false := by simpa using h3
  clear h3
  go_wp2_with fail
  clear k_ f_ hW4 h3b
  rw [rounds_succ]
  go_wp2_with fail
  refine (C4.out W4 (below_is hg b4_)).mono ?_
  rintro _ V4 ⟨rfl, hb⟩
  have k_ := (a4_.below hb).cell_4
  have f_ := (a4_.below hb).fz 4
  obtain ⟨W5, hW5⟩ : ∃ W, V4.setCell ⟨g, 4, none⟩ (.int .i64 n4) = W := ⟨_, rfl⟩
  have a5_ : At W5 g n0 n1 n2 n3 n4 := by rw [← hW5]; exact (a4_.below hb).set_4 _
  have b5_ : Below g w W5 := by rw [← hW5]; exact (bk b4_ (Nat.le_of_lt a4_.lt) hb).setCell (Nat.le_refl _) _
  clear a4_ b4_ hb
  by_cases h4 : e4 ≠ 0
  · have hr := R4.out
    rw [if_pos h4] at hr
    subst hr
    clear R4
    have h4b : (e4 != 0) = true := bne_iff_ne.mpr h4
    clear h4
    have f0_ := a5_.fz 0
    have k0_ := a5_.cell_0
    have f1_ := a5_.fz 1
    have k1_ := a5_.cell_1
    have f2_ := a5_.fz 2
    have k2_ := a5_.cell_2
    have f3_ := a5_.fz 3
    have k3_ := a5_.cell_3
    have f4_ := a5_.fz 4
    have k4_ := a5_.cell_4
    go_wp2_with fail
    (try simp only [Exit.inBlock, Exit.then])
    exact bodyPost_ret (results_vt rfl _ _ g rfl (a5_.five _ _ _ _ _)) rfl ⟨rfl, by first | exact below_five b5_ (Nat.le_refl g) _ _ _ _ _ | exact below_is hg (below_five b5_ (Nat.le_refl g) _ _ _ _ _)⟩
  have R5 := Aside0.mk ((if_neg h4).symm.trans R4.out)
  clear R4
  have h4b : (e4 != 0) = false := by simpa using h4
  clear h4
  go_wp2_with fail
  clear k_ f_ hW5 h4b
  have f0_ := a5_.fz 0
  have k0_ := a5_.cell_0
  have f1_ := a5_.fz 1
  have k1_ := a5_.cell_1
  have f2_ := a5_.fz 2
  have k2_ := a5_.cell_2
  have f3_ := a5_.fz 3
  have k3_ := a5_.cell_3
  have f4_ := a5_.fz 4
  have k4_ := a5_.cell_4
  have hr := R5.out
  subst hr
  clear R5
  rw [rounds_succ]
  go_wp2_with fail
  (try simp only [Exit.inBlock, Exit.then])
  exact bodyPost_ret (results_vt rfl _ _ g rfl (a5_.five _ _ _ _ _)) rfl ⟨rfl, by first | exact below_five b5_ (Nat.le_refl g) _ _ _ _ _ | exact below_is hg (below_five b5_ (Nat.le_refl g) _ _ _ _ _)⟩
set_option maxRecDepth 100000 in
set_option maxHeartbeats 4000000 in
theorem each33_c (g1 g2 : Nat) (F : Nat → Int × Int) (w : World) (hF : ∀ i : Nat, i < 5 → ∀ W : World, Below w.heap.size w W → Calls Tryd.prog 33 #[.int .i64 (i : Int), .pointer (some ⟨g1, 0, none⟩), .pointer (some ⟨g2, 0, none⟩)] W fun e_ w' => e_ = .returned (.tuple #[.int .i64 (F i).1, .int .i64 (F i).2]) ∧ Below W.heap.size W w') :
    Calls Tryd.prog 28 #[.func (.func 33) #[] #[.pointer (some ⟨g1, 0, none⟩), .pointer (some ⟨g2, 0, none⟩)]] w fun e_ w' => e_ = .returned (.tuple #[(eachS F).1.val, .int .i64 (eachS F).2]) ∧ Below w.heap.size w w' := by
  obtain ⟨g, hg⟩ : ∃ g, w.heap.size = g := ⟨_, rfl⟩
  obtain ⟨W0, hW0⟩ : ∃ W, w.alloc (.cells #[.int .i64 0, .int .i64 0, .int .i64 0, .int .i64 0, .int .i64 0] 23) = W := ⟨_, rfl⟩
  have a0_ : At W0 g 0 0 0 0 0 := by rw [← hW0, ← hg]; exact At.new _ _ _ _ _ _
  have b0_ : Below g w W0 := by rw [← hW0, ← hg]; exact below_alloc (Below.refl _ _) _
  have C0 := Aside0.mk (hF 0 (by decide))
  have C1 := Aside0.mk (hF 1 (by decide))
  have C2 := Aside0.mk (hF 2 (by decide))
  have C3 := Aside0.mk (hF 3 (by decide))
  have C4 := Aside0.mk (hF 4 (by decide))
  clear hF
  obtain ⟨R, hR⟩ : ∃ R, eachS F = R := ⟨_, rfl⟩
  rw [hR]
  unfold eachS at hR
  obtain ⟨n0, e0, q0⟩ : ∃ n e, F 0 = (n, e) := ⟨_, _, rfl⟩
  obtain ⟨n1, e1, q1⟩ : ∃ n e, F 1 = (n, e) := ⟨_, _, rfl⟩
  obtain ⟨n2, e2, q2⟩ : ∃ n e, F 2 = (n, e) := ⟨_, _, rfl⟩
  obtain ⟨n3, e3, q3⟩ : ∃ n e, F 3 = (n, e) := ⟨_, _, rfl⟩
  obtain ⟨n4, e4, q4⟩ : ∃ n e, F 4 = (n, e) := ⟨_, _, rfl⟩
  rw [q0] at C0 hR
  rw [q1] at C1 hR
  rw [q2] at C2 hR
  rw [q3] at C3 hR
  rw [q4] at C4 hR
  clear q0 q1 q2 q3 q4 F
  dsimp only at C0 C1 C2 C3 C4 hR
  have R0 := Aside0.mk hR
  clear hR
  go_enter Tryd.func28, Tryd.ntmps28
  go_wp2_with fail
  refine wp_loop_rounds 6 ?_
  rw [rounds_succ]
  go_wp2_with fail
  refine (C0.out W0 (below_is hg b0_)).mono ?_
  rintro _ V0 ⟨rfl, hb⟩
  have k_ := (a0_.below hb).cell_0
  have f_ := (a0_.below hb).fz 0
  obtain ⟨W1, hW1⟩ : ∃ W, V0.setCell ⟨g, 0, none⟩ (.int .i64 n0) = W := ⟨_, rfl⟩
  have a1_ : At W1 g n0 0 0 0 0 := by rw [← hW1]; exact (a0_.below hb).set_0 _
  have b1_ : Below g w W1 := by rw [← hW1]; exact (bk b0_ (Nat.le_of_lt a0_.lt) hb).setCell (Nat.le_refl _) _
  clear a0_ b0_ hb
  by_cases h0 : e0 ≠ 0
  · have hr := R0.out
    rw [if_pos h0] at hr
    subst hr
    clear R0
    have h0b : (e0 != 0) = true := bne_iff_ne.mpr h0
    clear h0
    have f0_ := a1_.fz 0
    have k0_ := a1_.cell_0
    have f1_ := a1_.fz 1
    have k1_ := a1_.cell_1
    have f2_ := a1_.fz 2
    have k2_ := a1_.cell_2
    have f3_ := a1_.fz 3
    have k3_ := a1_.cell_3
    have f4_ := a1_.fz 4
    have k4_ := a1_.cell_4
    go_wp2_with fail
    (try simp only [Exit.inBlock, Exit.then])
    exact bodyPost_ret (results_vt rfl _ _ g rfl (a1_.five _ _ _ _ _)) rfl ⟨rfl, by first | exact below_five b1_ (Nat.le_refl g) _ _ _ _ _ | exact below_is hg (below_five b1_ (Nat.le_refl g) _ _ _ _ _)⟩
  have R1 := Aside0.mk ((if_neg h0).symm.trans R0.out)
  clear R0
  have h0b : (e0 != 0) = false := by simpa using h0
  clear h0
  go_wp2_with fail
  clear k_ f_ hW1 h0b
  rw [rounds_succ]
  go_wp2_with fail
  refine (C1.out W1 (below_is hg b1_)).mono ?_
  rintro _ V1 ⟨rfl, hb⟩
  have k_ := (a1_.below hb).cell_1
  have f_ := (a1_.below hb).fz 1
  obtain ⟨W2, hW2⟩ : ∃ W, V1.setCell ⟨g, 1, none⟩ (.int .i64 n1) = W := ⟨_, rfl⟩
  have a2_ : At W2 g n0 n1 0 0 0 := by rw [← hW2]; exact (a1_.below hb).set_1 _
  have b2_ : Below g w W2 := by rw [← hW2]; exact (bk b1_ (Nat.le_of_lt a1_.lt) hb).setCell (Nat.le_refl _) _
  clear a1_ b1_ hb
  by_cases h1 : e1 ≠ 0
  · have hr := R1.out
    rw [if_pos h1] at hr
    subst hr
    clear R1
    have h1b : (e1 != 0) = true := bne_iff_ne.mpr h1
    clear h1
    have f0_ := a2_.fz 0
    have k0_ := a2_.cell_0
    have f1_ := a2_.fz 1
    have k1_ := a2_.cell_1
    have f2_ := a2_.fz 2
    have k2_ := a2_.cell_2
    have f3_ := a2_.fz 3
    have k3_ := a2_.cell_3
    have f4_ := a2_.fz 4
    have k4_ := a2_.cell_4
    go_wp2_with fail
    (try simp only [Exit.inBlock, Exit.then])
    exact bodyPost_ret (results_vt rfl _ _ g rfl (a2_.five _ _ _ _ _)) rfl ⟨rfl, by first | exact below_five b2_ (Nat.le_refl g) _ _ _ _ _ | exact below_is hg (below_five b2_ (Nat.le_refl g) _ _ _ _ _)⟩
  have R2 := Aside0.mk ((if_neg h1).symm.trans R1.out)
  clear R1
  have h1b : (e1 != 0) = false := by simpa using h1
  clear h1
  go_wp2_with fail
  clear k_ f_ hW2 h1b
  rw [rounds_succ]
  go_wp2_with fail
  refine (C2.out W2 (below_is hg b2_)).mono ?_
  rintro _ V2 ⟨rfl, hb⟩
  have k_ := (a2_.below hb).cell_2
  have f_ := (a2_.below hb).fz 2
  obtain ⟨W3, hW3⟩ : ∃ W, V2.setCell ⟨g, 2, none⟩ (.int .i64 n2) = W := ⟨_, rfl⟩
  have a3_ : At W3 g n0 n1 n2 0 0 := by rw [← hW3]; exact (a2_.below hb).set_2 _
  have b3_ : Below g w W3 := by rw [← hW3]; exact (bk b2_ (Nat.le_of_lt a2_.lt) hb).setCell (Nat.le_refl _) _
  clear a2_ b2_ hb
  by_cases h2 : e2 ≠ 0
  · have hr := R2.out
    rw [if_pos h2] at hr
    subst hr
    clear R2
    have h2b : (e2 != 0) = true := bne_iff_ne.mpr h2
    clear h2
    have f0_ := a3_.fz 0
    have k0_ := a3_.cell_0
    have f1_ := a3_.fz 1
    have k1_ := a3_.cell_1
    have f2_ := a3_.fz 2
    have k2_ := a3_.cell_2
    have f3_ := a3_.fz 3
    have k3_ := a3_.cell_3
    have f4_ := a3_.fz 4
    have k4_ := a3_.cell_4
    go_wp2_with fail
    (try simp only [Exit.inBlock, Exit.then])
    exact bodyPost_ret (results_vt rfl _ _ g rfl (a3_.five _ _ _ _ _)) rfl ⟨rfl, by first | exact below_five b3_ (Nat.le_refl g) _ _ _ _ _ | exact below_is hg (below_five b3_ (Nat.le_refl g) _ _ _ _ _)⟩
  have R3 := Aside0.mk ((if_neg h2).symm.trans R2.out)
  clear R2
  have h2b : (e2 != 0) = false := by simpa using h2
  clear h2
  go_wp2_with fail
  clear k_ f_ hW3 h2b
  rw [rounds_succ]
  go_wp2_with fail
  refine (C3.out W3 (below_is hg b3_)).mono ?_
  rintro _ V3 ⟨rfl, hb⟩
  have k_ := (a3_.below hb).cell_3
  have f_ := (a3_.below hb).fz 3
  obtain ⟨W4, hW4⟩ : ∃ W, V3.setCell ⟨g, 3, none⟩ (.int .i64 n3) = W := ⟨_, rfl⟩
  have a4_ : At W4 g n0 n1 n2 n3 0 := by rw [← hW4]; exact (a3_.below hb).set_3 _
  have b4_ : Below g w W4 := by rw [← hW4]; exact (bk b3_ (Nat.le_of_lt a3_.lt) hb).setCell (Nat.le_refl _) _
  clear a3_ b3_ hb
  by_cases h3 : e3 ≠ 0
  · have hr := R3.out
    rw [if_pos h3] at hr
    subst hr
    clear R3
    have h3b : (e3 != 0) = true := bne_iff_ne.mpr h3
    clear h3
    have f0_ := a4_.fz 0
    have k0_ := a4_.cell_0
    have f1_ := a4_.fz 1
    have k1_ := a4_.cell_1
    have f2_ := a4_.fz 2
    have k2_ := a4_.cell_2
    have f3_ := a4_.fz 3
    have k3_ := a4_.cell_3
    have f4_ := a4_.fz 4
    have k4_ := a4_.cell_4
    go_wp2_with fail
    (try simp only [Exit.inBlock, Exit.then])
    exact bodyPost_ret (results_vt rfl _ _ g rfl (a4_.five _ _ _ _ _)) rfl ⟨rfl, by first | exact below_five b4_ (Nat.le_refl g) _ _ _ _ _ | exact below_is hg (below_five b4_ (Nat.le_refl g) _ _ _ _ _)⟩
  have R4 := Aside0.mk ((if_neg h3).symm.trans R3.out)
  clear R3
  have h3b : (e3 != 0) = false := by simpa using h3
  clear h3
  go_wp2_with fail
  clear k_ f_ hW4 h3b
  rw [rounds_succ]
  go_wp2_with fail
  refine (C4.out W4 (below_is hg b4_)).mono ?_
  rintro _ V4 ⟨rfl, hb⟩
  have k_ := (a4_.below hb).cell_4
  have f_ := (a4_.below hb).fz 4
  obtain ⟨W5, hW5⟩ : ∃ W, V4.setCell ⟨g, 4, none⟩ (.int .i64 n4) = W := ⟨_, rfl⟩
  have a5_ : At W5 g n0 n1 n2 n3 n4 := by rw [← hW5]; exact (a4_.below hb).set_4 _
  have b5_ : Below g w W5 := by rw [← hW5]; exact (bk b4_ (Nat.le_of_lt a4_.lt) hb).setCell (Nat.le_refl _) _
  clear a4_ b4_ hb
  by_cases h4 : e4 ≠ 0
  · have hr := R4.out
    rw [if_pos h4] at hr
    subst hr
    clear R4
    have h4b : (e4 != 0) = true := bne_iff_ne.mpr h4
    clear h4
    have f0_ := a5_.fz 0
    have k0_ := a5_.cell_0
    have f1_ := a5_.fz 1
    have k1_ := a5_.cell_1
    have f2_ := a5_.fz 2
    have k2_ := a5_.cell_2
    have f3_ := a5_.fz 3
    have k3_ := a5_.cell_3
    have f4_ := a5_.fz 4
    have k4_ := a5_.cell_4
    go_wp2_with fail
    (try simp only [Exit.inBlock, Exit.then])
    exact bodyPost_ret (results_vt rfl _ _ g rfl (a5_.five _ _ _ _ _)) rfl ⟨rfl, by first | exact below_five b5_ (Nat.le_refl g) _ _ _ _ _ | exact below_is hg (below_five b5_ (Nat.le_refl g) _ _ _ _ _)⟩
  have R5 := Aside0.mk ((if_neg h4).symm.trans R4.out)
  clear R4
  have h4b : (e4 != 0) = false := by simpa using h4
  clear h4
  go_wp2_with fail
  clear k_ f_ hW5 h4b
  have f0_ := a5_.fz 0
  have k0_ := a5_.cell_0
  have f1_ := a5_.fz 1
  have k1_ := a5_.cell_1
  have f2_ := a5_.fz 2
  have k2_ := a5_.cell_2
  have f3_ := a5_.fz 3
  have k3_ := a5_.cell_3
  have f4_ := a5_.fz 4
  have k4_ := a5_.cell_4
  have hr := R5.out
  subst hr
  clear R5
  rw [rounds_succ]
  go_wp2_with fail
  (try simp only [Exit.inBlock, Exit.then])
  exact bodyPost_ret (results_vt rfl _ _ g rfl (a5_.five _ _ _ _ _)) rfl ⟨rfl, by first | exact below_five b5_ (Nat.le_refl g) _ _ _ _ _ | exact below_is hg (below_five b5_ (Nat.le_refl g) _ _ _ _ _)⟩
set_option maxRecDepth 100000 in
set_option maxHeartbeats 4000000 in
theorem each31_c (g1 : Nat) (F : Nat → Int × Int) (w : World) (hF : ∀ i : Nat, i < 5 → ∀ W : World, Below w.heap.size w W → Calls Tryd.prog 31 #[.int .i64 (i : Int), .pointer (some ⟨g1, 0, none⟩)] W fun e_ w' => e_ = .returned (.tuple #[.int .i64 (F i).1, .int .i64 (F i).2]) ∧ Below W.heap.size W w') :
    Calls Tryd.prog 28 #[.func (.func 31) #[] #[.pointer (some ⟨g1, 0, none⟩)]] w fun e_ w' => e_ = .returned (.tuple #[(eachS F).1.val, .int .i64 (eachS F).2]) ∧ Below w.heap.size w w' := by
  obtain ⟨g, hg⟩ : ∃ g, w.heap.size = g := ⟨_, rfl⟩
  obtain ⟨W0, hW0⟩ : ∃ W, w.alloc (.cells #[.int .i64 0, .int .i64 0, .int .i64 0, .int .i64 0, .int .i64 0] 23) = W := ⟨_, rfl⟩
  have a0_ : At W0 g 0 0 0 0 0 := by rw [← hW0, ← hg]; exact At.new _ _ _ _ _ _
  have b0_ : Below g w W0 := by rw [← hW0, ← hg]; exact below_alloc (Below.refl _ _) _
  have C0 := Aside0.mk (hF 0 (by decide))
  have C1 := Aside0.mk (hF 1 (by decide))
  have C2 := Aside0.mk (hF 2 (by decide))
  have C3 := Aside0.mk (hF 3 (by decide))
  have C4 := Aside0.mk (hF 4 (by decide))
  clear hF
  obtain ⟨R, hR⟩ : ∃ R, eachS F = R := ⟨_, rfl⟩
  rw [hR]
  unfold eachS at hR
  obtain ⟨n0, e0, q0⟩ : ∃ n e, F 0 = (n, e) := ⟨_, _, rfl⟩
  obtain ⟨n1, e1, q1⟩ : ∃ n e, F 1 = (n, e) := ⟨_, _, rfl⟩
  obtain ⟨n2, e2, q2⟩ : ∃ n e, F 2 = (n, e) := ⟨_, _, rfl⟩
  obtain ⟨n3, e3, q3⟩ : ∃ n e, F 3 = (n, e) := ⟨_, _, rfl⟩
  obtain ⟨n4, e4, q4⟩ : ∃ n e, F 4 = (n, e) := ⟨_, _, rfl⟩
  rw [q0] at C0 hR
  rw [q1] at C1 hR
  rw [q2] at C2 hR
  rw [q3] at C3 hR
  rw [q4] at C4 hR
  clear q0 q1 q2 q3 q4 F
  dsimp only at C0 C1 C2 C3 C4 hR
  have R0 := Aside0.mk hR
  clear hR
  go_enter Tryd.func28, Tryd.ntmps28
  go_wp2_with fail
  refine wp_loop_rounds 6 ?_
  rw [rounds_succ]
  go_wp2_with fail
  refine (C0.out W0 (below_is hg b0_)).mono ?_
  rintro _ V0 ⟨rfl, hb⟩
  have k_ := (a0_.below hb).cell_0
  have f_ := (a0_.below hb).fz 0
  obtain ⟨W1, hW1⟩ : ∃ W, V0.setCell ⟨g, 0, none⟩ (.int .i64 n0) = W := ⟨_, rfl⟩
  have a1_ : At W1 g n0 0 0 0 0 := by rw [← hW1]; exact (a0_.below hb).set_0 _
  have b1_ : Below g w W1 := by rw [← hW1]; exact (bk b0_ (Nat.le_of_lt a0_.lt) hb).setCell (Nat.le_refl _) _
  clear a0_ b0_ hb
  by_cases h0 : e0 ≠ 0
  · have hr := R0.out
    rw [if_pos h0] at hr
    subst hr
    clear R0
    have h0b : (e0 != 0) = true := bne_iff_ne.mpr h0
    clear h0
    have f0_ := a1_.fz 0
    have k0_ := a1_.cell_0
    have f1_ := a1_.fz 1
    have k1_ := a1_.cell_1
    have f2_ := a1_.fz 2
    have k2_ := a1_.cell_2
    have f3_ := a1_.fz 3
    have k3_ := a1_.cell_3
    have f4_ := a1_.fz 4
    have k4_ := a1_.cell_4
    go_wp2_with fail
    (try simp only [Exit.inBlock, Exit.then])
    exact bodyPost_ret (results_vt rfl _ _ g rfl (a1_.five _ _ _ _ _)) rfl ⟨rfl, by first | exact below_five b1_ (Nat.le_refl g) _ _ _ _ _ | exact below_is hg (below_five b1_ (Nat.le_refl g) _ _ _ _ _)⟩
  have R1 := Aside0.mk ((if_neg h0).symm.trans R0.out)
  clear R0
  have h0b : (e0 != 0) = false := by simpa using h0
  clear h0
  go_wp2_with fail
  clear k_ f_ hW1 h0b
  rw [rounds_succ]
  go_wp2_with fail
  refine (C1.out W1 (below_is hg b1_)).mono ?_
  rintro _ V1 ⟨rfl, hb⟩
  have k_ := (a1_.below hb).cell_1
  have f_ := (a1_.below hb).fz 1
  obtain ⟨W2, hW2⟩ : ∃ W, V1.setCell ⟨g, 1, none⟩ (.int .i64 n1) = W := ⟨_, rfl⟩
  have a2_ : At W2 g n0 n1 0 0 0 := by rw [← hW2]; exact (a1_.below hb).set_1 _
  have b2_ : Below g w W2 := by rw [← hW2]; exact (bk b1_ (Nat.le_of_lt a1_.lt) hb).setCell (Nat.le_refl _) _
  clear a1_ b1_ hb
  by_cases h1 : e1 ≠ 0
  · have hr := R1.out
    rw [if_pos h1] at hr
    subst hr
    clear R1
    have h1b : (e1 != 0) = true := bne_iff_ne.mpr h1
    clear h1
    have f0_ := a2_.fz 0
    have k0_ := a2_.cell_0
    have f1_ := a2_.fz 1
    have k1_ := a2_.cell_1
    have f2_ := a2_.fz 2
    have k2_ := a2_.cell_2
    have f3_ := a2_.fz 3
    have k3_ := a2_.cell_3
    have f4_ := a2_.fz 4
    have k4_ := a2_.cell_4
    go_wp2_with fail
    (try simp only [Exit.inBlock, Exit.then])
    exact bodyPost_ret (results_vt rfl _ _ g rfl (a2_.five _ _ _ _ _)) rfl ⟨rfl, by first | exact below_five b2_ (Nat.le_refl g) _ _ _ _ _ | exact below_is hg (below_five b2_ (Nat.le_refl g) _ _ _ _ _)⟩
  have R2 := Aside0.mk ((if_neg h1).symm.trans R1.out)
  clear R1
  have h1b : (e1 != 0) = false := by simpa using h1
  clear h1
  go_wp2_with fail
  clear k_ f_ hW2 h1b
  rw [rounds_succ]
  go_wp2_with fail
  refine (C2.out W2 (below_is hg b2_)).mono ?_
  rintro _ V2 ⟨rfl, hb⟩
  have k_ := (a2_.below hb).cell_2
  have f_ := (a2_.below hb).fz 2
  obtain ⟨W3, hW3⟩ : ∃ W, V2.setCell ⟨g, 2, none⟩ (.int .i64 n2) = W := ⟨_, rfl⟩
  have a3_ : At W3 g n0 n1 n2 0 0 := by rw [← hW3]; exact (a2_.below hb).set_2 _
  have b3_ : Below g w W3 := by rw [← hW3]; exact (bk b2_ (Nat.le_of_lt a2_.lt) hb).setCell (Nat.le_refl _) _
  clear a2_ b2_ hb
  by_cases h2 : e2 ≠ 0
  · have hr := R2.out
    rw [if_pos h2] at hr
    subst hr
    clear R2
    have h2b : (e2 != 0) = true := bne_iff_ne.mpr h2
    clear h2
    have f0_ := a3_.fz 0
    have k0_ := a3_.cell_0
    have f1_ := a3_.fz 1
    have k1_ := a3_.cell_1
    have f2_ := a3_.fz 2
    have k2_ := a3_.cell_2
    have f3_ := a3_.fz 3
    have k3_ := a3_.cell_3
    have f4_ := a3_.fz 4
    have k4_ := a3_.cell_4
    go_wp2_with fail
    (try simp only [Exit.inBlock, Exit.then])
    exact bodyPost_ret (results_vt rfl _ _ g rfl (a3_.five _ _ _ _ _)) rfl ⟨rfl, by first | exact below_five b3_ (Nat.le_refl g) _ _ _ _ _ | exact below_is hg (below_five b3_ (Nat.le_refl g) _ _ _ _ _)⟩
  have R3 := Aside0.mk ((if_neg h2).symm.trans R2.out)
  clear R2
  have h2b : (e2 != 0) = false := by simpa using h2
  clear h2
  go_wp2_with fail
  clear k_ f_ hW3 h2b
  rw [rounds_succ]
  go_wp2_with fail
  refine (C3.out W3 (below_is hg b3_)).mono ?_
  rintro _ V3 ⟨rfl, hb⟩
  have k_ := (a3_.below hb).cell_3
  have f_ := (a3_.below hb).fz 3
  obtain ⟨W4, hW4⟩ : ∃ W, V3.setCell ⟨g, 3, none⟩ (.int .i64 n3) = W := ⟨_, rfl⟩
  have a4_ : At W4 g n0 n1 n2 n3 0 := by rw [← hW4]; exact (a3_.below hb).set_3 _
  have b4_ : Below g w W4 := by rw [← hW4]; exact (bk b3_ (Nat.le_of_lt a3_.lt) hb).setCell (Nat.le_refl _) _
  clear a3_ b3_ hb
  by_cases h3 : e3 ≠ 0
  · have hr := R3.out
    rw [if_pos h3] at hr
    subst hr
    clear R3
    have h3b : (e3 != 0) = true := bne_iff_ne.mpr h3
    clear h3
    have f0_ := a4_.fz 0
    have k0_ := a4_.cell_0
    have f1_ := a4_.fz 1
    have k1_ := a4_.cell_1
    have f2_ := a4_.fz 2
    have k2_ := a4_.cell_2
    have f3_ := a4_.fz 3
    have k3_ := a4_.cell_3
    have f4_ := a4_.fz 4
    have k4_ := a4_.cell_4
    go_wp2_with fail
    (try simp only [Exit.inBlock, Exit.then])
    exact bodyPost_ret (results_vt rfl _ _ g rfl (a4_.five _ _ _ _ _)) rfl ⟨rfl, by first | exact below_five b4_ (Nat.le_refl g) _ _ _ _ _ | exact below_is hg (below_five b4_ (Nat.le_refl g) _ _ _ _ _)⟩
  have R4 := Aside0.mk ((if_neg h3).symm.trans R3.out)
  clear R3
  have h3b : (e3 != 0) = false := by simpa using h3
  clear h3
  go_wp2_with fail
  clear k_ f_ hW4 h3b
  rw [rounds_succ]
  go_wp2_with fail
  refine (C4.out W4 (below_is hg b4_)).mono ?_
  rintro _ V4 ⟨rfl, hb⟩
  have k_ := (a4_.below hb).cell_4
  have f_ := (a4_.below hb).fz 4
  obtain ⟨W5, hW5⟩ : ∃ W, V4.setCell ⟨g, 4, none⟩ (.int .i64 n4) = W := ⟨_, rfl⟩
  have a5_ : At W5 g n0 n1 n2 n3 n4 := by rw [← hW5]; exact (a4_.below hb).set_4 _
  have b5_ : Below g w W5 := by rw [← hW5]; exact (bk b4_ (Nat.le_of_lt a4_.lt) hb).setCell (Nat.le_refl _) _
  clear a4_ b4_ hb
  by_cases h4 : e4 ≠ 0
  · have hr := R4.out
    rw [if_pos h4] at hr
    subst hr
    clear R4
    have h4b : (e4 != 0) = true := bne_iff_ne.mpr h4
    clear h4
    have f0_ := a5_.fz 0
    have k0_ := a5_.cell_0
    have f1_ := a5_.fz 1
    have k1_ := a5_.cell_1
    have f2_ := a5_.fz 2
    have k2_ := a5_.cell_2
    have f3_ := a5_.fz 3
    have k3_ := a5_.cell_3
    have f4_ := a5_.fz 4
    have k4_ := a5_.cell_4
    go_wp2_with fail
    (try simp only [Exit.inBlock, Exit.then])
    exact bodyPost_ret (results_vt rfl _ _ g rfl (a5_.five _ _ _ _ _)) rfl ⟨rfl, by first | exact below_five b5_ (Nat.le_refl g) _ _ _ _ _ | exact below_is hg (below_five b5_ (Nat.le_refl g) _ _ _ _ _)⟩
  have R5 := Aside0.mk ((if_neg h4).symm.trans R4.out)
  clear R4
  have h4b : (e4 != 0) = false := by simpa using h4
  clear h4
  go_wp2_with fail
  clear k_ f_ hW5 h4b
  have f0_ := a5_.fz 0
  have k0_ := a5_.cell_0
  have f1_ := a5_.fz 1
  have k1_ := a5_.cell_1
  have f2_ := a5_.fz 2
  have k2_ := a5_.cell_2
  have f3_ := a5_.fz 3
  have k3_ := a5_.cell_3
  have f4_ := a5_.fz 4
  have k4_ := a5_.cell_4
  have hr := R5.out
  subst hr
  clear R5
  rw [rounds_succ]
  go_wp2_with fail
  (try simp only [Exit.inBlock, Exit.then])
  exact bodyPost_ret (results_vt rfl _ _ g rfl (a5_.five _ _ _ _ _)) rfl ⟨rfl, by first | exact below_five b5_ (Nat.le_refl g) _ _ _ _ _ | exact below_is hg (below_five b5_ (Nat.le_refl g) _ _ _ _ _)⟩
end Go.Proofs.YtceepgleeelohaaDoor.P
