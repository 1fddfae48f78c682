import Derived.Test.YtceepgleeelohaaDoorHv6
/- The document's Minus, Times, Share, Check. -/
namespace Go.Proofs.YtceepgleeelohaaDoor.P
set_option linter.unusedVariables false
set_option linter.unusedSimpArgs false
open Go.RowKit Go.Proofs.YtceepgleeelohaaDoorW.PrintWords Go.Proofs.YtceepgleeelohaaDoorW.PrintLast Go.Proofs.YtceepgleeelohaaDoorW.PrintMore
attribute [local go_sem] max2_int min2_int max_two min_two
set_option maxRecDepth 100000 in
set_option maxHeartbeats 4000000 in
theorem rminus_c (a b c d e a' b' c' d' e' : Int) (w : World) :
    Calls Tryd.prog 22 #[.agg #[.int .i64 a, .int .i64 b, .int .i64 c, .int .i64 d, .int .i64 e], .agg #[.int .i64 a', .int .i64 b', .int .i64 c', .int .i64 d', .int .i64 e']] w fun e_ w' => e_ = .returned (.tuple #[(V.minus ⟨a, b, c, d, e⟩ ⟨a', b', c', d', e'⟩).1.val, .int .i64 (V.minus ⟨a, b, c, d, e⟩ ⟨a', b', c', d', e'⟩).2]) ∧ Below w.heap.size w w' := by
  obtain ⟨g, hg⟩ : ∃ g, w.heap.size = g := ⟨_, rfl⟩
  obtain ⟨W0, hW0⟩ : ∃ W, (((w).alloc (.cells #[.int .i64 a, .int .i64 b, .int .i64 c, .int .i64 d, .int .i64 e] 23)).alloc (.cells #[.int .i64 a', .int .i64 b', .int .i64 c', .int .i64 d', .int .i64 e'] 23)).alloc (.cells #[.int .i64 0, .int .i64 0, .int .i64 0, .int .i64 0, .int .i64 0] 23) = W := ⟨_, rfl⟩
  have a0_ : At W0 g a b c d e := by rw [← hW0, ← hg]; exact (((At.new w a b c d e).alloc _).alloc _)
  have c0_ : At W0 (g + 1) a' b' c' d' e' := by rw [← hW0, ← hg]; simpa using ((At.new (w.alloc (.cells #[.int .i64 a, .int .i64 b, .int .i64 c, .int .i64 d, .int .i64 e] 23)) a' b' c' d' e').alloc _)
  have z0_ : At W0 (g + 2) 0 0 0 0 0 := by rw [← hW0, ← hg]; simpa using (At.new ((w.alloc (.cells #[.int .i64 a, .int .i64 b, .int .i64 c, .int .i64 d, .int .i64 e] 23)).alloc (.cells #[.int .i64 a', .int .i64 b', .int .i64 c', .int .i64 d', .int .i64 e'] 23)) 0 0 0 0 0)
  have b0_ : Below g w W0 := by rw [← hW0, ← hg]; apply below_alloc; apply below_alloc; apply below_alloc; exact Below.refl _ _
  obtain ⟨R, hR⟩ : ∃ R, V.minus ⟨a, b, c, d, e⟩ ⟨a', b', c', d', e'⟩ = R := ⟨_, rfl⟩
  rw [hR]
  replace hR : ((if (subS a a').2 ≠ 0 then (⟨0, 0, 0, 0, 0⟩, (subS a a').2) else (if (subS b b').2 ≠ 0 then (⟨0, 0, 0, 0, 0⟩, (subS b b').2) else (if (subS c c').2 ≠ 0 then (⟨0, 0, 0, 0, 0⟩, (subS c c').2) else (if (subS d d').2 ≠ 0 then (⟨0, 0, 0, 0, 0⟩, (subS d d').2) else (if (subS e e').2 ≠ 0 then (⟨0, 0, 0, 0, 0⟩, (subS e e').2) else (⟨(subS a a').1, (subS b b').1, (subS c c').1, (subS d d').1, (subS e e').1⟩, 0)))))) : V × Int) = R := hR
  obtain ⟨n0, e0, q0⟩ : ∃ n_ q_, subS a a' = (n_, q_) := ⟨_, _, rfl⟩
  have C0 := Aside0.mk (fun W => drayageref01_Sub.calls 5 a a' n0 e0 W ((refSub_f a a' 4).trans (congrArg some q0)))
  rw [q0] at hR
  clear q0
  obtain ⟨n1, e1, q1⟩ : ∃ n_ q_, subS b b' = (n_, q_) := ⟨_, _, rfl⟩
  have C1 := Aside0.mk (fun W => drayageref01_Sub.calls 5 b b' n1 e1 W ((refSub_f b b' 4).trans (congrArg some q1)))
  rw [q1] at hR
  clear q1
  obtain ⟨n2, e2, q2⟩ : ∃ n_ q_, subS c c' = (n_, q_) := ⟨_, _, rfl⟩
  have C2 := Aside0.mk (fun W => drayageref01_Sub.calls 5 c c' n2 e2 W ((refSub_f c c' 4).trans (congrArg some q2)))
  rw [q2] at hR
  clear q2
  obtain ⟨n3, e3, q3⟩ : ∃ n_ q_, subS d d' = (n_, q_) := ⟨_, _, rfl⟩
  have C3 := Aside0.mk (fun W => drayageref01_Sub.calls 5 d d' n3 e3 W ((refSub_f d d' 4).trans (congrArg some q3)))
  rw [q3] at hR
  clear q3
  obtain ⟨n4, e4, q4⟩ : ∃ n_ q_, subS e e' = (n_, q_) := ⟨_, _, rfl⟩
  have C4 := Aside0.mk (fun W => drayageref01_Sub.calls 5 e e' n4 e4 W ((refSub_f e e' 4).trans (congrArg some q4)))
  rw [q4] at hR
  clear q4
  dsimp only at hR
  have R0 := Aside0.mk hR
  clear hR
  go_enter Tryd.func22, Tryd.ntmps22
  go_wp2_with fail
  refine wp_loop_rounds 6 ?_
  rw [rounds_succ]
  have h1_ := a0_.cell_0
  have h2_ := c0_.cell_0
  go_wp2_with fail
  refine start_ (n := 12) (S := fun w' => w'.cell? ⟨g, 0, none⟩ = some (.int .i64 a) ∧ w'.cell? ⟨g + 1, 0, none⟩ = some (.int .i64 a')) (ds := []) #[false, false, false, false, false, false, false, false, false, false, false, false] (by kernel_rfl) rfl rfl ⟨h1_, h2_⟩ (fun hHeld => ?_)
  refine pure_ (i := 0) (N := some 14) (v := ?_) (a' := ?_) #[true, false, false, false, false, false, false, false, false, false, false, false] rfl rfl (by kernel_rfl) (fun _ _ _ h => h) (Or.inl ⟨by rfl, ?_⟩) ?_ ?_
  rotate_left
  · intro w'
    go_simp
    with_reducible rfl
  rotate_left
  · simp only [Act.put, List.setIfInBounds_toArray, List.set_cons_zero, List.set_cons_succ, i64_w, i32_w]
    rfl
  refine pure_ (i := 1) (N := some 15) (v := ?_) (a' := ?_) #[true, true, false, false, false, false, false, false, false, false, false, false] rfl rfl (by kernel_rfl) (fun _ _ _ h => h) (Or.inl ⟨by rfl, ?_⟩) ?_ ?_
  rotate_left
  · intro w'
    go_simp
    with_reducible rfl
  rotate_left
  · simp only [Act.put, List.setIfInBounds_toArray, List.set_cons_zero, List.set_cons_succ, i64_w, i32_w]
    rfl
  refine pure_ (i := 3) (N := some 17) (v := ?_) (a' := ?_) #[true, true, false, true, false, false, false, false, false, false, false, false] rfl rfl (by kernel_rfl) (fun _ _ _ h => h) (Or.inl ⟨by rfl, ?_⟩) ?_ ?_
  rotate_left
  · intro w'
    go_simp
    with_reducible rfl
  rotate_left
  · simp only [Act.put, List.setIfInBounds_toArray, List.set_cons_zero, List.set_cons_succ, i64_w, i32_w]
    rfl
  refine pure_ (i := 4) (N := some 18) (v := ?_) (a' := ?_) #[true, true, false, true, true, false, false, false, false, false, false, false] rfl rfl (by kernel_rfl) (fun _ _ _ h => h) (Or.inl ⟨by rfl, ?_⟩) ?_ ?_
  rotate_left
  · intro w'
    go_simp
    with_reducible rfl
  rotate_left
  · simp only [Act.put, List.setIfInBounds_toArray, List.set_cons_zero, List.set_cons_succ, i64_w, i32_w]
    rfl
  refine take_ (i := 2) (N := some 16) (v := ?_) (a' := ?_) #[true, true, true, true, true, false, false, false, false, false, false, false] rfl rfl (by kernel_rfl) (fun _ _ _ h => h) (Or.inl ⟨by rfl, ?_⟩) hHeld ?_ ?_
  rotate_left
  · rintro w' ⟨s0, s1⟩
    go_simp
    with_reducible rfl
  rotate_left
  · simp only [Act.put, List.setIfInBounds_toArray, List.set_cons_zero, List.set_cons_succ, i64_w, i32_w]
    rfl
  refine take_ (i := 5) (N := some 19) (v := ?_) (a' := ?_) #[true, true, true, true, true, true, false, false, false, false, false, false] rfl rfl (by kernel_rfl) (fun _ _ _ h => h) (Or.inl ⟨by rfl, ?_⟩) hHeld ?_ ?_
  rotate_left
  · rintro w' ⟨s0, s1⟩
    go_simp
    with_reducible rfl
  rotate_left
  · simp only [Act.put, List.setIfInBounds_toArray, List.set_cons_zero, List.set_cons_succ, i64_w, i32_w]
    rfl
  refine one_ (i := 6) (N := some 20) #[true, true, true, true, true, true, true, false, false, false, false, false] rfl rfl (by kernel_rfl) (by decide) (fun K hK => ?_)
  refine goes_ Tryd.func48 (by kernel_rfl) rfl #[.int .i64 a, .int .i64 a'] (by rfl) rfl rfl (by simp only [List.map_toArray, List.map_cons, List.map_nil]; rfl) ?_
  with_reducible refine (C0.out _).mono ?_
  rintro e_ V0 ⟨rfl, hd⟩
  refine ⟨_, rfl, ?_⟩
  have hb := bd hd.below
  clear hd
  refine hK.out _ _ ⟨((hb.cell a0_.lt).trans hHeld.1), ((hb.cell c0_.lt).trans hHeld.2)⟩ (fun hHeld => ?_)
  clear hK K
  refine norm_ (a' := ?_) ?_ ?_
  rotate_left
  · show Act.put _ (some 20) _ = _
    simp only [Act.put, List.setIfInBounds_toArray, List.set_cons_zero, List.set_cons_succ, i64_w, i32_w]
    rfl
  refine pure_ (i := 7) (N := some 13) (v := ?_) (a' := ?_) #[true, true, true, true, true, true, true, true, false, false, false, false] rfl rfl (by kernel_rfl) (fun _ _ _ h => h) (Or.inl ⟨by rfl, ?_⟩) ?_ ?_
  rotate_left
  · intro w'
    go_simp
    with_reducible rfl
  rotate_left
  · simp only [Act.put, List.setIfInBounds_toArray, List.set_cons_zero, List.set_cons_succ, i64_w, i32_w]
    rfl
  refine pure_ (i := 8) (N := some 21) (v := ?_) (a' := ?_) #[true, true, true, true, true, true, true, true, true, false, false, false] rfl rfl (by kernel_rfl) (fun _ _ _ h => h) (Or.inl ⟨by rfl, ?_⟩) ?_ ?_
  rotate_left
  · intro w'
    go_simp
    with_reducible rfl
  rotate_left
  · simp only [Act.put, List.setIfInBounds_toArray, List.set_cons_zero, List.set_cons_succ, i64_w, i32_w]
    rfl
  refine pure_ (i := 9) (N := some 22) (v := ?_) (a' := ?_) #[true, true, true, true, true, true, true, true, true, true, false, false] rfl rfl (by kernel_rfl) (fun _ _ _ h => h) (Or.inl ⟨by rfl, ?_⟩) ?_ ?_
  rotate_left
  · intro w'
    go_simp
    with_reducible rfl
  rotate_left
  · simp only [Act.put, List.setIfInBounds_toArray, List.set_cons_zero, List.set_cons_succ, i64_w, i32_w]
    rfl
  refine pure_ (i := 10) (N := some 7) (v := ?_) (a' := ?_) #[true, true, true, true, true, true, true, true, true, true, true, false] rfl rfl (by kernel_rfl) (fun _ _ _ h => h) (Or.inl ⟨by rfl, ?_⟩) ?_ ?_
  rotate_left
  · intro w'
    go_simp
    with_reducible rfl
  rotate_left
  · simp only [Act.put, List.setIfInBounds_toArray, List.set_cons_zero, List.set_cons_succ, i64_w, i32_w]
    rfl
  refine pure_ (i := 11) (N := some 8) (v := ?_) (a' := ?_) #[true, true, true, true, true, true, true, true, true, true, true, true] rfl rfl (by kernel_rfl) (fun _ _ _ h => h) (Or.inl ⟨by rfl, ?_⟩) ?_ ?_
  rotate_left
  · intro w'
    go_simp
    with_reducible rfl
  rotate_left
  · simp only [Act.put, List.setIfInBounds_toArray, List.set_cons_zero, List.set_cons_succ, i64_w, i32_w]
    rfl
  refine done_ (by kernel_rfl) ?_
  have HB := Aside0.mk hb
  clear hb hHeld h1_ h2_
  have hb := HB.out
  clear HB
  have k_ := (a0_.below hb).cell_0
  have f_ := (a0_.below hb).fz 0
  by_cases h0 : e0 ≠ 0
  · have hr := R0.out
    rw [if_pos h0] at hr
    subst hr
    clear R0
    have h0b : (e0 != 0) = true := bne_iff_ne.mpr h0
    clear h0
    have z1_ := z0_.below hb
    have b1_ := bk b0_ (Nat.le_of_lt (Nat.lt_of_le_of_lt (by omega) z0_.lt)) hb
    clear a0_ z0_ b0_ hb c0_
    have f0_ := z1_.fz 0
    have k0_ := z1_.cell_0
    have f1_ := z1_.fz 1
    have k1_ := z1_.cell_1
    have f2_ := z1_.fz 2
    have k2_ := z1_.cell_2
    have f3_ := z1_.fz 3
    have k3_ := z1_.cell_3
    have f4_ := z1_.fz 4
    have k4_ := z1_.cell_4
    go_wp2_with fail
    (try simp only [Exit.inBlock, Exit.then])
    exact bodyPost_ret (results_vt rfl _ _ (g + 2) rfl (z1_.five _ _ _ _ _)) rfl ⟨rfl, by first | exact below_five b1_ (by omega) _ _ _ _ _ | exact below_is hg (below_five b1_ (by omega) _ _ _ _ _)⟩
  have R1 := Aside0.mk ((if_neg h0).symm.trans R0.out)
  clear R0
  have h0b : (e0 != 0) = false := by simpa using h0
  clear h0
  obtain ⟨W1, hW1⟩ : ∃ W, V0.setCell ⟨g, 0, none⟩ (.int .i64 n0) = W := ⟨_, rfl⟩
  have a1_ : At W1 g n0 b c d e := by rw [← hW1]; exact (a0_.below hb).set_0 _
  have c1_ : At W1 (g + 1) a' b' c' d' e' := by rw [← hW1]; exact (c0_.below hb).other _ _ (by omega)
  have z1_ : At W1 (g + 2) 0 0 0 0 0 := by rw [← hW1]; exact (z0_.below hb).other _ _ (by omega)
  have b1_ : Below g w W1 := by rw [← hW1]; exact (bk b0_ (Nat.le_of_lt a0_.lt) hb).setCell (Nat.le_refl _) _
  clear a0_ z0_ b0_ hb c0_
  go_wp2_with fail
  clear k_ f_ hW1 h0b
  rw [rounds_succ]
  have h1_ := a1_.cell_1
  have h2_ := c1_.cell_1
  go_wp2_with fail
  refine start_ (n := 12) (S := fun w' => w'.cell? ⟨g, 1, none⟩ = some (.int .i64 b) ∧ w'.cell? ⟨g + 1, 1, none⟩ = some (.int .i64 b')) (ds := []) #[false, false, false, false, false, false, false, false, false, false, false, false] (by kernel_rfl) rfl rfl ⟨h1_, h2_⟩ (fun hHeld => ?_)
  refine pure_ (i := 0) (N := some 14) (v := ?_) (a' := ?_) #[true, false, false, false, false, false, false, false, false, false, false, false] rfl rfl (by kernel_rfl) (fun _ _ _ h => h) (Or.inl ⟨by rfl, ?_⟩) ?_ ?_
  rotate_left
  · intro w'
    go_simp
    with_reducible rfl
  rotate_left
  · simp only [Act.put, List.setIfInBounds_toArray, List.set_cons_zero, List.set_cons_succ, i64_w, i32_w]
    rfl
  refine pure_ (i := 1) (N := some 15) (v := ?_) (a' := ?_) #[true, true, false, false, false, false, false, false, false, false, false, false] rfl rfl (by kernel_rfl) (fun _ _ _ h => h) (Or.inl ⟨by rfl, ?_⟩) ?_ ?_
  rotate_left
  · intro w'
    go_simp
    with_reducible rfl
  rotate_left
  · simp only [Act.put, List.setIfInBounds_toArray, List.set_cons_zero, List.set_cons_succ, i64_w, i32_w]
    rfl
  refine pure_ (i := 3) (N := some 17) (v := ?_) (a' := ?_) #[true, true, false, true, false, false, false, false, false, false, false, false] rfl rfl (by kernel_rfl) (fun _ _ _ h => h) (Or.inl ⟨by rfl, ?_⟩) ?_ ?_
  rotate_left
  · intro w'
    go_simp
    with_reducible rfl
  rotate_left
  · simp only [Act.put, List.setIfInBounds_toArray, List.set_cons_zero, List.set_cons_succ, i64_w, i32_w]
    rfl
  refine pure_ (i := 4) (N := some 18) (v := ?_) (a' := ?_) #[true, true, false, true, true, false, false, false, false, false, false, false] rfl rfl (by kernel_rfl) (fun _ _ _ h => h) (Or.inl ⟨by rfl, ?_⟩) ?_ ?_
  rotate_left
  · intro w'
    go_simp
    with_reducible rfl
  rotate_left
  · simp only [Act.put, List.setIfInBounds_toArray, List.set_cons_zero, List.set_cons_succ, i64_w, i32_w]
    rfl
  refine take_ (i := 2) (N := some 16) (v := ?_) (a' := ?_) #[true, true, true, true, true, false, false, false, false, false, false, false] rfl rfl (by kernel_rfl) (fun _ _ _ h => h) (Or.inl ⟨by rfl, ?_⟩) hHeld ?_ ?_
  rotate_left
  · rintro w' ⟨s0, s1⟩
    go_simp
    with_reducible rfl
  rotate_left
  · simp only [Act.put, List.setIfInBounds_toArray, List.set_cons_zero, List.set_cons_succ, i64_w, i32_w]
    rfl
  refine take_ (i := 5) (N := some 19) (v := ?_) (a' := ?_) #[true, true, true, true, true, true, false, false, false, false, false, false] rfl rfl (by kernel_rfl) (fun _ _ _ h => h) (Or.inl ⟨by rfl, ?_⟩) hHeld ?_ ?_
  rotate_left
  · rintro w' ⟨s0, s1⟩
    go_simp
    with_reducible rfl
  rotate_left
  · simp only [Act.put, List.setIfInBounds_toArray, List.set_cons_zero, List.set_cons_succ, i64_w, i32_w]
    rfl
  refine one_ (i := 6) (N := some 20) #[true, true, true, true, true, true, true, false, false, false, false, false] rfl rfl (by kernel_rfl) (by decide) (fun K hK => ?_)
  refine goes_ Tryd.func48 (by kernel_rfl) rfl #[.int .i64 b, .int .i64 b'] (by rfl) rfl rfl (by simp only [List.map_toArray, List.map_cons, List.map_nil]; rfl) ?_
  with_reducible refine (C1.out _).mono ?_
  rintro e_ V1 ⟨rfl, hd⟩
  refine ⟨_, rfl, ?_⟩
  have hb := bd hd.below
  clear hd
  refine hK.out _ _ ⟨((hb.cell a1_.lt).trans hHeld.1), ((hb.cell c1_.lt).trans hHeld.2)⟩ (fun hHeld => ?_)
  clear hK K
  refine norm_ (a' := ?_) ?_ ?_
  rotate_left
  · show Act.put _ (some 20) _ = _
    simp only [Act.put, List.setIfInBounds_toArray, List.set_cons_zero, List.set_cons_succ, i64_w, i32_w]
    rfl
  refine pure_ (i := 7) (N := some 13) (v := ?_) (a' := ?_) #[true, true, true, true, true, true, true, true, false, false, false, false] rfl rfl (by kernel_rfl) (fun _ _ _ h => h) (Or.inl ⟨by rfl, ?_⟩) ?_ ?_
  rotate_left
  · intro w'
    go_simp
    with_reducible rfl
  rotate_left
  · simp only [Act.put, List.setIfInBounds_toArray, List.set_cons_zero, List.set_cons_succ, i64_w, i32_w]
    rfl
  refine pure_ (i := 8) (N := some 21) (v := ?_) (a' := ?_) #[true, true, true, true, true, true, true, true, true, false, false, false] rfl rfl (by kernel_rfl) (fun _ _ _ h => h) (Or.inl ⟨by rfl, ?_⟩) ?_ ?_
  rotate_left
  · intro w'
    go_simp
    with_reducible rfl
  rotate_left
  · simp only [Act.put, List.setIfInBounds_toArray, List.set_cons_zero, List.set_cons_succ, i64_w, i32_w]
    rfl
  refine pure_ (i := 9) (N := some 22) (v := ?_) (a' := ?_) #[true, true, true, true, true, true, true, true, true, true, false, false] rfl rfl (by kernel_rfl) (fun _ _ _ h => h) (Or.inl ⟨by rfl, ?_⟩) ?_ ?_
  rotate_left
  · intro w'
    go_simp
    with_reducible rfl
  rotate_left
  · simp only [Act.put, List.setIfInBounds_toArray, List.set_cons_zero, List.set_cons_succ, i64_w, i32_w]
    rfl
  refine pure_ (i := 10) (N := some 7) (v := ?_) (a' := ?_) #[true, true, true, true, true, true, true, true, true, true, true, false] rfl rfl (by kernel_rfl) (fun _ _ _ h => h) (Or.inl ⟨by rfl, ?_⟩) ?_ ?_
  rotate_left
  · intro w'
    go_simp
    with_reducible rfl
  rotate_left
  · simp only [Act.put, List.setIfInBounds_toArray, List.set_cons_zero, List.set_cons_succ, i64_w, i32_w]
    rfl
  refine pure_ (i := 11) (N := some 8) (v := ?_) (a' := ?_) #[true, true, true, true, true, true, true, true, true, true, true, true] rfl rfl (by kernel_rfl) (fun _ _ _ h => h) (Or.inl ⟨by rfl, ?_⟩) ?_ ?_
  rotate_left
  · intro w'
    go_simp
    with_reducible rfl
  rotate_left
  · simp only [Act.put, List.setIfInBounds_toArray, List.set_cons_zero, List.set_cons_succ, i64_w, i32_w]
    rfl
  refine done_ (by kernel_rfl) ?_
  have HB := Aside0.mk hb
  clear hb hHeld h1_ h2_
  have hb := HB.out
  clear HB
  have k_ := (a1_.below hb).cell_1
  have f_ := (a1_.below hb).fz 1
  by_cases h1 : e1 ≠ 0
  · have hr := R1.out
    rw [if_pos h1] at hr
    subst hr
    clear R1
    have h1b : (e1 != 0) = true := bne_iff_ne.mpr h1
    clear h1
    have z2_ := z1_.below hb
    have b2_ := bk b1_ (Nat.le_of_lt (Nat.lt_of_le_of_lt (by omega) z1_.lt)) hb
    clear a1_ z1_ b1_ hb c1_
    have f0_ := z2_.fz 0
    have k0_ := z2_.cell_0
    have f1_ := z2_.fz 1
    have k1_ := z2_.cell_1
    have f2_ := z2_.fz 2
    have k2_ := z2_.cell_2
    have f3_ := z2_.fz 3
    have k3_ := z2_.cell_3
    have f4_ := z2_.fz 4
    have k4_ := z2_.cell_4
    go_wp2_with fail
    (try simp only [Exit.inBlock, Exit.then])
    exact bodyPost_ret (results_vt rfl _ _ (g + 2) rfl (z2_.five _ _ _ _ _)) rfl ⟨rfl, by first | exact below_five b2_ (by omega) _ _ _ _ _ | exact below_is hg (below_five b2_ (by omega) _ _ _ _ _)⟩
  have R2 := Aside0.mk ((if_neg h1).symm.trans R1.out)
  clear R1
  have h1b : (e1 != 0) = false := by simpa using h1
  clear h1
  obtain ⟨W2, hW2⟩ : ∃ W, V1.setCell ⟨g, 1, none⟩ (.int .i64 n1) = W := ⟨_, rfl⟩
  have a2_ : At W2 g n0 n1 c d e := by rw [← hW2]; exact (a1_.below hb).set_1 _
  have c2_ : At W2 (g + 1) a' b' c' d' e' := by rw [← hW2]; exact (c1_.below hb).other _ _ (by omega)
  have z2_ : At W2 (g + 2) 0 0 0 0 0 := by rw [← hW2]; exact (z1_.below hb).other _ _ (by omega)
  have b2_ : Below g w W2 := by rw [← hW2]; exact (bk b1_ (Nat.le_of_lt a1_.lt) hb).setCell (Nat.le_refl _) _
  clear a1_ z1_ b1_ hb c1_
  go_wp2_with fail
  clear k_ f_ hW2 h1b
  rw [rounds_succ]
  have h1_ := a2_.cell_2
  have h2_ := c2_.cell_2
  go_wp2_with fail
  refine start_ (n := 12) (S := fun w' => w'.cell? ⟨g, 2, none⟩ = some (.int .i64 c) ∧ w'.cell? ⟨g + 1, 2, none⟩ = some (.int .i64 c')) (ds := []) #[false, false, false, false, false, false, false, false, false, false, false, false] (by kernel_rfl) rfl rfl ⟨h1_, h2_⟩ (fun hHeld => ?_)
  refine pure_ (i := 0) (N := some 14) (v := ?_) (a' := ?_) #[true, false, false, false, false, false, false, false, false, false, false, false] rfl rfl (by kernel_rfl) (fun _ _ _ h => h) (Or.inl ⟨by rfl, ?_⟩) ?_ ?_
  rotate_left
  · intro w'
    go_simp
    with_reducible rfl
  rotate_left
  · simp only [Act.put, List.setIfInBounds_toArray, List.set_cons_zero, List.set_cons_succ, i64_w, i32_w]
    rfl
  refine pure_ (i := 1) (N := some 15) (v := ?_) (a' := ?_) #[true, true, false, false, false, false, false, false, false, false, false, false] rfl rfl (by kernel_rfl) (fun _ _ _ h => h) (Or.inl ⟨by rfl, ?_⟩) ?_ ?_
  rotate_left
  · intro w'
    go_simp
    with_reducible rfl
  rotate_left
  · simp only [Act.put, List.setIfInBounds_toArray, List.set_cons_zero, List.set_cons_succ, i64_w, i32_w]
    rfl
  refine pure_ (i := 3) (N := some 17) (v := ?_) (a' := ?_) #[true, true, false, true, false, false, false, false, false, false, false, false] rfl rfl (by kernel_rfl) (fun _ _ _ h => h) (Or.inl ⟨by rfl, ?_⟩) ?_ ?_
  rotate_left
  · intro w'
    go_simp
    with_reducible rfl
  rotate_left
  · simp only [Act.put, List.setIfInBounds_toArray, List.set_cons_zero, List.set_cons_succ, i64_w, i32_w]
    rfl
  refine pure_ (i := 4) (N := some 18) (v := ?_) (a' := ?_) #[true, true, false, true, true, false, false, false, false, false, false, false] rfl rfl (by kernel_rfl) (fun _ _ _ h => h) (Or.inl ⟨by rfl, ?_⟩) ?_ ?_
  rotate_left
  · intro w'
    go_simp
    with_reducible rfl
  rotate_left
  · simp only [Act.put, List.setIfInBounds_toArray, List.set_cons_zero, List.set_cons_succ, i64_w, i32_w]
    rfl
  refine take_ (i := 2) (N := some 16) (v := ?_) (a' := ?_) #[true, true, true, true, true, false, false, false, false, false, false, false] rfl rfl (by kernel_rfl) (fun _ _ _ h => h) (Or.inl ⟨by rfl, ?_⟩) hHeld ?_ ?_
  rotate_left
  · rintro w' ⟨s0, s1⟩
    go_simp
    with_reducible rfl
  rotate_left
  · simp only [Act.put, List.setIfInBounds_toArray, List.set_cons_zero, List.set_cons_succ, i64_w, i32_w]
    rfl
  refine take_ (i := 5) (N := some 19) (v := ?_) (a' := ?_) #[true, true, true, true, true, true, false, false, false, false, false, false] rfl rfl (by kernel_rfl) (fun _ _ _ h => h) (Or.inl ⟨by rfl, ?_⟩) hHeld ?_ ?_
  rotate_left
  · rintro w' ⟨s0, s1⟩
    go_simp
    with_reducible rfl
  rotate_left
  · simp only [Act.put, List.setIfInBounds_toArray, List.set_cons_zero, List.set_cons_succ, i64_w, i32_w]
    rfl
  refine one_ (i := 6) (N := some 20) #[true, true, true, true, true, true, true, false, false, false, false, false] rfl rfl (by kernel_rfl) (by decide) (fun K hK => ?_)
  refine goes_ Tryd.func48 (by kernel_rfl) rfl #[.int .i64 c, .int .i64 c'] (by rfl) rfl rfl (by simp only [List.map_toArray, List.map_cons, List.map_nil]; rfl) ?_
  with_reducible refine (C2.out _).mono ?_
  rintro e_ V2 ⟨rfl, hd⟩
  refine ⟨_, rfl, ?_⟩
  have hb := bd hd.below
  clear hd
  refine hK.out _ _ ⟨((hb.cell a2_.lt).trans hHeld.1), ((hb.cell c2_.lt).trans hHeld.2)⟩ (fun hHeld => ?_)
  clear hK K
  refine norm_ (a' := ?_) ?_ ?_
  rotate_left
  · show Act.put _ (some 20) _ = _
    simp only [Act.put, List.setIfInBounds_toArray, List.set_cons_zero, List.set_cons_succ, i64_w, i32_w]
    rfl
  refine pure_ (i := 7) (N := some 13) (v := ?_) (a' := ?_) #[true, true, true, true, true, true, true, true, false, false, false, false] rfl rfl (by kernel_rfl) (fun _ _ _ h => h) (Or.inl ⟨by rfl, ?_⟩) ?_ ?_
  rotate_left
  · intro w'
    go_simp
    with_reducible rfl
  rotate_left
  · simp only [Act.put, List.setIfInBounds_toArray, List.set_cons_zero, List.set_cons_succ, i64_w, i32_w]
    rfl
  refine pure_ (i := 8) (N := some 21) (v := ?_) (a' := ?_) #[true, true, true, true, true, true, true, true, true, false, false, false] rfl rfl (by kernel_rfl) (fun _ _ _ h => h) (Or.inl ⟨by rfl, ?_⟩) ?_ ?_
  rotate_left
  · intro w'
    go_simp
    with_reducible rfl
  rotate_left
  · simp only [Act.put, List.setIfInBounds_toArray, List.set_cons_zero, List.set_cons_succ, i64_w, i32_w]
    rfl
  refine pure_ (i := 9) (N := some 22) (v := ?_) (a' := ?_) #[true, true, true, true, true, true, true, true, true, true, false, false] rfl rfl (by kernel_rfl) (fun _ _ _ h => h) (Or.inl ⟨by rfl, ?_⟩) ?_ ?_
  rotate_left
  · intro w'
    go_simp
    with_reducible rfl
  rotate_left
  · simp only [Act.put, List.setIfInBounds_toArray, List.set_cons_zero, List.set_cons_succ, i64_w, i32_w]
    rfl
  refine pure_ (i := 10) (N := some 7) (v := ?_) (a' := ?_) #[true, true, true, true, true, true, true, true, true, true, true, false] rfl rfl (by kernel_rfl) (fun _ _ _ h => h) (Or.inl ⟨by rfl, ?_⟩) ?_ ?_
  rotate_left
  · intro w'
    go_simp
    with_reducible rfl
  rotate_left
  · simp only [Act.put, List.setIfInBounds_toArray, List.set_cons_zero, List.set_cons_succ, i64_w, i32_w]
    rfl
  refine pure_ (i := 11) (N := some 8) (v := ?_) (a' := ?_) #[true, true, true, true, true, true, true, true, true, true, true, true] rfl rfl (by kernel_rfl) (fun _ _ _ h => h) (Or.inl ⟨by rfl, ?_⟩) ?_ ?_
  rotate_left
  · intro w'
    go_simp
    with_reducible rfl
  rotate_left
  · simp only [Act.put, List.setIfInBounds_toArray, List.set_cons_zero, List.set_cons_succ, i64_w, i32_w]
    rfl
  refine done_ (by kernel_rfl) ?_
  have HB := Aside0.mk hb
  clear hb hHeld h1_ h2_
  have hb := HB.out
  clear HB
  have k_ := (a2_.below hb).cell_2
  have f_ := (a2_.below hb).fz 2
  by_cases h2 : e2 ≠ 0
  · have hr := R2.out
    rw [if_pos h2] at hr
    subst hr
    clear R2
    have h2b : (e2 != 0) = true := bne_iff_ne.mpr h2
    clear h2
    have z3_ := z2_.below hb
    have b3_ := bk b2_ (Nat.le_of_lt (Nat.lt_of_le_of_lt (by omega) z2_.lt)) hb
    clear a2_ z2_ b2_ hb c2_
    have f0_ := z3_.fz 0
    have k0_ := z3_.cell_0
    have f1_ := z3_.fz 1
    have k1_ := z3_.cell_1
    have f2_ := z3_.fz 2
    have k2_ := z3_.cell_2
    have f3_ := z3_.fz 3
    have k3_ := z3_.cell_3
    have f4_ := z3_.fz 4
    have k4_ := z3_.cell_4
    go_wp2_with fail
    (try simp only [Exit.inBlock, Exit.then])
    exact bodyPost_ret (results_vt rfl _ _ (g + 2) rfl (z3_.five _ _ _ _ _)) rfl ⟨rfl, by first | exact below_five b3_ (by omega) _ _ _ _ _ | exact below_is hg (below_five b3_ (by omega) _ _ _ _ _)⟩
  have R3 := Aside0.mk ((if_neg h2).symm.trans R2.out)
  clear R2
  have h2b : (e2 != 0) = false := by simpa using h2
  clear h2
  obtain ⟨W3, hW3⟩ : ∃ W, V2.setCell ⟨g, 2, none⟩ (.int .i64 n2) = W := ⟨_, rfl⟩
  have a3_ : At W3 g n0 n1 n2 d e := by rw [← hW3]; exact (a2_.below hb).set_2 _
  have c3_ : At W3 (g + 1) a' b' c' d' e' := by rw [← hW3]; exact (c2_.below hb).other _ _ (by omega)
  have z3_ : At W3 (g + 2) 0 0 0 0 0 := by rw [← hW3]; exact (z2_.below hb).other _ _ (by omega)
  have b3_ : Below g w W3 := by rw [← hW3]; exact (bk b2_ (Nat.le_of_lt a2_.lt) hb).setCell (Nat.le_refl _) _
  clear a2_ z2_ b2_ hb c2_
  go_wp2_with fail
  clear k_ f_ hW3 h2b
  rw [rounds_succ]
  have h1_ := a3_.cell_3
  have h2_ := c3_.cell_3
  go_wp2_with fail
  refine start_ (n := 12) (S := fun w' => w'.cell? ⟨g, 3, none⟩ = some (.int .i64 d) ∧ w'.cell? ⟨g + 1, 3, none⟩ = some (.int .i64 d')) (ds := []) #[false, false, false, false, false, false, false, false, false, false, false, false] (by kernel_rfl) rfl rfl ⟨h1_, h2_⟩ (fun hHeld => ?_)
  refine pure_ (i := 0) (N := some 14) (v := ?_) (a' := ?_) #[true, false, false, false, false, false, false, false, false, false, false, false] rfl rfl (by kernel_rfl) (fun _ _ _ h => h) (Or.inl ⟨by rfl, ?_⟩) ?_ ?_
  rotate_left
  · intro w'
    go_simp
    with_reducible rfl
  rotate_left
  · simp only [Act.put, List.setIfInBounds_toArray, List.set_cons_zero, List.set_cons_succ, i64_w, i32_w]
    rfl
  refine pure_ (i := 1) (N := some 15) (v := ?_) (a' := ?_) #[true, true, false, false, false, false, false, false, false, false, false, false] rfl rfl (by kernel_rfl) (fun _ _ _ h => h) (Or.inl ⟨by rfl, ?_⟩) ?_ ?_
  rotate_left
  · intro w'
    go_simp
    with_reducible rfl
  rotate_left
  · simp only [Act.put, List.setIfInBounds_toArray, List.set_cons_zero, List.set_cons_succ, i64_w, i32_w]
    rfl
  refine pure_ (i := 3) (N := some 17) (v := ?_) (a' := ?_) #[true, true, false, true, false, false, false, false, false, false, false, false] rfl rfl (by kernel_rfl) (fun _ _ _ h => h) (Or.inl ⟨by rfl, ?_⟩) ?_ ?_
  rotate_left
  · intro w'
    go_simp
    with_reducible rfl
  rotate_left
  · simp only [Act.put, List.setIfInBounds_toArray, List.set_cons_zero, List.set_cons_succ, i64_w, i32_w]
    rfl
  refine pure_ (i := 4) (N := some 18) (v := ?_) (a' := ?_) #[true, true, false, true, true, false, false, false, false, false, false, false] rfl rfl (by kernel_rfl) (fun _ _ _ h => h) (Or.inl ⟨by rfl, ?_⟩) ?_ ?_
  rotate_left
  · intro w'
    go_simp
    with_reducible rfl
  rotate_left
  · simp only [Act.put, List.setIfInBounds_toArray, List.set_cons_zero, List.set_cons_succ, i64_w, i32_w]
    rfl
  refine take_ (i := 2) (N := some 16) (v := ?_) (a' := ?_) #[true, true, true, true, true, false, false, false, false, false, false, false] rfl rfl (by kernel_rfl) (fun _ _ _ h => h) (Or.inl ⟨by rfl, ?_⟩) hHeld ?_ ?_
  rotate_left
  · rintro w' ⟨s0, s1⟩
    go_simp
    with_reducible rfl
  rotate_left
  · simp only [Act.put, List.setIfInBounds_toArray, List.set_cons_zero, List.set_cons_succ, i64_w, i32_w]
    rfl
  refine take_ (i := 5) (N := some 19) (v := ?_) (a' := ?_) #[true, true, true, true, true, true, false, false, false, false, false, false] rfl rfl (by kernel_rfl) (fun _ _ _ h => h) (Or.inl ⟨by rfl, ?_⟩) hHeld ?_ ?_
  rotate_left
  · rintro w' ⟨s0, s1⟩
    go_simp
    with_reducible rfl
  rotate_left
  · simp only [Act.put, List.setIfInBounds_toArray, List.set_cons_zero, List.set_cons_succ, i64_w, i32_w]
    rfl
  refine one_ (i := 6) (N := some 20) #[true, true, true, true, true, true, true, false, false, false, false, false] rfl rfl (by kernel_rfl) (by decide) (fun K hK => ?_)
  refine goes_ Tryd.func48 (by kernel_rfl) rfl #[.int .i64 d, .int .i64 d'] (by rfl) rfl rfl (by simp only [List.map_toArray, List.map_cons, List.map_nil]; rfl) ?_
  with_reducible refine (C3.out _).mono ?_
  rintro e_ V3 ⟨rfl, hd⟩
  refine ⟨_, rfl, ?_⟩
  have hb := bd hd.below
  clear hd
  refine hK.out _ _ ⟨((hb.cell a3_.lt).trans hHeld.1), ((hb.cell c3_.lt).trans hHeld.2)⟩ (fun hHeld => ?_)
  clear hK K
  refine norm_ (a' := ?_) ?_ ?_
  rotate_left
  · show Act.put _ (some 20) _ = _
    simp only [Act.put, List.setIfInBounds_toArray, List.set_cons_zero, List.set_cons_succ, i64_w, i32_w]
    rfl
  refine pure_ (i := 7) (N := some 13) (v := ?_) (a' := ?_) #[true, true, true, true, true, true, true, true, false, false, false, false] rfl rfl (by kernel_rfl) (fun _ _ _ h => h) (Or.inl ⟨by rfl, ?_⟩) ?_ ?_
  rotate_left
  · intro w'
    go_simp
    with_reducible rfl
  rotate_left
  · simp only [Act.put, List.setIfInBounds_toArray, List.set_cons_zero, List.set_cons_succ, i64_w, i32_w]
    rfl
  refine pure_ (i := 8) (N := some 21) (v := ?_) (a' := ?_) #[true, true, true, true, true, true, true, true, true, false, false, false] rfl rfl (by kernel_rfl) (fun _ _ _ h => h) (Or.inl ⟨by rfl, ?_⟩) ?_ ?_
  rotate_left
  · intro w'
    go_simp
    with_reducible rfl
  rotate_left
  · simp only [Act.put, List.setIfInBounds_toArray, List.set_cons_zero, List.set_cons_succ, i64_w, i32_w]
    rfl
  refine pure_ (i := 9) (N := some 22) (v := ?_) (a' := ?_) #[true, true, true, true, true, true, true, true, true, true, false, false] rfl rfl (by kernel_rfl) (fun _ _ _ h => h) (Or.inl ⟨by rfl, ?_⟩) ?_ ?_
  rotate_left
  · intro w'
    go_simp
    with_reducible rfl
  rotate_left
  · simp only [Act.put, List.setIfInBounds_toArray, List.set_cons_zero, List.set_cons_succ, i64_w, i32_w]
    rfl
  refine pure_ (i := 10) (N := some 7) (v := ?_) (a' := ?_) #[true, true, true, true, true, true, true, true, true, true, true, false] rfl rfl (by kernel_rfl) (fun _ _ _ h => h) (Or.inl ⟨by rfl, ?_⟩) ?_ ?_
  rotate_left
  · intro w'
    go_simp
    with_reducible rfl
  rotate_left
  · simp only [Act.put, List.setIfInBounds_toArray, List.set_cons_zero, List.set_cons_succ, i64_w, i32_w]
    rfl
  refine pure_ (i := 11) (N := some 8) (v := ?_) (a' := ?_) #[true, true, true, true, true, true, true, true, true, true, true, true] rfl rfl (by kernel_rfl) (fun _ _ _ h => h) (Or.inl ⟨by rfl, ?_⟩) ?_ ?_
  rotate_left
  · intro w'
    go_simp
    with_reducible rfl
  rotate_left
  · simp only [Act.put, List.setIfInBounds_toArray, List.set_cons_zero, List.set_cons_succ, i64_w, i32_w]
    rfl
  refine done_ (by kernel_rfl) ?_
  have HB := Aside0.mk hb
  clear hb hHeld h1_ h2_
  have hb := HB.out
  clear HB
  have k_ := (a3_.below hb).cell_3
  have f_ := (a3_.below hb).fz 3
  by_cases h3 : e3 ≠ 0
  · have hr := R3.out
    rw [if_pos h3] at hr
    subst hr
    clear R3
    have h3b : (e3 != 0) = true := bne_iff_ne.mpr h3
    clear h3
    have z4_ := z3_.below hb
    have b4_ := bk b3_ (Nat.le_of_lt (Nat.lt_of_le_of_lt (by omega) z3_.lt)) hb
    clear a3_ z3_ b3_ hb c3_
    have f0_ := z4_.fz 0
    have k0_ := z4_.cell_0
    have f1_ := z4_.fz 1
    have k1_ := z4_.cell_1
    have f2_ := z4_.fz 2
    have k2_ := z4_.cell_2
    have f3_ := z4_.fz 3
    have k3_ := z4_.cell_3
    have f4_ := z4_.fz 4
    have k4_ := z4_.cell_4
    go_wp2_with fail
    (try simp only [Exit.inBlock, Exit.then])
    exact bodyPost_ret (results_vt rfl _ _ (g + 2) rfl (z4_.five _ _ _ _ _)) rfl ⟨rfl, by first | exact below_five b4_ (by omega) _ _ _ _ _ | exact below_is hg (below_five b4_ (by omega) _ _ _ _ _)⟩
  have R4 := Aside0.mk ((if_neg h3).symm.trans R3.out)
  clear R3
  have h3b : (e3 != 0) = false := by simpa using h3
  clear h3
  obtain ⟨W4, hW4⟩ : ∃ W, V3.setCell ⟨g, 3, none⟩ (.int .i64 n3) = W := ⟨_, rfl⟩
  have a4_ : At W4 g n0 n1 n2 n3 e := by rw [← hW4]; exact (a3_.below hb).set_3 _
  have c4_ : At W4 (g + 1) a' b' c' d' e' := by rw [← hW4]; exact (c3_.below hb).other _ _ (by omega)
  have z4_ : At W4 (g + 2) 0 0 0 0 0 := by rw [← hW4]; exact (z3_.below hb).other _ _ (by omega)
  have b4_ : Below g w W4 := by rw [← hW4]; exact (bk b3_ (Nat.le_of_lt a3_.lt) hb).setCell (Nat.le_refl _) _
  clear a3_ z3_ b3_ hb c3_
  go_wp2_with fail
  clear k_ f_ hW4 h3b
  rw [rounds_succ]
  have h1_ := a4_.cell_4
  have h2_ := c4_.cell_4
  go_wp2_with fail
  refine start_ (n := 12) (S := fun w' => w'.cell? ⟨g, 4, none⟩ = some (.int .i64 e) ∧ w'.cell? ⟨g + 1, 4, none⟩ = some (.int .i64 e')) (ds := []) #[false, false, false, false, false, false, false, false, false, false, false, false] (by kernel_rfl) rfl rfl ⟨h1_, h2_⟩ (fun hHeld => ?_)
  refine pure_ (i := 0) (N := some 14) (v := ?_) (a' := ?_) #[true, false, false, false, false, false, false, false, false, false, false, false] rfl rfl (by kernel_rfl) (fun _ _ _ h => h) (Or.inl ⟨by rfl, ?_⟩) ?_ ?_
  rotate_left
  · intro w'
    go_simp
    with_reducible rfl
  rotate_left
  · simp only [Act.put, List.setIfInBounds_toArray, List.set_cons_zero, List.set_cons_succ, i64_w, i32_w]
    rfl
  refine pure_ (i := 1) (N := some 15) (v := ?_) (a' := ?_) #[true, true, false, false, false, false, false, false, false, false, false, false] rfl rfl (by kernel_rfl) (fun _ _ _ h => h) (Or.inl ⟨by rfl, ?_⟩) ?_ ?_
  rotate_left
  · intro w'
    go_simp
    with_reducible rfl
  rotate_left
  · simp only [Act.put, List.setIfInBounds_toArray, List.set_cons_zero, List.set_cons_succ, i64_w, i32_w]
    rfl
  refine pure_ (i := 3) (N := some 17) (v := ?_) (a' := ?_) #[true, true, false, true, false, false, false, false, false, false, false, false] rfl rfl (by kernel_rfl) (fun _ _ _ h => h) (Or.inl ⟨by rfl, ?_⟩) ?_ ?_
  rotate_left
  · intro w'
    go_simp
    with_reducible rfl
  rotate_left
  · simp only [Act.put, List.setIfInBounds_toArray, List.set_cons_zero, List.set_cons_succ, i64_w, i32_w]
    rfl
  refine pure_ (i := 4) (N := some 18) (v := ?_) (a' := ?_) #[true, true, false, true, true, false, false, false, false, false, false, false] rfl rfl (by kernel_rfl) (fun _ _ _ h => h) (Or.inl ⟨by rfl, ?_⟩) ?_ ?_
  rotate_left
  · intro w'
    go_simp
    with_reducible rfl
  rotate_left
  · simp only [Act.put, List.setIfInBounds_toArray, List.set_cons_zero, List.set_cons_succ, i64_w, i32_w]
    rfl
  refine take_ (i := 2) (N := some 16) (v := ?_) (a' := ?_) #[true, true, true, true, true, false, false, false, false, false, false, false] rfl rfl (by kernel_rfl) (fun _ _ _ h => h) (Or.inl ⟨by rfl, ?_⟩) hHeld ?_ ?_
  rotate_left
  · rintro w' ⟨s0, s1⟩
    go_simp
    with_reducible rfl
  rotate_left
  · simp only [Act.put, List.setIfInBounds_toArray, List.set_cons_zero, List.set_cons_succ, i64_w, i32_w]
    rfl
  refine take_ (i := 5) (N := some 19) (v := ?_) (a' := ?_) #[true, true, true, true, true, true, false, false, false, false, false, false] rfl rfl (by kernel_rfl) (fun _ _ _ h => h) (Or.inl ⟨by rfl, ?_⟩) hHeld ?_ ?_
  rotate_left
  · rintro w' ⟨s0, s1⟩
    go_simp
    with_reducible rfl
  rotate_left
  · simp only [Act.put, List.setIfInBounds_toArray, List.set_cons_zero, List.set_cons_succ, i64_w, i32_w]
    rfl
  refine one_ (i := 6) (N := some 20) #[true, true, true, true, true, true, true, false, false, false, false, false] rfl rfl (by kernel_rfl) (by decide) (fun K hK => ?_)
  refine goes_ Tryd.func48 (by kernel_rfl) rfl #[.int .i64 e, .int .i64 e'] (by rfl) rfl rfl (by simp only [List.map_toArray, List.map_cons, List.map_nil]; rfl) ?_
  with_reducible refine (C4.out _).mono ?_
  rintro e_ V4 ⟨rfl, hd⟩
  refine ⟨_, rfl, ?_⟩
  have hb := bd hd.below
  clear hd
  refine hK.out _ _ ⟨((hb.cell a4_.lt).trans hHeld.1), ((hb.cell c4_.lt).trans hHeld.2)⟩ (fun hHeld => ?_)
  clear hK K
  refine norm_ (a' := ?_) ?_ ?_
  rotate_left
  · show Act.put _ (some 20) _ = _
    simp only [Act.put, List.setIfInBounds_toArray, List.set_cons_zero, List.set_cons_succ, i64_w, i32_w]
    rfl
  refine pure_ (i := 7) (N := some 13) (v := ?_) (a' := ?_) #[true, true, true, true, true, true, true, true, false, false, false, false] rfl rfl (by kernel_rfl) (fun _ _ _ h => h) (Or.inl ⟨by rfl, ?_⟩) ?_ ?_
  rotate_left
  · intro w'
    go_simp
    with_reducible rfl
  rotate_left
  · simp only [Act.put, List.setIfInBounds_toArray, List.set_cons_zero, List.set_cons_succ, i64_w, i32_w]
    rfl
  refine pure_ (i := 8) (N := some 21) (v := ?_) (a' := ?_) #[true, true, true, true, true, true, true, true, true, false, false, false] rfl rfl (by kernel_rfl) (fun _ _ _ h => h) (Or.inl ⟨by rfl, ?_⟩) ?_ ?_
  rotate_left
  · intro w'
    go_simp
    with_reducible rfl
  rotate_left
  · simp only [Act.put, List.setIfInBounds_toArray, List.set_cons_zero, List.set_cons_succ, i64_w, i32_w]
    rfl
  refine pure_ (i := 9) (N := some 22) (v := ?_) (a' := ?_) #[true, true, true, true, true, true, true, true, true, true, false, false] rfl rfl (by kernel_rfl) (fun _ _ _ h => h) (Or.inl ⟨by rfl, ?_⟩) ?_ ?_
  rotate_left
  · intro w'
    go_simp
    with_reducible rfl
  rotate_left
  · simp only [Act.put, List.setIfInBounds_toArray, List.set_cons_zero, List.set_cons_succ, i64_w, i32_w]
    rfl
  refine pure_ (i := 10) (N := some 7) (v := ?_) (a' := ?_) #[true, true, true, true, true, true, true, true, true, true, true, false] rfl rfl (by kernel_rfl) (fun _ _ _ h => h) (Or.inl ⟨by rfl, ?_⟩) ?_ ?_
  rotate_left
  · intro w'
    go_simp
    with_reducible rfl
  rotate_left
  · simp only [Act.put, List.setIfInBounds_toArray, List.set_cons_zero, List.set_cons_succ, i64_w, i32_w]
    rfl
  refine pure_ (i := 11) (N := some 8) (v := ?_) (a' := ?_) #[true, true, true, true, true, true, true, true, true, true, true, true] rfl rfl (by kernel_rfl) (fun _ _ _ h => h) (Or.inl ⟨by rfl, ?_⟩) ?_ ?_
  rotate_left
  · intro w'
    go_simp
    with_reducible rfl
  rotate_left
  · simp only [Act.put, List.setIfInBounds_toArray, List.set_cons_zero, List.set_cons_succ, i64_w, i32_w]
    rfl
  refine done_ (by kernel_rfl) ?_
  have HB := Aside0.mk hb
  clear hb hHeld h1_ h2_
  have hb := HB.out
  clear HB
  have k_ := (a4_.below hb).cell_4
  have f_ := (a4_.below hb).fz 4
  by_cases h4 : e4 ≠ 0
  · have hr := R4.out
    rw [if_pos h4] at hr
    subst hr
    clear R4
    have h4b : (e4 != 0) = true := bne_iff_ne.mpr h4
    clear h4
    have z5_ := z4_.below hb
    have b5_ := bk b4_ (Nat.le_of_lt (Nat.lt_of_le_of_lt (by omega) z4_.lt)) hb
    clear a4_ z4_ b4_ hb c4_
    have f0_ := z5_.fz 0
    have k0_ := z5_.cell_0
    have f1_ := z5_.fz 1
    have k1_ := z5_.cell_1
    have f2_ := z5_.fz 2
    have k2_ := z5_.cell_2
    have f3_ := z5_.fz 3
    have k3_ := z5_.cell_3
    have f4_ := z5_.fz 4
    have k4_ := z5_.cell_4
    go_wp2_with fail
    (try simp only [Exit.inBlock, Exit.then])
    exact bodyPost_ret (results_vt rfl _ _ (g + 2) rfl (z5_.five _ _ _ _ _)) rfl ⟨rfl, by first | exact below_five b5_ (by omega) _ _ _ _ _ | exact below_is hg (below_five b5_ (by omega) _ _ _ _ _)⟩
  have R5 := Aside0.mk ((if_neg h4).symm.trans R4.out)
  clear R4
  have h4b : (e4 != 0) = false := by simpa using h4
  clear h4
  obtain ⟨W5, hW5⟩ : ∃ W, V4.setCell ⟨g, 4, none⟩ (.int .i64 n4) = W := ⟨_, rfl⟩
  have a5_ : At W5 g n0 n1 n2 n3 n4 := by rw [← hW5]; exact (a4_.below hb).set_4 _
  have c5_ : At W5 (g + 1) a' b' c' d' e' := by rw [← hW5]; exact (c4_.below hb).other _ _ (by omega)
  have z5_ : At W5 (g + 2) 0 0 0 0 0 := by rw [← hW5]; exact (z4_.below hb).other _ _ (by omega)
  have b5_ : Below g w W5 := by rw [← hW5]; exact (bk b4_ (Nat.le_of_lt a4_.lt) hb).setCell (Nat.le_refl _) _
  clear a4_ z4_ b4_ hb c4_
  go_wp2_with fail
  clear k_ f_ hW5 h4b
  have f0_ := z5_.fz 0
  have k0_ := z5_.cell_0
  have j0_ := a5_.cell_0
  have f1_ := z5_.fz 1
  have k1_ := z5_.cell_1
  have j1_ := a5_.cell_1
  have f2_ := z5_.fz 2
  have k2_ := z5_.cell_2
  have j2_ := a5_.cell_2
  have f3_ := z5_.fz 3
  have k3_ := z5_.cell_3
  have j3_ := a5_.cell_3
  have f4_ := z5_.fz 4
  have k4_ := z5_.cell_4
  have j4_ := a5_.cell_4
  have hr := R5.out
  subst hr
  clear R5
  rw [rounds_succ]
  go_wp2_with fail
  (try simp only [Exit.inBlock, Exit.then])
  exact bodyPost_ret (results_vt rfl _ _ (g + 2) rfl (z5_.five _ _ _ _ _)) rfl ⟨rfl, by first | exact below_five b5_ (by omega) _ _ _ _ _ | exact below_is hg (below_five b5_ (by omega) _ _ _ _ _)⟩
set_option maxRecDepth 100000 in
set_option maxHeartbeats 4000000 in
theorem rtimes_c (a b c d e n : Int) (w : World) :
    Calls Tryd.prog 23 #[.agg #[.int .i64 a, .int .i64 b, .int .i64 c, .int .i64 d, .int .i64 e], .int .i64 n] w fun e_ w' => e_ = .returned (.tuple #[(V.times ⟨a, b, c, d, e⟩ n).1.val, .int .i64 (V.times ⟨a, b, c, d, e⟩ n).2]) ∧ Below w.heap.size w w' := by
  obtain ⟨g, hg⟩ : ∃ g, w.heap.size = g := ⟨_, rfl⟩
  obtain ⟨W0, hW0⟩ : ∃ W, ((w).alloc (.cells #[.int .i64 a, .int .i64 b, .int .i64 c, .int .i64 d, .int .i64 e] 23)).alloc (.cells #[.int .i64 0, .int .i64 0, .int .i64 0, .int .i64 0, .int .i64 0] 23) = W := ⟨_, rfl⟩
  have a0_ : At W0 g a b c d e := by rw [← hW0, ← hg]; exact ((At.new w a b c d e).alloc _)
  have z0_ : At W0 (g + 1) 0 0 0 0 0 := by rw [← hW0, ← hg]; simpa using (At.new (w.alloc (.cells #[.int .i64 a, .int .i64 b, .int .i64 c, .int .i64 d, .int .i64 e] 23)) 0 0 0 0 0)
  have b0_ : Below g w W0 := by rw [← hW0, ← hg]; apply below_alloc; apply below_alloc; exact Below.refl _ _
  obtain ⟨R, hR⟩ : ∃ R, V.times ⟨a, b, c, d, e⟩ n = R := ⟨_, rfl⟩
  rw [hR]
  replace hR : ((if (mulS a n).2 ≠ 0 then (⟨0, 0, 0, 0, 0⟩, (mulS a n).2) else (if (mulS b n).2 ≠ 0 then (⟨0, 0, 0, 0, 0⟩, (mulS b n).2) else (if (mulS c n).2 ≠ 0 then (⟨0, 0, 0, 0, 0⟩, (mulS c n).2) else (if (mulS d n).2 ≠ 0 then (⟨0, 0, 0, 0, 0⟩, (mulS d n).2) else (if (mulS e n).2 ≠ 0 then (⟨0, 0, 0, 0, 0⟩, (mulS e n).2) else (⟨(mulS a n).1, (mulS b n).1, (mulS c n).1, (mulS d n).1, (mulS e n).1⟩, 0)))))) : V × Int) = R := hR
  obtain ⟨n0, e0, q0⟩ : ∃ n_ q_, mulS a n = (n_, q_) := ⟨_, _, rfl⟩
  have C0 := Aside0.mk (fun W => drayageref01_Mul.calls 5 a n n0 e0 W ((refMul_f a n 4).trans (congrArg some q0)))
  rw [q0] at hR
  clear q0
  obtain ⟨n1, e1, q1⟩ : ∃ n_ q_, mulS b n = (n_, q_) := ⟨_, _, rfl⟩
  have C1 := Aside0.mk (fun W => drayageref01_Mul.calls 5 b n n1 e1 W ((refMul_f b n 4).trans (congrArg some q1)))
  rw [q1] at hR
  clear q1
  obtain ⟨n2, e2, q2⟩ : ∃ n_ q_, mulS c n = (n_, q_) := ⟨_, _, rfl⟩
  have C2 := Aside0.mk (fun W => drayageref01_Mul.calls 5 c n n2 e2 W ((refMul_f c n 4).trans (congrArg some q2)))
  rw [q2] at hR
  clear q2
  obtain ⟨n3, e3, q3⟩ : ∃ n_ q_, mulS d n = (n_, q_) := ⟨_, _, rfl⟩
  have C3 := Aside0.mk (fun W => drayageref01_Mul.calls 5 d n n3 e3 W ((refMul_f d n 4).trans (congrArg some q3)))
  rw [q3] at hR
  clear q3
  obtain ⟨n4, e4, q4⟩ : ∃ n_ q_, mulS e n = (n_, q_) := ⟨_, _, rfl⟩
  have C4 := Aside0.mk (fun W => drayageref01_Mul.calls 5 e n n4 e4 W ((refMul_f e n 4).trans (congrArg some q4)))
  rw [q4] at hR
  clear q4
  dsimp only at hR
  have R0 := Aside0.mk hR
  clear hR
  go_enter Tryd.func23, Tryd.ntmps23
  go_wp2_with fail
  refine wp_loop_rounds 6 ?_
  rw [rounds_succ]
  have h1_ := a0_.cell_0
  go_wp2_with fail
  refine (C0.out _).mono ?_
  rintro _ V0 ⟨rfl, hd⟩
  have HB := Aside0.mk hd.below
  clear hd h1_
  have hb := HB.out
  clear HB
  have k_ := (a0_.below hb).cell_0
  have f_ := (a0_.below hb).fz 0
  by_cases h0 : e0 ≠ 0
  · have hr := R0.out
    rw [if_pos h0] at hr
    subst hr
    clear R0
    have h0b : (e0 != 0) = true := bne_iff_ne.mpr h0
    clear h0
    have z1_ := z0_.below hb
    have b1_ := bk b0_ (Nat.le_of_lt (Nat.lt_of_le_of_lt (by omega) z0_.lt)) hb
    clear a0_ z0_ b0_ hb 
    have f0_ := z1_.fz 0
    have k0_ := z1_.cell_0
    have f1_ := z1_.fz 1
    have k1_ := z1_.cell_1
    have f2_ := z1_.fz 2
    have k2_ := z1_.cell_2
    have f3_ := z1_.fz 3
    have k3_ := z1_.cell_3
    have f4_ := z1_.fz 4
    have k4_ := z1_.cell_4
    go_wp2_with fail
    (try simp only [Exit.inBlock, Exit.then])
    exact bodyPost_ret (results_vt rfl _ _ (g + 1) rfl (z1_.five _ _ _ _ _)) rfl ⟨rfl, by first | exact below_five b1_ (by omega) _ _ _ _ _ | exact below_is hg (below_five b1_ (by omega) _ _ _ _ _)⟩
  have R1 := Aside0.mk ((if_neg h0).symm.trans R0.out)
  clear R0
  have h0b : (e0 != 0) = false := by simpa using h0
  clear h0
  obtain ⟨W1, hW1⟩ : ∃ W, V0.setCell ⟨g, 0, none⟩ (.int .i64 n0) = W := ⟨_, rfl⟩
  have a1_ : At W1 g n0 b c d e := by rw [← hW1]; exact (a0_.below hb).set_0 _
  have z1_ : At W1 (g + 1) 0 0 0 0 0 := by rw [← hW1]; exact (z0_.below hb).other _ _ (by omega)
  have b1_ : Below g w W1 := by rw [← hW1]; exact (bk b0_ (Nat.le_of_lt a0_.lt) hb).setCell (Nat.le_refl _) _
  clear a0_ z0_ b0_ hb 
  go_wp2_with fail
  clear k_ f_ hW1 h0b
  rw [rounds_succ]
  have h1_ := a1_.cell_1
  go_wp2_with fail
  refine (C1.out _).mono ?_
  rintro _ V1 ⟨rfl, hd⟩
  have HB := Aside0.mk hd.below
  clear hd h1_
  have hb := HB.out
  clear HB
  have k_ := (a1_.below hb).cell_1
  have f_ := (a1_.below hb).fz 1
  by_cases h1 : e1 ≠ 0
  · have hr := R1.out
    rw [if_pos h1] at hr
    subst hr
    clear R1
    have h1b : (e1 != 0) = true := bne_iff_ne.mpr h1
    clear h1
    have z2_ := z1_.below hb
    have b2_ := bk b1_ (Nat.le_of_lt (Nat.lt_of_le_of_lt (by omega) z1_.lt)) hb
    clear a1_ z1_ b1_ hb 
    have f0_ := z2_.fz 0
    have k0_ := z2_.cell_0
    have f1_ := z2_.fz 1
    have k1_ := z2_.cell_1
    have f2_ := z2_.fz 2
    have k2_ := z2_.cell_2
    have f3_ := z2_.fz 3
    have k3_ := z2_.cell_3
    have f4_ := z2_.fz 4
    have k4_ := z2_.cell_4
    go_wp2_with fail
    (try simp only [Exit.inBlock, Exit.then])
    exact bodyPost_ret (results_vt rfl _ _ (g + 1) rfl (z2_.five _ _ _ _ _)) rfl ⟨rfl, by first | exact below_five b2_ (by omega) _ _ _ _ _ | exact below_is hg (below_five b2_ (by omega) _ _ _ _ _)⟩
  have R2 := Aside0.mk ((if_neg h1).symm.trans R1.out)
  clear R1
  have h1b : (e1 != 0) = false := by simpa using h1
  clear h1
  obtain ⟨W2, hW2⟩ : ∃ W, V1.setCell ⟨g, 1, none⟩ (.int .i64 n1) = W := ⟨_, rfl⟩
  have a2_ : At W2 g n0 n1 c d e := by rw [← hW2]; exact (a1_.below hb).set_1 _
  have z2_ : At W2 (g + 1) 0 0 0 0 0 := by rw [← hW2]; exact (z1_.below hb).other _ _ (by omega)
  have b2_ : Below g w W2 := by rw [← hW2]; exact (bk b1_ (Nat.le_of_lt a1_.lt) hb).setCell (Nat.le_refl _) _
  clear a1_ z1_ b1_ hb 
  go_wp2_with fail
  clear k_ f_ hW2 h1b
  rw [rounds_succ]
  have h1_ := a2_.cell_2
  go_wp2_with fail
  refine (C2.out _).mono ?_
  rintro _ V2 ⟨rfl, hd⟩
  have HB := Aside0.mk hd.below
  clear hd h1_
  have hb := HB.out
  clear HB
  have k_ := (a2_.below hb).cell_2
  have f_ := (a2_.below hb).fz 2
  by_cases h2 : e2 ≠ 0
  · have hr := R2.out
    rw [if_pos h2] at hr
    subst hr
    clear R2
    have h2b : (e2 != 0) = true := bne_iff_ne.mpr h2
    clear h2
    have z3_ := z2_.below hb
    have b3_ := bk b2_ (Nat.le_of_lt (Nat.lt_of_le_of_lt (by omega) z2_.lt)) hb
    clear a2_ z2_ b2_ hb 
    have f0_ := z3_.fz 0
    have k0_ := z3_.cell_0
    have f1_ := z3_.fz 1
    have k1_ := z3_.cell_1
    have f2_ := z3_.fz 2
    have k2_ := z3_.cell_2
    have f3_ := z3_.fz 3
    have k3_ := z3_.cell_3
    have f4_ := z3_.fz 4
    have k4_ := z3_.cell_4
    go_wp2_with fail
    (try simp only [Exit.inBlock, Exit.then])
    exact bodyPost_ret (results_vt rfl _ _ (g + 1) rfl (z3_.five _ _ _ _ _)) rfl ⟨rfl, by first | exact below_five b3_ (by omega) _ _ _ _ _ | exact below_is hg (below_five b3_ (by omega) _ _ _ _ _)⟩
  have R3 := Aside0.mk ((if_neg h2).symm.trans R2.out)
  clear R2
  have h2b : (e2 != 0) = false := by simpa using h2
  clear h2
  obtain ⟨W3, hW3⟩ : ∃ W, V2.setCell ⟨g, 2, none⟩ (.int .i64 n2) = W := ⟨_, rfl⟩
  have a3_ : At W3 g n0 n1 n2 d e := by rw [← hW3]; exact (a2_.below hb).set_2 _
  have z3_ : At W3 (g + 1) 0 0 0 0 0 := by rw [← hW3]; exact (z2_.below hb).other _ _ (by omega)
  have b3_ : Below g w W3 := by rw [← hW3]; exact (bk b2_ (Nat.le_of_lt a2_.lt) hb).setCell (Nat.le_refl _) _
  clear a2_ z2_ b2_ hb 
  go_wp2_with fail
  clear k_ f_ hW3 h2b
  rw [rounds_succ]
  have h1_ := a3_.cell_3
  go_wp2_with fail
  refine (C3.out _).mono ?_
  rintro _ V3 ⟨rfl, hd⟩
  have HB := Aside0.mk hd.below
  clear hd h1_
  have hb := HB.out
  clear HB
  have k_ := (a3_.below hb).cell_3
  have f_ := (a3_.below hb).fz 3
  by_cases h3 : e3 ≠ 0
  · have hr := R3.out
    rw [if_pos h3] at hr
    subst hr
    clear R3
    have h3b : (e3 != 0) = true := bne_iff_ne.mpr h3
    clear h3
    have z4_ := z3_.below hb
    have b4_ := bk b3_ (Nat.le_of_lt (Nat.lt_of_le_of_lt (by omega) z3_.lt)) hb
    clear a3_ z3_ b3_ hb 
    have f0_ := z4_.fz 0
    have k0_ := z4_.cell_0
    have f1_ := z4_.fz 1
    have k1_ := z4_.cell_1
    have f2_ := z4_.fz 2
    have k2_ := z4_.cell_2
    have f3_ := z4_.fz 3
    have k3_ := z4_.cell_3
    have f4_ := z4_.fz 4
    have k4_ := z4_.cell_4
    go_wp2_with fail
    (try simp only [Exit.inBlock, Exit.then])
    exact bodyPost_ret (results_vt rfl _ _ (g + 1) rfl (z4_.five _ _ _ _ _)) rfl ⟨rfl, by first | exact below_five b4_ (by omega) _ _ _ _ _ | exact below_is hg (below_five b4_ (by omega) _ _ _ _ _)⟩
  have R4 := Aside0.mk ((if_neg h3).symm.trans R3.out)
  clear R3
  have h3b : (e3 != 0) = false := by simpa using h3
  clear h3
  obtain ⟨W4, hW4⟩ : ∃ W, V3.setCell ⟨g, 3, none⟩ (.int .i64 n3) = W := ⟨_, rfl⟩
  have a4_ : At W4 g n0 n1 n2 n3 e := by rw [← hW4]; exact (a3_.below hb).set_3 _
  have z4_ : At W4 (g + 1) 0 0 0 0 0 := by rw [← hW4]; exact (z3_.below hb).other _ _ (by omega)
  have b4_ : Below g w W4 := by rw [← hW4]; exact (bk b3_ (Nat.le_of_lt a3_.lt) hb).setCell (Nat.le_refl _) _
  clear a3_ z3_ b3_ hb 
  go_wp2_with fail
  clear k_ f_ hW4 h3b
  rw [rounds_succ]
  have h1_ := a4_.cell_4
  go_wp2_with fail
  refine (C4.out _).mono ?_
  rintro _ V4 ⟨rfl, hd⟩
  have HB := Aside0.mk hd.below
  clear hd h1_
  have hb := HB.out
  clear HB
  have k_ := (a4_.below hb).cell_4
  have f_ := (a4_.below hb).fz 4
  by_cases h4 : e4 ≠ 0
  · have hr := R4.out
    rw [if_pos h4] at hr
    subst hr
    clear R4
    have h4b : (e4 != 0) = true := bne_iff_ne.mpr h4
    clear h4
    have z5_ := z4_.below hb
    have b5_ := bk b4_ (Nat.le_of_lt (Nat.lt_of_le_of_lt (by omega) z4_.lt)) hb
    clear a4_ z4_ b4_ hb 
    have f0_ := z5_.fz 0
    have k0_ := z5_.cell_0
    have f1_ := z5_.fz 1
    have k1_ := z5_.cell_1
    have f2_ := z5_.fz 2
    have k2_ := z5_.cell_2
    have f3_ := z5_.fz 3
    have k3_ := z5_.cell_3
    have f4_ := z5_.fz 4
    have k4_ := z5_.cell_4
    go_wp2_with fail
    (try simp only [Exit.inBlock, Exit.then])
    exact bodyPost_ret (results_vt rfl _ _ (g + 1) rfl (z5_.five _ _ _ _ _)) rfl ⟨rfl, by first | exact below_five b5_ (by omega) _ _ _ _ _ | exact below_is hg (below_five b5_ (by omega) _ _ _ _ _)⟩
  have R5 := Aside0.mk ((if_neg h4).symm.trans R4.out)
  clear R4
  have h4b : (e4 != 0) = false := by simpa using h4
  clear h4
  obtain ⟨W5, hW5⟩ : ∃ W, V4.setCell ⟨g, 4, none⟩ (.int .i64 n4) = W := ⟨_, rfl⟩
  have a5_ : At W5 g n0 n1 n2 n3 n4 := by rw [← hW5]; exact (a4_.below hb).set_4 _
  have z5_ : At W5 (g + 1) 0 0 0 0 0 := by rw [← hW5]; exact (z4_.below hb).other _ _ (by omega)
  have b5_ : Below g w W5 := by rw [← hW5]; exact (bk b4_ (Nat.le_of_lt a4_.lt) hb).setCell (Nat.le_refl _) _
  clear a4_ z4_ b4_ hb 
  go_wp2_with fail
  clear k_ f_ hW5 h4b
  have f0_ := z5_.fz 0
  have k0_ := z5_.cell_0
  have j0_ := a5_.cell_0
  have f1_ := z5_.fz 1
  have k1_ := z5_.cell_1
  have j1_ := a5_.cell_1
  have f2_ := z5_.fz 2
  have k2_ := z5_.cell_2
  have j2_ := a5_.cell_2
  have f3_ := z5_.fz 3
  have k3_ := z5_.cell_3
  have j3_ := a5_.cell_3
  have f4_ := z5_.fz 4
  have k4_ := z5_.cell_4
  have j4_ := a5_.cell_4
  have hr := R5.out
  subst hr
  clear R5
  rw [rounds_succ]
  go_wp2_with fail
  (try simp only [Exit.inBlock, Exit.then])
  exact bodyPost_ret (results_vt rfl _ _ (g + 1) rfl (z5_.five _ _ _ _ _)) rfl ⟨rfl, by first | exact below_five b5_ (by omega) _ _ _ _ _ | exact below_is hg (below_five b5_ (by omega) _ _ _ _ _)⟩
end Go.Proofs.YtceepgleeelohaaDoor.P
