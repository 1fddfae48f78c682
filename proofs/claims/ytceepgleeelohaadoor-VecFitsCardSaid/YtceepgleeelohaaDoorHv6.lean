import Derived.Test.YtceepgleeelohaaDoorHv5
import Derived.Test.YtceepgleeelohaaDoorHv3
import Derived.Test.YtceepgleeelohaaDoorHqr
/- Minus, Times, Share of rows. -/
namespace Go.Proofs.YtceepgleeelohaaDoor.P
set_option linter.unusedVariables false
set_option linter.unusedSimpArgs false
open Go.RowKit Go.Proofs.YtceepgleeelohaaDoorW.PrintWords Go.Proofs.YtceepgleeelohaaDoorW.PrintLast Go.Proofs.YtceepgleeelohaaDoorW.PrintMore
theorem At.at_ {W : World} {g : Nat} {a b c d e : Int} (h : At W g a b c d e) (i : Nat) (hi : i < 5) : W.cell? ⟨g, i, none⟩ = some (.int .i64 (V.get ⟨a, b, c, d, e⟩ i)) := by
  have h5 : i = 0 ∨ i = 1 ∨ i = 2 ∨ i = 3 ∨ i = 4 := by omega
  rcases h5 with rfl | rfl | rfl | rfl | rfl
  · exact h.cell_0
  · exact h.cell_1
  · exact h.cell_2
  · exact h.cell_3
  · exact h.cell_4
def V.minus (v u : V) : V × Int := eachS fun i => subS (v.get i) (u.get i)
def V.times (v : V) (n : Int) : V × Int := eachS fun i => mulS (v.get i) n
def V.shares (v u : V) : V × Int := eachS fun i => shaS (v.get i) (u.get i)
set_option maxRecDepth 100000 in
set_option maxHeartbeats 4000000 in
theorem minus_c (a b c d e a' b' c' d' e' : Int) (w : World) :
    Calls Tryd.prog 11 #[.agg #[.int .i64 a, .int .i64 b, .int .i64 c, .int .i64 d, .int .i64 e], .agg #[.int .i64 a', .int .i64 b', .int .i64 c', .int .i64 d', .int .i64 e']] w fun e_ w' => e_ = .returned (.tuple #[(V.minus ⟨a, b, c, d, e⟩ ⟨a', b', c', d', e'⟩).1.val, .int .i64 (V.minus ⟨a, b, c, d, e⟩ ⟨a', b', c', d', e'⟩).2]) ∧ Below w.heap.size w w' := by
  obtain ⟨g, hg⟩ : ∃ g, w.heap.size = g := ⟨_, rfl⟩
  obtain ⟨W0, hW0⟩ : ∃ W, ((w.alloc (.cells #[.int .i64 a, .int .i64 b, .int .i64 c, .int .i64 d, .int .i64 e] 23)).alloc (.cells #[.int .i64 a', .int .i64 b', .int .i64 c', .int .i64 d', .int .i64 e'] 23)).alloc (.cells #[.int .i64 0, .int .i64 0, .int .i64 0, .int .i64 0, .int .i64 0] 23) = W := ⟨_, rfl⟩
  have a0_ : At W0 g a b c d e := by rw [← hW0, ← hg]; exact ((At.new _ _ _ _ _ _).alloc _).alloc _
  have c0_ : At W0 (g + 1) a' b' c' d' e' := by rw [← hW0, ← hg]; simpa using (At.new (w.alloc (.cells #[.int .i64 a, .int .i64 b, .int .i64 c, .int .i64 d, .int .i64 e] 23)) a' b' c' d' e').alloc (.cells #[.int .i64 0, .int .i64 0, .int .i64 0, .int .i64 0, .int .i64 0] 23)
  have z0_ : At W0 (g + 2) 0 0 0 0 0 := by rw [← hW0, ← hg]; simpa using At.new ((w.alloc (.cells #[.int .i64 a, .int .i64 b, .int .i64 c, .int .i64 d, .int .i64 e] 23)).alloc (.cells #[.int .i64 a', .int .i64 b', .int .i64 c', .int .i64 d', .int .i64 e'] 23)) 0 0 0 0 0
  have b0_ : Below g w W0 := by rw [← hW0, ← hg]; apply below_alloc; apply below_alloc; apply below_alloc; exact Below.refl _ _
  have hz_ : W0.heap.size = g + 3 := by rw [← hW0, ← hg]; simp
  have C := each29_c g (g + 1) (fun i => subS (V.get ⟨a, b, c, d, e⟩ i) (V.get ⟨a', b', c', d', e'⟩ i)) W0 (fun i hi W hb => minus1_c g (g + 1) i _ _ _ _ W hi (Nat.lt_of_lt_of_le (show g < W0.heap.size by omega) hb.size) (Nat.lt_of_lt_of_le (show g + 1 < W0.heap.size by omega) hb.size) ((a0_.below hb).at_ i hi) ((c0_.below hb).at_ i hi) (Sub_f _ _))
  obtain ⟨R, hR⟩ : ∃ R, V.minus ⟨a, b, c, d, e⟩ ⟨a', b', c', d', e'⟩ = R := ⟨_, rfl⟩
  have hR' := hR
  unfold V.minus at hR'
  rw [hR'] at C
  rw [hR]
  clear hR hR'
  obtain ⟨⟨x0, x1, x2, x3, x4⟩, er⟩ := R
  dsimp only at C ⊢
  have CC := Aside0.mk C
  clear C a0_ c0_
  go_enter Tryd.func11, Tryd.ntmps11
  go_wp2_with fail
  refine CC.out.mono ?_
  rintro _ V ⟨rfl, hb⟩
  have f0_ := (z0_.below hb).fz 0
  have k0_ := (z0_.below hb).cell_0
  have f1_ := (z0_.below hb).fz 1
  have k1_ := (z0_.below hb).cell_1
  have f2_ := (z0_.below hb).fz 2
  have k2_ := (z0_.below hb).cell_2
  have f3_ := (z0_.below hb).fz 3
  have k3_ := (z0_.below hb).cell_3
  have f4_ := (z0_.below hb).fz 4
  have k4_ := (z0_.below hb).cell_4
  have z1_ := z0_.below hb
  have b1_ := bk b0_ (by omega) hb
  clear hb z0_ b0_
  go_wp2_with fail
  (try simp only [Exit.inBlock, Exit.then])
  exact bodyPost_ret (results_vt rfl _ _ (g + 2) rfl (z1_.five _ _ _ _ _)) rfl ⟨rfl, by first | exact below_five b1_ (by omega) _ _ _ _ _ | exact below_is hg (below_five b1_ (by omega) _ _ _ _ _)⟩
set_option maxRecDepth 100000 in
set_option maxHeartbeats 4000000 in
theorem times_c (a b c d e n : Int) (w : World) :
    Calls Tryd.prog 13 #[.agg #[.int .i64 a, .int .i64 b, .int .i64 c, .int .i64 d, .int .i64 e], .int .i64 n] w fun e_ w' => e_ = .returned (.tuple #[(V.times ⟨a, b, c, d, e⟩ n).1.val, .int .i64 (V.times ⟨a, b, c, d, e⟩ n).2]) ∧ Below w.heap.size w w' := by
  obtain ⟨g, hg⟩ : ∃ g, w.heap.size = g := ⟨_, rfl⟩
  obtain ⟨W0, hW0⟩ : ∃ W, ((w.alloc (.cells #[.int .i64 a, .int .i64 b, .int .i64 c, .int .i64 d, .int .i64 e] 23)).alloc (.cells #[.int .i64 n] 3)).alloc (.cells #[.int .i64 0, .int .i64 0, .int .i64 0, .int .i64 0, .int .i64 0] 23) = W := ⟨_, rfl⟩
  have a0_ : At W0 g a b c d e := by rw [← hW0, ← hg]; exact ((At.new _ _ _ _ _ _).alloc _).alloc _
  have c0_ : W0.heap[g + 1]? = some (.cells #[.int .i64 n] 3 (0, 0)) := by rw [← hW0, ← hg]; simpa using blk_alloc (heap_alloc_new (w.alloc (.cells #[.int .i64 a, .int .i64 b, .int .i64 c, .int .i64 d, .int .i64 e] 23)) (.cells #[.int .i64 n] 3)) (.cells #[.int .i64 0, .int .i64 0, .int .i64 0, .int .i64 0, .int .i64 0] 23)
  have z0_ : At W0 (g + 2) 0 0 0 0 0 := by rw [← hW0, ← hg]; simpa using At.new ((w.alloc (.cells #[.int .i64 a, .int .i64 b, .int .i64 c, .int .i64 d, .int .i64 e] 23)).alloc (.cells #[.int .i64 n] 3)) 0 0 0 0 0
  have b0_ : Below g w W0 := by rw [← hW0, ← hg]; apply below_alloc; apply below_alloc; apply below_alloc; exact Below.refl _ _
  have hz_ : W0.heap.size = g + 3 := by rw [← hW0, ← hg]; simp
  have C := each33_c g (g + 1) (fun i => mulS (V.get ⟨a, b, c, d, e⟩ i) n) W0 (fun i hi W hb => times1_c g (g + 1) i _ _ _ _ W hi (Nat.lt_of_lt_of_le (show g < W0.heap.size by omega) hb.size) (Nat.lt_of_lt_of_le (show g + 1 < W0.heap.size by omega) hb.size) ((a0_.below hb).at_ i hi) ((blk_cell ((hb.block (g + 1) (by omega)).trans c0_) 0).trans rfl) (Mul_f _ _))
  obtain ⟨R, hR⟩ : ∃ R, V.times ⟨a, b, c, d, e⟩ n = R := ⟨_, rfl⟩
  have hR' := hR
  unfold V.times at hR'
  rw [hR'] at C
  rw [hR]
  clear hR hR'
  obtain ⟨⟨x0, x1, x2, x3, x4⟩, er⟩ := R
  dsimp only at C ⊢
  have CC := Aside0.mk C
  clear C a0_ c0_
  go_enter Tryd.func13, Tryd.ntmps13
  go_wp2_with fail
  refine CC.out.mono ?_
  rintro _ V ⟨rfl, hb⟩
  have f0_ := (z0_.below hb).fz 0
  have k0_ := (z0_.below hb).cell_0
  have f1_ := (z0_.below hb).fz 1
  have k1_ := (z0_.below hb).cell_1
  have f2_ := (z0_.below hb).fz 2
  have k2_ := (z0_.below hb).cell_2
  have f3_ := (z0_.below hb).fz 3
  have k3_ := (z0_.below hb).cell_3
  have f4_ := (z0_.below hb).fz 4
  have k4_ := (z0_.below hb).cell_4
  have z1_ := z0_.below hb
  have b1_ := bk b0_ (by omega) hb
  clear hb z0_ b0_
  go_wp2_with fail
  (try simp only [Exit.inBlock, Exit.then])
  exact bodyPost_ret (results_vt rfl _ _ (g + 2) rfl (z1_.five _ _ _ _ _)) rfl ⟨rfl, by first | exact below_five b1_ (by omega) _ _ _ _ _ | exact below_is hg (below_five b1_ (by omega) _ _ _ _ _)⟩
set_option maxRecDepth 100000 in
set_option maxHeartbeats 4000000 in
theorem share_c (a b c d e a' b' c' d' e' : Int) (w : World) :
    Calls Tryd.prog 19 #[.agg #[.int .i64 a, .int .i64 b, .int .i64 c, .int .i64 d, .int .i64 e], .agg #[.int .i64 a', .int .i64 b', .int .i64 c', .int .i64 d', .int .i64 e']] w fun e_ w' => e_ = .returned (.tuple #[.int .i64 (V.max (V.shares ⟨a, b, c, d, e⟩ ⟨a', b', c', d', e'⟩).1), .int .i64 (V.shares ⟨a, b, c, d, e⟩ ⟨a', b', c', d', e'⟩).2]) ∧ Below w.heap.size w w' := by
  obtain ⟨g, hg⟩ : ∃ g, w.heap.size = g := ⟨_, rfl⟩
  obtain ⟨W0, hW0⟩ : ∃ W, (w.alloc (.cells #[.int .i64 a, .int .i64 b, .int .i64 c, .int .i64 d, .int .i64 e] 23)).alloc (.cells #[.int .i64 a', .int .i64 b', .int .i64 c', .int .i64 d', .int .i64 e'] 23) = W := ⟨_, rfl⟩
  have a0_ : At W0 g a b c d e := by rw [← hW0, ← hg]; exact ((At.new _ _ _ _ _ _).alloc _)
  have c0_ : At W0 (g + 1) a' b' c' d' e' := by rw [← hW0, ← hg]; simpa using At.new (w.alloc (.cells #[.int .i64 a, .int .i64 b, .int .i64 c, .int .i64 d, .int .i64 e] 23)) a' b' c' d' e'
  have b0_ : Below g w W0 := by rw [← hW0, ← hg]; apply below_alloc; apply below_alloc; exact Below.refl _ _
  have hz_ : W0.heap.size = g + 2 := by rw [← hW0, ← hg]; simp
  have C := each45_c g (g + 1) (fun i => shaS (V.get ⟨a, b, c, d, e⟩ i) (V.get ⟨a', b', c', d', e'⟩ i)) W0 (fun i hi W hb => share1_c 5 g (g + 1) i _ _ _ _ W hi (Nat.lt_of_lt_of_le (show g < W0.heap.size by omega) hb.size) (Nat.lt_of_lt_of_le (show g + 1 < W0.heap.size by omega) hb.size) ((a0_.below hb).at_ i hi) ((c0_.below hb).at_ i hi) (Share_f _ _ 4))
  obtain ⟨R, hR⟩ : ∃ R, V.shares ⟨a, b, c, d, e⟩ ⟨a', b', c', d', e'⟩ = R := ⟨_, rfl⟩
  have hR' := hR
  unfold V.shares at hR'
  rw [hR'] at C
  rw [hR]
  clear hR hR'
  obtain ⟨⟨x0, x1, x2, x3, x4⟩, er⟩ := R
  dsimp only at C ⊢
  have CC := Aside0.mk C
  clear C a0_ c0_
  obtain ⟨m, hm⟩ : ∃ m, V.max ⟨x0, x1, x2, x3, x4⟩ = m := ⟨_, rfl⟩
  rw [hm]
  unfold V.max at hm
  dsimp only at hm
  have M := Aside0.mk (fun h W (hA : At W h x0 x1 x2 x3 x4) => hm ▸ max_c h x0 x1 x2 x3 x4 W hA)
  clear hm
  go_enter Tryd.func19, Tryd.ntmps19
  go_wp2_with fail
  refine CC.out.mono ?_
  rintro _ V ⟨rfl, hb⟩
  have b1_ := bk b0_ (by omega) hb
  clear b0_ hb
  obtain ⟨h, hh⟩ : ∃ h, V.heap.size = h := ⟨_, rfl⟩
  obtain ⟨W1, hW1⟩ : ∃ W, V.alloc (.cells #[.int .i64 0, .int .i64 0, .int .i64 0, .int .i64 0, .int .i64 0] 23) = W := ⟨_, rfl⟩
  have z1_ : At W1 h 0 0 0 0 0 := by rw [← hW1, ← hh]; exact At.new _ _ _ _ _ _
  have b2_ : Below g w W1 := by rw [← hW1]; exact b1_.alloc (hg ▸ b1_.size) _
  have hge : g ≤ h := by have := b1_.size; omega
  clear b1_
  have f0_ := z1_.fz 0
  have k0_ := z1_.cell_0
  have f1_ := z1_.fz 1
  have k1_ := z1_.cell_1
  have f2_ := z1_.fz 2
  have k2_ := z1_.cell_2
  have f3_ := z1_.fz 3
  have k3_ := z1_.cell_3
  have f4_ := z1_.fz 4
  have k4_ := z1_.cell_4
  have z2_ := z1_.five x0 x1 x2 x3 x4
  have b3_ := below_five b2_ hge (.int .i64 x0) (.int .i64 x1) (.int .i64 x2) (.int .i64 x3) (.int .i64 x4)
  clear z1_ b2_
  go_wp2_with fail
  refine (M.out h _ z2_).mono ?_
  rintro _ V3 ⟨rfl, rfl⟩
  go_wp2_with fail
  go_ret2
  exact ⟨rfl, by first | exact b3_ | exact below_is hg b3_⟩
end Go.Proofs.YtceepgleeelohaaDoor.P
