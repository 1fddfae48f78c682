import Derived.Test.YtceepgleeelohaaDoorHv1
import Derived.Test.YtceepgleeelohaaDoorHgoes
/- Rows of five places in memory; made. -/
namespace Go.Proofs.YtceepgleeelohaaDoor.P
set_option linter.unusedVariables false
set_option linter.unusedSimpArgs false
open Go.RowKit Go.Proofs.YtceepgleeelohaaDoorW.PrintWords Go.Proofs.YtceepgleeelohaaDoorW.PrintLast Go.Proofs.YtceepgleeelohaaDoorW.PrintMore
/-- a row lies in a block -/
structure At (W : World) (g : Nat) (a b c d e : Int) : Prop where mk :: (out : W.heap[g]? = some (.cells #[.int .i64 a, .int .i64 b, .int .i64 c, .int .i64 d, .int .i64 e] 23 (0, 0)))
theorem At.lt {W : World} {g : Nat} {a b c d e : Int} (h : At W g a b c d e) : g < W.heap.size := blk_lt h.out
theorem At.below {W W' : World} {g : Nat} {a b c d e : Int} (h : At W g a b c d e) (hb : Below W.heap.size W W') : At W' g a b c d e := ⟨(hb.block g h.lt).trans h.out⟩
theorem At.alloc {W : World} {g : Nat} {a b c d e : Int} (h : At W g a b c d e) (o : Obj) : At (W.alloc o) g a b c d e := ⟨(Below.heap_alloc W o g h.lt).trans h.out⟩
theorem At.drew {W : World} {g : Nat} {a b c d e : Int} (h : At W g a b c d e) : At W.drew g a b c d e := ⟨h.out⟩
theorem At.new (W : World) (a b c d e : Int) : At (W.alloc (.cells #[.int .i64 a, .int .i64 b, .int .i64 c, .int .i64 d, .int .i64 e] 23)) W.heap.size a b c d e := ⟨heap_alloc_new W _⟩
theorem At.fz {W : World} {g : Nat} {a b c d e : Int} (h : At W g a b c d e) (i : Nat) : W.frozen? ⟨g, i, none⟩ = false := blk_frozen h.out i
theorem At.other {W : World} {g k : Nat} {a b c d e : Int} (h : At W g a b c d e) (i : Nat) (x : Value) (hk : g ≠ k) : At (W.setCell ⟨k, i, none⟩ x) g a b c d e := ⟨(Below.heap_setCell W _ x g hk).trans h.out⟩
theorem At.cell_0 {W : World} {g : Nat} {a b c d e : Int} (h : At W g a b c d e) : W.cell? ⟨g, 0, none⟩ = some (.int .i64 a) := (blk_cell h.out 0).trans rfl
theorem At.set_0 {W : World} {g : Nat} {a b c d e : Int} (h : At W g a b c d e) (x : Int) : At (W.setCell ⟨g, 0, none⟩ (.int .i64 x)) g x b c d e := ⟨by simpa using blk_set h.out 0 (.int .i64 x)⟩
theorem At.cell_1 {W : World} {g : Nat} {a b c d e : Int} (h : At W g a b c d e) : W.cell? ⟨g, 1, none⟩ = some (.int .i64 b) := (blk_cell h.out 1).trans rfl
theorem At.set_1 {W : World} {g : Nat} {a b c d e : Int} (h : At W g a b c d e) (x : Int) : At (W.setCell ⟨g, 1, none⟩ (.int .i64 x)) g a x c d e := ⟨by simpa using blk_set h.out 1 (.int .i64 x)⟩
theorem At.cell_2 {W : World} {g : Nat} {a b c d e : Int} (h : At W g a b c d e) : W.cell? ⟨g, 2, none⟩ = some (.int .i64 c) := (blk_cell h.out 2).trans rfl
theorem At.set_2 {W : World} {g : Nat} {a b c d e : Int} (h : At W g a b c d e) (x : Int) : At (W.setCell ⟨g, 2, none⟩ (.int .i64 x)) g a b x d e := ⟨by simpa using blk_set h.out 2 (.int .i64 x)⟩
theorem At.cell_3 {W : World} {g : Nat} {a b c d e : Int} (h : At W g a b c d e) : W.cell? ⟨g, 3, none⟩ = some (.int .i64 d) := (blk_cell h.out 3).trans rfl
theorem At.set_3 {W : World} {g : Nat} {a b c d e : Int} (h : At W g a b c d e) (x : Int) : At (W.setCell ⟨g, 3, none⟩ (.int .i64 x)) g a b c x e := ⟨by simpa using blk_set h.out 3 (.int .i64 x)⟩
theorem At.cell_4 {W : World} {g : Nat} {a b c d e : Int} (h : At W g a b c d e) : W.cell? ⟨g, 4, none⟩ = some (.int .i64 e) := (blk_cell h.out 4).trans rfl
theorem At.set_4 {W : World} {g : Nat} {a b c d e : Int} (h : At W g a b c d e) (x : Int) : At (W.setCell ⟨g, 4, none⟩ (.int .i64 x)) g a b c d x := ⟨by simpa using blk_set h.out 4 (.int .i64 x)⟩
theorem At.five {W : World} {g : Nat} {a b c d e : Int} (h : At W g a b c d e) (x0 x1 x2 x3 x4 : Int) : At (((((W.setCell ⟨g, 0, none⟩ (.int .i64 x0)).setCell ⟨g, 1, none⟩ (.int .i64 x1)).setCell ⟨g, 2, none⟩ (.int .i64 x2)).setCell ⟨g, 3, none⟩ (.int .i64 x3)).setCell ⟨g, 4, none⟩ (.int .i64 x4)) g x0 x1 x2 x3 x4 :=
  ((((h.set_0 x0).set_1 x1).set_2 x2).set_3 x3).set_4 x4
theorem below_five {n : Nat} {w W : World} (h : Below n w W) {g : Nat} (hg : n ≤ g) (x0 x1 x2 x3 x4 : Value) : Below n w (((((W.setCell ⟨g, 0, none⟩ x0).setCell ⟨g, 1, none⟩ x1).setCell ⟨g, 2, none⟩ x2).setCell ⟨g, 3, none⟩ x3).setCell ⟨g, 4, none⟩ x4) :=
  ((((h.setCell hg _).setCell hg _).setCell hg _).setCell hg _).setCell hg _
theorem below_is {n : Nat} {w W : World} (h : w.heap.size = n) (hb : Below n w W) : Below w.heap.size w W := h ▸ hb
theorem results_v {fn : Func} {p : Tmp} (h : fn.results = #[.cell p 23]) (tmps : Array Value) (w : World) (g : Nat) {a b c d e : Int}
    (hp : tmps.getD p undef = .pointer (some ⟨g, 0, none⟩)) (hg : At w g a b c d e) :
    (results fn tmps).run Tryd.prog w = .ok (.agg #[.int .i64 a, .int .i64 b, .int .i64 c, .int .i64 d, .int .i64 e]) w := by
  have hp' : tmps[p]?.getD undef = .pointer (some ⟨g, 0, none⟩) := by simpa using hp
  simp [results, h, hp', asAddr, run_loadVar_row w g 23 23 _ (0, 0) _ hg.out Tryd.underlying23 rfl (by kernel_rfl)]
theorem results_vt {fn : Func} {p u : Tmp} (h : fn.results = #[.cell p 23, .tmp u]) (tmps : Array Value) (w : World) (g : Nat) {a b c d e : Int}
    (hp : tmps.getD p undef = .pointer (some ⟨g, 0, none⟩)) (hg : At w g a b c d e) :
    (results fn tmps).run Tryd.prog w = .ok (.tuple #[.agg #[.int .i64 a, .int .i64 b, .int .i64 c, .int .i64 d, .int .i64 e], tmps.getD u undef]) w :=
  results_ct h tmps w g 23 _ (0, 0) _ hp hg.out Tryd.underlying23 rfl (by kernel_rfl)
theorem results_vtt {fn : Func} {p u v : Tmp} (h : fn.results = #[.cell p 23, .tmp u, .tmp v]) (tmps : Array Value) (w : World) (g : Nat) {a b c d e : Int}
    (hp : tmps.getD p undef = .pointer (some ⟨g, 0, none⟩)) (hg : At w g a b c d e) :
    (results fn tmps).run Tryd.prog w = .ok (.tuple #[.agg #[.int .i64 a, .int .i64 b, .int .i64 c, .int .i64 d, .int .i64 e], tmps.getD u undef, tmps.getD v undef]) w :=
  results_ctt h tmps w g 23 _ (0, 0) _ hp hg.out Tryd.underlying23 rfl (by kernel_rfl)
theorem wrap64_id {x : Int} (h0 : -9223372036854775808 ≤ x) (h1 : x < 9223372036854775808) : wrap64 x = x := by
  unfold wrap64
  omega
theorem bring_m (a : Int) : drayageref00_Bring.f a 68719476736 = some (a % 68719476736) := by
  unfold drayageref00_Bring.f
  rw [if_neg (by decide)]
  have h0 := Int.emod_nonneg a (show (68719476736 : Int) ≠ 0 by decide)
  have h1 := Int.emod_lt_of_pos a (show (0 : Int) < 68719476736 by decide)
  have h := Int.tmod_eq_emod (a := a) (b := 68719476736)
  by_cases hq : 0 ≤ a ∨ (68719476736 : Int) ∣ a
  · rw [if_pos hq] at h
    have h2 : Int.tmod a 68719476736 = a % 68719476736 := by omega
    rw [h2, if_neg (by omega)]
  · rw [if_neg hq] at h
    have hz : a % 68719476736 ≠ 0 := fun hz => hq (.inr (Int.dvd_of_emod_eq_zero hz))
    have h2 : Int.tmod a 68719476736 = a % 68719476736 - 68719476736 := by omega
    rw [h2, if_pos (by omega), wrap64_id (by omega) (by omega)]
    congr 1
    omega
set_option maxRecDepth 100000 in
set_option maxHeartbeats 4000000 in
theorem made_c (a b c d e : Int) (w : World) :
    Calls Tryd.prog 8 #[.agg #[.int .i64 a, .int .i64 b, .int .i64 c, .int .i64 d, .int .i64 e]] w fun e_ w' => e_ = .returned (.agg #[.int .i64 (a % 68719476736), .int .i64 (b % 68719476736), .int .i64 (c % 68719476736), .int .i64 (d % 68719476736), .int .i64 (e % 68719476736)]) ∧ Below w.heap.size w w' := by
  obtain ⟨g, hg⟩ : ∃ g, w.heap.size = g := ⟨_, rfl⟩
  have hn : g ≠ g + 1 := by omega
  obtain ⟨W0, hW0⟩ : ∃ W, (w.alloc (.cells #[.int .i64 a, .int .i64 b, .int .i64 c, .int .i64 d, .int .i64 e] 23)).alloc (.cells #[.int .i64 0, .int .i64 0, .int .i64 0, .int .i64 0, .int .i64 0] 23) = W := ⟨_, rfl⟩
  have a0_ : At W0 g a b c d e := by rw [← hW0, ← hg]; exact (At.new _ _ _ _ _ _).alloc _
  have z0_ : At W0 (g + 1) 0 0 0 0 0 := by rw [← hW0, ← hg]; simpa using At.new (w.alloc (.cells #[.int .i64 a, .int .i64 b, .int .i64 c, .int .i64 d, .int .i64 e] 23)) 0 0 0 0 0
  have b0_ : Below g w W0 := by rw [← hW0, ← hg]; exact below_alloc (below_alloc (Below.refl _ _) _) _
  go_enter Tryd.func8, Tryd.ntmps8
  go_wp2_with fail
  refine wp_loop_rounds 6 ?_
  rw [rounds_succ]
  have k_ := a0_.cell_0
  go_wp2_with fail
  refine (drayageref00_Bring.calls a 68719476736 (a % 68719476736) _ (bring_m a)).mono ?_
  rintro _ V0 ⟨rfl, hd⟩
  have hb := hd.below
  clear k_ hd
  have k_ := (a0_.below hb).cell_0
  have f_ := (a0_.below hb).fz 0
  obtain ⟨W1, hW1⟩ : ∃ W, V0.setCell ⟨g, 0, none⟩ (.int .i64 (a % 68719476736)) = W := ⟨_, rfl⟩
  have a1_ : At W1 g (a % 68719476736) b c d e := by rw [← hW1]; exact (a0_.below hb).set_0 _
  have z1_ : At W1 (g + 1) 0 0 0 0 0 := by rw [← hW1]; exact (z0_.below hb).other _ _ (Ne.symm hn)
  have b1_ : Below g w W1 := by rw [← hW1]; exact (b0_.trans (hb.mono (by have := a0_.lt; omega))).setCell (Nat.le_refl _) _
  clear a0_ z0_ b0_ hb
  go_wp2_with fail
  clear k_ f_ hW1
  rw [rounds_succ]
  have k_ := a1_.cell_1
  go_wp2_with fail
  refine (drayageref00_Bring.calls b 68719476736 (b % 68719476736) _ (bring_m b)).mono ?_
  rintro _ V1 ⟨rfl, hd⟩
  have hb := hd.below
  clear k_ hd
  have k_ := (a1_.below hb).cell_1
  have f_ := (a1_.below hb).fz 1
  obtain ⟨W2, hW2⟩ : ∃ W, V1.setCell ⟨g, 1, none⟩ (.int .i64 (b % 68719476736)) = W := ⟨_, rfl⟩
  have a2_ : At W2 g (a % 68719476736) (b % 68719476736) c d e := by rw [← hW2]; exact (a1_.below hb).set_1 _
  have z2_ : At W2 (g + 1) 0 0 0 0 0 := by rw [← hW2]; exact (z1_.below hb).other _ _ (Ne.symm hn)
  have b2_ : Below g w W2 := by rw [← hW2]; exact (b1_.trans (hb.mono (by have := a1_.lt; omega))).setCell (Nat.le_refl _) _
  clear a1_ z1_ b1_ hb
  go_wp2_with fail
  clear k_ f_ hW2
  rw [rounds_succ]
  have k_ := a2_.cell_2
  go_wp2_with fail
  refine (drayageref00_Bring.calls c 68719476736 (c % 68719476736) _ (bring_m c)).mono ?_
  rintro _ V2 ⟨rfl, hd⟩
  have hb := hd.below
  clear k_ hd
  have k_ := (a2_.below hb).cell_2
  have f_ := (a2_.below hb).fz 2
  obtain ⟨W3, hW3⟩ : ∃ W, V2.setCell ⟨g, 2, none⟩ (.int .i64 (c % 68719476736)) = W := ⟨_, rfl⟩
  have a3_ : At W3 g (a % 68719476736) (b % 68719476736) (c % 68719476736) d e := by rw [← hW3]; exact (a2_.below hb).set_2 _
  have z3_ : At W3 (g + 1) 0 0 0 0 0 := by rw [← hW3]; exact (z2_.below hb).other _ _ (Ne.symm hn)
  have b3_ : Below g w W3 := by rw [← hW3]; exact (b2_.trans (hb.mono (by have := a2_.lt; omega))).setCell (Nat.le_refl _) _
  clear a2_ z2_ b2_ hb
  go_wp2_with fail
  clear k_ f_ hW3
  rw [rounds_succ]
  have k_ := a3_.cell_3
  go_wp2_with fail
  refine (drayageref00_Bring.calls d 68719476736 (d % 68719476736) _ (bring_m d)).mono ?_
  rintro _ V3 ⟨rfl, hd⟩
  have hb := hd.below
  clear k_ hd
  have k_ := (a3_.below hb).cell_3
  have f_ := (a3_.below hb).fz 3
  obtain ⟨W4, hW4⟩ : ∃ W, V3.setCell ⟨g, 3, none⟩ (.int .i64 (d % 68719476736)) = W := ⟨_, rfl⟩
  have a4_ : At W4 g (a % 68719476736) (b % 68719476736) (c % 68719476736) (d % 68719476736) e := by rw [← hW4]; exact (a3_.below hb).set_3 _
  have z4_ : At W4 (g + 1) 0 0 0 0 0 := by rw [← hW4]; exact (z3_.below hb).other _ _ (Ne.symm hn)
  have b4_ : Below g w W4 := by rw [← hW4]; exact (b3_.trans (hb.mono (by have := a3_.lt; omega))).setCell (Nat.le_refl _) _
  clear a3_ z3_ b3_ hb
  go_wp2_with fail
  clear k_ f_ hW4
  rw [rounds_succ]
  have k_ := a4_.cell_4
  go_wp2_with fail
  refine (drayageref00_Bring.calls e 68719476736 (e % 68719476736) _ (bring_m e)).mono ?_
  rintro _ V4 ⟨rfl, hd⟩
  have hb := hd.below
  clear k_ hd
  have k_ := (a4_.below hb).cell_4
  have f_ := (a4_.below hb).fz 4
  obtain ⟨W5, hW5⟩ : ∃ W, V4.setCell ⟨g, 4, none⟩ (.int .i64 (e % 68719476736)) = W := ⟨_, rfl⟩
  have a5_ : At W5 g (a % 68719476736) (b % 68719476736) (c % 68719476736) (d % 68719476736) (e % 68719476736) := by rw [← hW5]; exact (a4_.below hb).set_4 _
  have z5_ : At W5 (g + 1) 0 0 0 0 0 := by rw [← hW5]; exact (z4_.below hb).other _ _ (Ne.symm hn)
  have b5_ : Below g w W5 := by rw [← hW5]; exact (b4_.trans (hb.mono (by have := a4_.lt; omega))).setCell (Nat.le_refl _) _
  clear a4_ z4_ b4_ hb
  go_wp2_with fail
  clear k_ f_ hW5
  have k0_ := a5_.cell_0
  have j0_ := z5_.cell_0
  have f0_ := z5_.fz 0
  have k1_ := a5_.cell_1
  have j1_ := z5_.cell_1
  have f1_ := z5_.fz 1
  have k2_ := a5_.cell_2
  have j2_ := z5_.cell_2
  have f2_ := z5_.fz 2
  have k3_ := a5_.cell_3
  have j3_ := z5_.cell_3
  have f3_ := z5_.fz 3
  have k4_ := a5_.cell_4
  have j4_ := z5_.cell_4
  have f4_ := z5_.fz 4
  rw [rounds_succ]
  go_wp2_with fail
  (try simp only [Exit.inBlock, Exit.then])
  exact bodyPost_ret (results_v rfl _ _ (g + 1) rfl (z5_.five _ _ _ _ _)) rfl ⟨rfl, below_is hg (below_five b5_ (Nat.le_succ g) _ _ _ _ _)⟩
end Go.Proofs.YtceepgleeelohaaDoor.P
