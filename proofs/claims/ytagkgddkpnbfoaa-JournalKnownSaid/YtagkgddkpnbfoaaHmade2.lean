import Derived.Test.YtagkgddkpnbfoaaHparse
import Derived.Test.YtagkgddkpnbfoaaPf24
namespace Go.Proofs.Ytagkgddkpnbfoaa.P
set_option linter.unusedVariables false
set_option linter.unusedSimpArgs false
open Go.RowKit Go.Proofs.YtagkgddkpnbfoaaW.PrintWords Go.Proofs.YtagkgddkpnbfoaaW.PrintLast Go.Proofs.YtagkgddkpnbfoaaW.PrintMore

theorem bring_f (a m : Int) (h0 : 0 < m) (h1 : m ≤ 4611686018427387904) : drayageref00_Bring.f a m = some (a % m) := by
 unfold drayageref00_Bring.f
 rw [if_neg (by omega)]
 have h2 : a.tmod m = a % m ∨ (a.tmod m = a % m - m ∧ a % m ≠ 0) := by
  rcases Int.le_total 0 a with h | h
  ·exact .inl (Int.tmod_eq_emod_of_nonneg h)
  ·have e : a.tmod m = -((-a) % m) := by
    have := Int.neg_tmod (-a) m
    rw [Int.neg_neg] at this
    rw [this, Int.tmod_eq_emod_of_nonneg (by omega)]
   have e2 := Int.emod_nonneg a (by omega : m ≠ 0)
   have e3 := Int.emod_lt_of_pos a h0
   have e4 := Int.emod_nonneg (-a) (by omega : m ≠ 0)
   have e5 := Int.emod_lt_of_pos (-a) h0
   have e6 : (a % m + (-a) % m) % m = 0 := by rw [← Int.add_emod]; simp [Int.add_right_neg]
   have e7 : a % m + (-a) % m = 0 ∨ a % m + (-a) % m = m := by
    rcases Int.lt_or_le (a % m + (-a) % m) m with h | h
    ·left
     rw [Int.emod_eq_of_lt (by omega) h] at e6
     exact e6
    ·right
     have := Int.emod_eq_of_lt (a := a % m + (-a) % m - m) (b := m) (by omega) (by omega)
     have e8 : (a % m + (-a) % m - m) % m = 0 := by rw [Int.sub_emod, e6]; simp
     omega
   omega
 have h3 := Int.emod_nonneg a (by omega : m ≠ 0)
 have h4 := Int.emod_lt_of_pos a h0
 rcases h2 with h2 | ⟨h2, h5⟩
 ·rw [if_neg (by omega), h2]
 ·rw [if_pos (by omega), h2, wrap_id (by omega) (by omega)]
  congr 1
  omega
theorem bring_at (a m : Int) (w : World) (h0 : 0 < m) (h1 : m ≤ 4611686018427387904) : Calls Try.prog 24 #[.int .i64 a, .int .i64 m] w fun e w' => e = .returned (.int .i64 (a % m)) ∧ Drawn0 w w' :=
 drayageref00_Bring.calls a m _ w (bring_f a m h0 h1)
def mdK (a0 : Int) : Int := 1 + a0 % 6
def mdN (a0 a1 : Int) : Int := if mdK a0 = 1 then 0 else if mdK a0 = 6 then 1 + a1 % 65536 % 3 else a1 % 65536
def mdM (a0 a2 : Int) : Int := if mdK a0 = 1 then 0 else a2 % 65536
def mdP1 (x : Int) : Int := x % 9 - 1
def mdS1 (x : S49) : S49 := ⟨1 + x.f0 % 2, x.f1 % 24, if 1 + x.f0 % 2 = 2 then x.f2 % 8 else 0⟩
def mdP (a0 : Int) (l : List Int) : List Int := if mdK a0 = 1 then (l.take 24).map mdP1 else []
def mdS (a0 : Int) (l : List S49) : List S49 := if mdK a0 = 1 then (l.take 255).map mdS1 else []
structure MadSt (w : World) (W : World) (rs cs : Array Value) : Prop where
 br : W.heap[w.heap.size]? = some (.cells rs 25 (0, 0))
 b0 : W.heap[w.heap.size + 1]? = some (.cells #[.int .i64 0, .int .i64 0, .int .i64 0, .slice none 0 0, .slice none 0 0] 25 (0, 0))
 bx : W.heap[w.heap.size + 1 + 1]? = some (.cells cs 25 (0, 0))
 bl : Below w.heap.size w W
section
variable {w W W' : World} {rs cs : Array Value}
theorem MadSt.set (h : MadSt w W rs cs) (i : Nat) (v : Value) : MadSt w (W.setCell ⟨w.heap.size + 1 + 1, i, none⟩ v) rs (cs.setIfInBounds i v) :=
 ⟨(Below.heap_setCell W ⟨w.heap.size + 1 + 1, i, none⟩ v w.heap.size (by show w.heap.size ≠ w.heap.size + 1 + 1; omega)).trans h.br, (Below.heap_setCell W ⟨w.heap.size + 1 + 1, i, none⟩ v (w.heap.size + 1) (by simp)).trans h.b0, blk_set h.bx i v, h.bl.setCell (by show w.heap.size ≤ w.heap.size + 1 + 1; omega) v⟩
theorem MadSt.below (h : MadSt w W rs cs) (hb : Below W.heap.size W W') : MadSt w W' rs cs :=
 ⟨(hb.block _ (blk_lt h.br)).trans h.br, (hb.block _ (blk_lt h.b0)).trans h.b0, (hb.block _ (blk_lt h.bx)).trans h.bx, below_then h.bl h.bl.size hb⟩
theorem MadSt.grown (h : MadSt w W rs cs) {row : Option Nat} (hg : W.grownBy W' row) (hr : ∀ k, row = some k → w.heap.size + 1 + 1 < k) : MadSt w W' rs cs :=
 ⟨blk_grown h.br hg (fun e => by have := hr _ e.symm; omega), blk_grown h.b0 hg (fun e => by have := hr _ e.symm; omega), blk_grown h.bx hg (fun e => by have := hr _ e.symm; omega), pw_below_grown h.bl row h.bl.size hg (fun k hk => by have := hr k hk; omega)⟩
theorem MadSt.drewN (h : MadSt w W rs cs) (n : Nat) : MadSt w (W.drewN n) rs cs := h.below (pw_below_drewN (Below.refl _ _) n)
theorem MadSt.fin {c0 c1 c2 v3 v4 : Value} (h : MadSt w W rs #[c0, c1, c2, v3, v4]) :
  ∃ W', W' = (((((W.setCell ⟨w.heap.size + 1, 0, none⟩ c0).setCell ⟨w.heap.size + 1, 1, none⟩ c1).setCell ⟨w.heap.size + 1, 2, none⟩ c2).setCell ⟨w.heap.size + 1, 3, none⟩ v3).setCell ⟨w.heap.size + 1, 4, none⟩ v4) ∧
   W'.heap[w.heap.size + 1]? = some (.cells #[c0, c1, c2, v3, v4] 25 (0, 0)) ∧ Only (w.heap.size + 1) W W' ∧ Below w.heap.size w W' := by
 have ho := ((((Only.set W (w.heap.size + 1) 0 c0).trans (Only.set _ (w.heap.size + 1) 1 c1)).trans (Only.set _ (w.heap.size + 1) 2 c2)).trans (Only.set _ (w.heap.size + 1) 3 v3)).trans (Only.set _ (w.heap.size + 1) 4 v4)
 refine ⟨_, rfl, ?_, ho, h.bl.trans (ho.below (by omega))⟩
 have := blk_set (blk_set (blk_set (blk_set (blk_set h.b0 0 c0) 1 c1) 2 c2) 3 v3) 4 v4
 simpa using this
theorem MadSt.start (w : World) (rs cs : Array Value) (n : Nat) : MadSt w ((((w.alloc (.cells rs 25)).alloc (.cells #[.int .i64 0, .int .i64 0, .int .i64 0, .slice none 0 0, .slice none 0 0] 25)).drewN n).alloc (.cells cs 25)) rs cs := by
 have h1 := heap_alloc_new w (.cells rs 25)
 have h2 := heap_alloc_new (w.alloc (.cells rs 25)) (.cells #[.int .i64 0, .int .i64 0, .int .i64 0, .slice none 0 0, .slice none 0 0] 25)
 have hb2 : Below (w.alloc (.cells rs 25)).heap.size (w.alloc (.cells rs 25)) ((w.alloc (.cells rs 25)).alloc (.cells #[.int .i64 0, .int .i64 0, .int .i64 0, .slice none 0 0, .slice none 0 0] 25)) := below_alloc (Below.refl _ _) _
 have h1' := (hb2.block _ (by simp)).trans h1
 generalize hW2 : (w.alloc (.cells rs 25)).alloc (.cells #[.int .i64 0, .int .i64 0, .int .i64 0, .slice none 0 0, .slice none 0 0] 25) = W2 at *
 have hB2 : Below w.heap.size w W2 := by rw [← hW2]; exact below_alloc (below_alloc (Below.refl _ _) _) _
 have hs2 : W2.heap.size = w.heap.size + 1 + 1 := by rw [← hW2]; simp
 have hb3 : Below (W2.drewN n).heap.size (W2.drewN n) ((W2.drewN n).alloc (.cells cs 25)) := below_alloc (Below.refl _ _) _
 have h3 := heap_alloc_new (W2.drewN n) (.cells cs 25)
 refine ⟨(hb3.block _ (by show w.heap.size < W2.heap.size; omega)).trans h1', (hb3.block _ (by show w.heap.size + 1 < W2.heap.size; omega)).trans (by simpa using h2), ?_, below_alloc (pw_below_drewN hB2 n) _⟩
 have e : (W2.drewN n).heap.size = w.heap.size + 1 + 1 := hs2
 rw [e] at h3
 exact h3
end
set_option maxRecDepth 100000 in
set_option maxHeartbeats 3200000 in
theorem made_pair (a0 a1 a2 : Int) (A3 : Option Addr) (n3 c3 : Nat) (A4 : Option Addr) (n4 c4 : Nat) (w : World) (hk : mdK a0 ≠ 1) :
  Calls Try.prog 37 #[.agg #[.int .i64 a0, .int .i64 a1, .int .i64 a2, .slice A3 n3 c3, .slice A4 n4 c4]] w fun e w' => e = .returned (.agg #[.int .i64 (mdK a0), .int .i64 (mdN a0 a1), .int .i64 (mdM a0 a2), .slice none 0 0, .slice none 0 0]) ∧ Below w.heap.size w w' := by
 have hw1 : IntKind.i64.wrap (1 + a0 % 6) = mdK a0 := IntWalk.i64_in _ (by omega)
 have hk1 : (mdK a0 != 1) = true := by rw [bne_iff_ne]; exact hk
 go_enter Try.func37, Try.ntmps37
 go_wp2_with (first | (go_at_call 24; refine (bring_at a0 6 _ (by omega) (by omega)).mono ?_; rintro e w' ⟨rfl, ⟨nd, rfl⟩⟩))
 have HS0 := Aside0.mk (MadSt.start w #[.int .i64 a0, .int .i64 a1, .int .i64 a2, .slice A3 n3 c3, .slice A4 n4 c4] #[.int .i64 (mdK a0), .int .i64 0, .int .i64 0, .slice none 0 0, .slice none 0 0] nd)
 generalize ((((w.alloc (.cells #[.int .i64 a0, .int .i64 a1, .int .i64 a2, .slice A3 n3 c3, .slice A4 n4 c4] 25)).alloc (.cells #[.int .i64 0, .int .i64 0, .int .i64 0, .slice none 0 0, .slice none 0 0] 25)).drewN nd).alloc (.cells #[.int .i64 (mdK a0), .int .i64 0, .int .i64 0, .slice none 0 0, .slice none 0 0] 25)) = W0 at *
 have r1 : W0.cell? ⟨w.heap.size, 1, none⟩ = some (.int .i64 a1) := (blk_cell HS0.out.br 1).trans rfl
 have r2 : W0.cell? ⟨w.heap.size, 2, none⟩ = some (.int .i64 a2) := (blk_cell HS0.out.br 2).trans rfl
 have hkp : ∀ (W : World) (i j : Nat) (v : Value), (W.setCell ⟨w.heap.size + 1 + 1, i, none⟩ v).cell? ⟨w.heap.size, j, none⟩ = W.cell? ⟨w.heap.size, j, none⟩ := fun W i j v => (Only.set W _ i v).cell (by omega)
 have z1 : W0.cell? ⟨w.heap.size + 1 + 1, 1, none⟩ = some (.int .i64 0) := (blk_cell HS0.out.bx 1).trans rfl
 have z2 : W0.cell? ⟨w.heap.size + 1 + 1, 2, none⟩ = some (.int .i64 0) := (blk_cell HS0.out.bx 2).trans rfl
 have f1 := blk_frozen HS0.out.bx 1
 have f2 := blk_frozen HS0.out.bx 2
 go_region_held3 (fun w' => w'.cell? ⟨w.heap.size, 1, none⟩ = some (.int .i64 a1) ∧ w'.cell? ⟨w.heap.size, 2, none⟩ = some (.int .i64 a2))
  (first | go_keep | (refine ⟨?_, ?_⟩ <;> simp_all; done))
  (first | (go_at_call 24; (with_reducible refine (bring_at _ 65536 _ (by omega) (by omega)).mono ?_); rintro e w' ⟨rfl, ⟨nd1, rfl⟩⟩))
 rename_i ndx _
 have HS1 := Aside0.mk (((HS0.out.drewN (1 + ndx + nd1)).set 1 (.int .i64 (a1 % 65536))).set 2 (.int .i64 (a2 % 65536)))
 clear r1 r2 z1 z2 f1 f2 HS0
 generalize (((W0.drewN (1 + ndx + nd1)).setCell ⟨w.heap.size + 1 + 1, 1, none⟩ (.int .i64 (a1 % 65536))).setCell ⟨w.heap.size + 1 + 1, 2, none⟩ (.int .i64 (a2 % 65536))) = W1 at *
 have c0 : W1.cell? ⟨w.heap.size + 1 + 1, 0, none⟩ = some (.int .i64 (mdK a0)) := (blk_cell HS1.out.bx 0).trans rfl
 have c1 : W1.cell? ⟨w.heap.size + 1 + 1, 1, none⟩ = some (.int .i64 (a1 % 65536)) := (blk_cell HS1.out.bx 1).trans rfl
 have g1 := blk_frozen HS1.out.bx 1
 have c2 : W1.cell? ⟨w.heap.size + 1 + 1, 2, none⟩ = some (.int .i64 (a2 % 65536)) := (blk_cell HS1.out.bx 2).trans rfl
 have c3 : W1.cell? ⟨w.heap.size + 1 + 1, 3, none⟩ = some (.slice none 0 0) := (blk_cell HS1.out.bx 3).trans rfl
 have c4 : W1.cell? ⟨w.heap.size + 1 + 1, 4, none⟩ = some (.slice none 0 0) := (blk_cell HS1.out.bx 4).trans rfl
 have k0 : W1.cell? ⟨w.heap.size + 1, 0, none⟩ = some (.int .i64 0) := (blk_cell HS1.out.b0 0).trans rfl
 have e0 := blk_frozen HS1.out.b0 0
 have k1 : W1.cell? ⟨w.heap.size + 1, 1, none⟩ = some (.int .i64 0) := (blk_cell HS1.out.b0 1).trans rfl
 have e1 := blk_frozen HS1.out.b0 1
 have k2 : W1.cell? ⟨w.heap.size + 1, 2, none⟩ = some (.int .i64 0) := (blk_cell HS1.out.b0 2).trans rfl
 have e2 := blk_frozen HS1.out.b0 2
 have k3 : W1.cell? ⟨w.heap.size + 1, 3, none⟩ = some (.slice none 0 0) := (blk_cell HS1.out.b0 3).trans rfl
 have e3 := blk_frozen HS1.out.b0 3
 have k4 : W1.cell? ⟨w.heap.size + 1, 4, none⟩ = some (.slice none 0 0) := (blk_cell HS1.out.b0 4).trans rfl
 have e4 := blk_frozen HS1.out.b0 4
 have hM : Aside0 (a2 % 65536 = mdM a0 a2) := ⟨by unfold mdM; rw [if_neg hk]⟩
 by_cases h6 : mdK a0 = 6
 ·have h6b : (mdK a0 == 6) = true := by rw [h6]; rfl
  have hN : Aside0 (mdN a0 a1 = mdN a0 a1) := ⟨rfl⟩
  have hr : Int.tmod (a1 % 65536) 3 = a1 % 65536 % 3 := Int.tmod_eq_emod_of_nonneg (by omega)
  have hw2 : IntKind.i64.wrap (Int.tmod (a1 % 65536) 3) = a1 % 65536 % 3 := by rw [hr]; exact IntWalk.i64_in _ (by omega)
  have hw3 : IntKind.i64.wrap (a1 % 65536 % 3) = a1 % 65536 % 3 := IntWalk.i64_in _ (by omega)
  have hw4 : IntKind.i64.wrap (1 + a1 % 65536 % 3) = mdN a0 a1 := by unfold mdN; rw [if_neg hk, if_pos h6]; exact IntWalk.i64_in _ (by omega)
  have HSx := Aside0.mk (HS1.out.set 1 (.int .i64 (mdN a0 a1)))
  clear h6
  obtain ⟨W9, hW9, hbx, ho, hb9⟩ := MadSt.fin (c0 := .int .i64 (mdK a0)) (c1 := .int .i64 (mdN a0 a1)) (c2 := .int .i64 (a2 % 65536)) (v3 := .slice none 0 0) (v4 := .slice none 0 0) (by simpa using HSx.out)
  go_wp2_with fail
  rw [← hW9]
  clear hW9
  have y0 : W9.cell? ⟨w.heap.size + 1, 0, none⟩ = some (.int .i64 (mdK a0)) := (blk_cell hbx 0).trans rfl
  have y1 : W9.cell? ⟨w.heap.size + 1, 1, none⟩ = some (.int .i64 (mdN a0 a1)) := (blk_cell hbx 1).trans rfl
  have y2 : W9.cell? ⟨w.heap.size + 1, 2, none⟩ = some (.int .i64 (a2 % 65536)) := (blk_cell hbx 2).trans rfl
  have y3 : W9.cell? ⟨w.heap.size + 1, 3, none⟩ = some (.slice none 0 0) := (blk_cell hbx 3).trans rfl
  have y4 : W9.cell? ⟨w.heap.size + 1, 4, none⟩ = some (.slice none 0 0) := (blk_cell hbx 4).trans rfl
  refine bodyPost_ret (v := .agg #[.int .i64 (mdK a0), .int .i64 (mdN a0 a1), .int .i64 (mdM a0 a2), .slice none 0 0, .slice none 0 0]) ?_ rfl ⟨rfl, hb9⟩
  simp [results, Try.results37, go_sem, y0, y1, y2, y3, y4, hN.out, hM.out]
 ·have h6b : (mdK a0 == 6) = false := beq_eq_false_iff_ne.mpr h6
  have hN : Aside0 (a1 % 65536 = mdN a0 a1) := ⟨by unfold mdN; rw [if_neg hk, if_neg h6]⟩
  have HSx := HS1
  obtain ⟨W9, hW9, hbx, ho, hb9⟩ := MadSt.fin (c0 := .int .i64 (mdK a0)) (c1 := .int .i64 (a1 % 65536)) (c2 := .int .i64 (a2 % 65536)) (v3 := .slice none 0 0) (v4 := .slice none 0 0) (by simpa using HSx.out)
  go_wp2_with fail
  rw [← hW9]
  clear hW9
  have y0 : W9.cell? ⟨w.heap.size + 1, 0, none⟩ = some (.int .i64 (mdK a0)) := (blk_cell hbx 0).trans rfl
  have y1 : W9.cell? ⟨w.heap.size + 1, 1, none⟩ = some (.int .i64 (a1 % 65536)) := (blk_cell hbx 1).trans rfl
  have y2 : W9.cell? ⟨w.heap.size + 1, 2, none⟩ = some (.int .i64 (a2 % 65536)) := (blk_cell hbx 2).trans rfl
  have y3 : W9.cell? ⟨w.heap.size + 1, 3, none⟩ = some (.slice none 0 0) := (blk_cell hbx 3).trans rfl
  have y4 : W9.cell? ⟨w.heap.size + 1, 4, none⟩ = some (.slice none 0 0) := (blk_cell hbx 4).trans rfl
  refine bodyPost_ret (v := .agg #[.int .i64 (mdK a0), .int .i64 (mdN a0 a1), .int .i64 (mdM a0 a2), .slice none 0 0, .slice none 0 0]) ?_ rfl ⟨rfl, hb9⟩
  simp [results, Try.results37, go_sem, y0, y1, y2, y3, y4, hN.out, hM.out]
end Go.Proofs.Ytagkgddkpnbfoaa.P
namespace Go.Proofs.Ytagkgddkpnbfoaa.P
set_option linter.unusedVariables false
set_option linter.unusedSimpArgs false
open Go.RowKit Go.Proofs.YtagkgddkpnbfoaaW.PrintWords Go.Proofs.YtagkgddkpnbfoaaW.PrintLast Go.Proofs.YtagkgddkpnbfoaaW.PrintMore
theorem MadSt.only {w W W' : World} {rs cs : Array Value} {g : Nat} (h : MadSt w W rs cs) (ho : Only g W W') (hg : w.heap.size + 1 + 1 < g) : MadSt w W' rs cs :=
 ⟨(ho.block _ (by omega)).trans h.br, (ho.block _ (by omega)).trans h.b0, (ho.block _ (by omega)).trans h.bx, h.bl.trans (ho.below (by omega))⟩
def mdPn (l : List Int) (n : Nat) : List Int := (l.take n).map mdP1
def mdSn (l : List S49) (n : Nat) : List S49 := (l.take n).map mdS1
theorem cell_al {W W' : World} {p : Addr} {v : Value} {o : Obj} (h : W.cell? p = some v) (e : W'.heap = W.heap) : (W'.alloc o).cell? p = some v := by
 have h2 : W'.cell? p = some v := by simpa [World.cell?, e] using h
 exact (World.cell?_alloc_some _ _ _ (by rw [h2]; rfl)).trans h2
theorem drawn_below {W W' : World} (h : Drawn0 W W') : Below W.heap.size W W' := by
 obtain ⟨q, rfl⟩ := h
 exact pw_below_drewN (Below.refl _ _) q
set_option maxRecDepth 100000 in
set_option maxHeartbeats 3200000 in
theorem made_plan (a0 a1 a2 : Int) (A3 : Option Addr) (c3 : Nat) (l3 : List Int) (A4 : Option Addr) (c4 : Nat) (l4 : List S49) (w : World) (hr3 : Kd.C (Kd.int .i64) w A3 l3.length l3) (hc3 : l3.length ≤ c3) (hr4 : Kd.C k49 w A4 l4.length l4) (hc4 : l4.length ≤ c4) (hk : mdK a0 = 1) :
  Calls Try.prog 37 #[.agg #[.int .i64 a0, .int .i64 a1, .int .i64 a2, .slice A3 l3.length c3, .slice A4 l4.length c4]] w fun e w' => ∃ v3_ v4_ : Value, e = .returned (.agg #[.int .i64 1, .int .i64 0, .int .i64 0, v3_, v4_]) ∧
   Kd.R (Kd.int .i64) 3 w' w.heap.size (fun _ => True) v3_ (mdPn l3 24) ∧ Kd.R k49 49 w' w.heap.size (fun _ => True) v4_ (mdSn l4 255) ∧ Below w.heap.size w w' := by
 have hw1 : IntKind.i64.wrap (1 + a0 % 6) = 1 := by unfold mdK at hk; rw [hk]; exact IntWalk.i64_in _ (by omega)
 have HR3 := Aside0.mk hr3
 have HR4 := Aside0.mk hr4
 have hm3 := hr3.2.1
 have hm4 := hr4.2.1
 clear hr3 hr4
 go_enter Try.func37, Try.ntmps37
 go_upto_block 0 with (first | (go_at_call 24; refine (bring_at a0 6 _ (by omega) (by omega)).mono ?_; rintro e w' ⟨rfl, ⟨nd, rfl⟩⟩))
 have HS0 := Aside0.mk (MadSt.start w #[.int .i64 a0, .int .i64 a1, .int .i64 a2, .slice A3 l3.length c3, .slice A4 l4.length c4] #[.int .i64 1, .int .i64 0, .int .i64 0, .slice none 0 0, .slice none 0 0] nd)
 generalize ((((w.alloc (.cells #[.int .i64 a0, .int .i64 a1, .int .i64 a2, .slice A3 l3.length c3, .slice A4 l4.length c4] 25)).alloc (.cells #[.int .i64 0, .int .i64 0, .int .i64 0, .slice none 0 0, .slice none 0 0] 25)).drewN nd).alloc (.cells #[.int .i64 1, .int .i64 0, .int .i64 0, .slice none 0 0, .slice none 0 0] 25)) = W0 at *
 have hkp : ∀ (W : World) (i j : Nat) (v : Value), (W.setCell ⟨w.heap.size + 1 + 1, i, none⟩ v).cell? ⟨w.heap.size, j, none⟩ = W.cell? ⟨w.heap.size, j, none⟩ := fun W i j v => (Only.set W _ i v).cell (by omega)
 go_cut [] (fun wc => ∃ (vP : Value), Aside0 (MadSt w wc #[.int .i64 a0, .int .i64 a1, .int .i64 a2, .slice A3 l3.length c3, .slice A4 l4.length c4] #[.int .i64 1, .int .i64 0, .int .i64 0, vP, .slice none 0 0]) ∧
    Aside0 (Kd.R (Kd.int .i64) 3 wc w.heap.size (fun k => w.heap.size + 1 + 1 < k) vP (mdPn l3 24)))
 case first =>
  go_wp2
  go_loopw [4] (fun iv W => ∃ (n : Nat) (vP : Value), Aside0 (n ≤ l3.length ∧ n ≤ 24) ∧ iv = .int .i64 (n : Int) ∧ Aside0 (MadSt w W #[.int .i64 a0, .int .i64 a1, .int .i64 a2, .slice A3 l3.length c3, .slice A4 l4.length c4] #[.int .i64 1, .int .i64 0, .int .i64 0, vP, .slice none 0 0]) ∧
     Aside0 (Kd.R (Kd.int .i64) 3 W w.heap.size (fun k => w.heap.size + 1 + 1 < k) vP (mdPn l3 n))) (fun iv _ => 24 - (intOf iv).toNat)
  case atStart => exact ⟨0, .slice none 0 0, ⟨by omega⟩, rfl, HS0, ⟨Kd.R_nil _ _ _ _ _⟩⟩
  case round =>
   obtain ⟨n, vP, hn, rfl, HS4, HP⟩ := hrel
   clear HS0
   have b3 : wr.cell? ⟨w.heap.size, 3, none⟩ = some (.slice A3 l3.length c3) := (blk_cell HS4.out.br 3).trans rfl
   by_cases hlt : n < l3.length ∧ n < 24
   ·obtain ⟨hl1, hl2⟩ := hlt
    have hd1 : (n : Int) < (l3.length : Int) := by omega
    have hd2 : (n : Int) < 24 := by omega
    obtain ⟨ad3, rfl, x3⟩ := Kd.at_int HR3.out (n : Int) (by omega) (by omega)
    rw [Int.toNat_natCast] at x3
    have e3 := (HS4.out.bl.cell (World.block_lt_of_cell? w _ x3)).trans x3
    have hP3 : wr.cell? ⟨w.heap.size + 1 + 1, 3, none⟩ = some vP := (blk_cell HS4.out.bx 3).trans rfl
    have hwp : IntKind.i64.wrap (rd l3 (n : Int) % 9 - 1) = mdP1 (rd l3 (n : Int)) := IntWalk.i64_in _ (by omega)
    have hpn : Aside0 (mdPn l3 (n + 1) = mdPn l3 n ++ [mdP1 (rd l3 (n : Int))]) := ⟨by unfold mdPn; rw [rd_at hl1, List.take_succ_eq_append_getElem hl1, List.map_append]; rfl⟩
    replace HS4 := Aside0.mk (HS4.out.below (below_drew (Below.refl wr.heap.size wr)))
    replace HP := Aside0.mk (Kd.R_drew HP.out)
    have hz1 : w.heap.size + 1 + 1 < wr.drew.heap.size := blk_lt HS4.out.bx
    have hz0 : w.heap.size < wr.drew.heap.size := blk_lt HS4.out.br
    have hz3 : (ad3.add n).block < wr.drew.heap.size := Nat.lt_of_lt_of_le (World.block_lt_of_cell? w _ x3) HS4.out.bl.size
    go_wp2_with fail
    refine start_ (n := 13) (S := fun w' => w'.cell? ⟨w.heap.size + 1 + 1, 3, none⟩ = some vP ∧ w'.cell? ⟨w.heap.size, 3, none⟩ = some (.slice (some ad3) l3.length c3) ∧ w'.cell? (ad3.add n) = some (.int .i64 (rd l3 (n : Int)))) (ds := [10, 12]) #[false, false, false, false, false, false, false, false, false, false, false, false, false] (by kernel_rfl) rfl rfl ⟨hP3, b3, e3⟩ (fun hHeld => ?_)
    refine pureS_ (i := 0) (N := some 43) (v := ?_) (a' := ?_) rfl rfl (by kernel_rfl) (fun _ _ _ h => h) (Or.inl ⟨by rfl, ?_⟩) ?_ ?_
    rotate_left; (· intro w'; go_simp; with_reducible rfl); rotate_left; (· simp only [Act.put, List.setIfInBounds_toArray, List.set_cons_zero, List.set_cons_succ, i64_w, i32_w]; rfl)
    refine pureS_ (i := 2) (N := some 45) (v := ?_) (a' := ?_) rfl rfl (by kernel_rfl) (fun _ _ _ h => h) (Or.inl ⟨by rfl, ?_⟩) ?_ ?_
    rotate_left; (· intro w'; go_simp; with_reducible rfl); rotate_left; (· simp only [Act.put, List.setIfInBounds_toArray, List.set_cons_zero, List.set_cons_succ, i64_w, i32_w]; rfl)
    refine pureS_ (i := 4) (N := some 47) (v := ?_) (a' := ?_) rfl rfl (by kernel_rfl) (fun _ _ _ h => h) (Or.inl ⟨by rfl, ?_⟩) ?_ ?_
    rotate_left; (· intro w'; go_simp; with_reducible rfl); rotate_left; (· simp only [Act.put, List.setIfInBounds_toArray, List.set_cons_zero, List.set_cons_succ, i64_w, i32_w]; rfl)
    refine takeS_ (i := 1) (N := some 44) (v := ?_) (a' := ?_) rfl rfl (by kernel_rfl) (fun _ _ _ h => h) (Or.inl ⟨by rfl, ?_⟩) hHeld ?_ ?_
    rotate_left; (· rintro w' ⟨s0, s1, s2⟩; go_simp; with_reducible rfl); rotate_left; (· simp only [Act.put, List.setIfInBounds_toArray, List.set_cons_zero, List.set_cons_succ, i64_w, i32_w]; rfl)
    refine takeS_ (i := 3) (N := some 46) (v := ?_) (a' := ?_) rfl rfl (by kernel_rfl) (fun _ _ _ h => h) (Or.inl ⟨by rfl, ?_⟩) hHeld ?_ ?_
    rotate_left; (· rintro w' ⟨s0, s1, s2⟩; go_simp; with_reducible rfl); rotate_left; (· simp only [Act.put, List.setIfInBounds_toArray, List.set_cons_zero, List.set_cons_succ, i64_w, i32_w]; rfl)
    refine pureS_ (i := 5) (N := some 48) (v := ?_) (a' := ?_) rfl rfl (by kernel_rfl) (fun _ _ _ h => h) (Or.inl ⟨by rfl, ?_⟩) ?_ ?_
    rotate_left; (· intro w'; go_simp; with_reducible rfl); rotate_left; (· simp only [Act.put, List.setIfInBounds_toArray, List.set_cons_zero, List.set_cons_succ, i64_w, i32_w]; rfl)
    refine takeS_ (i := 6) (N := some 49) (v := ?_) (a' := ?_) rfl rfl (by kernel_rfl) (fun _ _ _ h => h) (Or.inl ⟨by rfl, ?_⟩) hHeld ?_ ?_
    rotate_left; (· rintro w' ⟨s0, s1, s2⟩; go_simp; with_reducible rfl); rotate_left; (· simp only [Act.put, List.setIfInBounds_toArray, List.set_cons_zero, List.set_cons_succ, i64_w, i32_w]; rfl)
    refine oneS_ (i := 7) (N := some 50) rfl rfl (by kernel_rfl) (by decide) (fun K hK => ?_)
    refine goes_ Try.func24 (by kernel_rfl) rfl #[.int .i64 (rd l3 (n : Int)), .int .i64 9] (by rfl) rfl rfl (by simp only [List.map_toArray, List.map_cons, List.map_nil]; rfl) ?_
    with_reducible refine (bring_at _ 9 _ (by omega) (by omega)).mono ?_
    rintro e w3 ⟨rfl, hD⟩
    refine ⟨_, rfl, ?_⟩
    have hb3 := drawn_below hD
    have HS5 := Aside0.mk (HS4.out.below hb3)
    have HP5 := Aside0.mk (Kd.R_below HP.out hb3)
    refine hK.out _ _ ⟨((hb3.cell (p := ⟨w.heap.size + 1 + 1, 3, none⟩) hz1).trans hHeld.1), ((hb3.cell (p := ⟨w.heap.size, 3, none⟩) hz0).trans hHeld.2.1), ((hb3.cell (p := ad3.add n) hz3).trans hHeld.2.2)⟩ (fun hHeld => ?_)
    clear hK K
    refine norm_ (a' := ?_) ?_ ?_
    rotate_left
    ·show Act.put _ (some 50) _ = _
     simp only [Act.put, List.setIfInBounds_toArray, List.set_cons_zero, List.set_cons_succ, i64_w, i32_w]
     rfl
    refine pureS_ (i := 8) (N := some 51) (v := ?_) (a' := ?_) rfl rfl (by kernel_rfl) (fun _ _ _ h => h) (Or.inl ⟨by rfl, ?_⟩) ?_ ?_
    rotate_left; (· intro w'; go_simp; with_reducible rfl); rotate_left; (· simp only [Act.put, List.setIfInBounds_toArray, List.set_cons_zero, List.set_cons_succ, i64_w, i32_w]; rfl)
    refine oneS_ (i := 9) (N := some 52) rfl rfl (by kernel_rfl) (by decide) (fun K hK => ?_)
    refine value_ (w1 := ?_) (v := ?_) (by rfl) rfl ?_ ?_
    rotate_left 2
    ·go_simp
     constructor
     ·rfl
     ·rfl
    refine hK.out _ _ ⟨((World.cell?_alloc_some _ _ _ (by rw [hHeld.1]; rfl)).trans hHeld.1), ((World.cell?_alloc_some _ _ _ (by rw [hHeld.2.1]; rfl)).trans hHeld.2.1), ((World.cell?_alloc_some _ _ _ (by rw [hHeld.2.2]; rfl)).trans hHeld.2.2)⟩ (fun hHeld => ?_)
    clear hK K
    refine norm_ (a' := ?_) ?_ ?_
    rotate_left
    ·show Act.put _ (some 52) _ = _
     simp only [Act.put, List.setIfInBounds_toArray, List.set_cons_zero, List.set_cons_succ, i64_w, i32_w]
     rfl
    refine lastS_ (i := 10) (N := some 53) rfl rfl (by kernel_rfl) (by decide) (fun K hK => ?_)
    clear hHeld
    have HSa := Aside0.mk HS5.out
    refine Kd.R_append_step (Kd.int .i64) (w0 := w) (W := w3) w.heap.size (by rfl) (.tmp 44) (.tmp 52) 22 3 (.int .i64 0) 8 (by rfl) Try.underlying22 info3x rfl (by decide) (by decide) vP (mdPn l3 n) (mdP1 (rd l3 (n : Int))) [.int .i64 (mdP1 (rd l3 (n : Int)))] (fun k_ => w.heap.size + 1 + 1 < k_) (fun _ => False) rfl rfl ?_ (fun _ h => h.elim) ?_ ?_ ?_ ?_ ?_ ?_
    ·exact rfl
    ·intro k_ hk_; have hl_ := blk_lt HSa.out.bx; omega
    ·exact HP5.out
    ·exact HSa.out.bl
    ·exact HSa.out.bl.size
    ·simp [mdPn, mdSn]; omega
    intro v1 w1 HV1 hb1 hg1 hat1
    have HS7 := Aside0.mk (HSa.out.grown hg1 (fun k hk => HP5.out.1 k hk))
    have c3_ : w1.cell? ⟨w.heap.size + 1 + 1, 3, none⟩ = some vP := (blk_cell HS7.out.bx 3).trans rfl
    have f3_ := blk_frozen HS7.out.bx 3
    obtain ⟨A1_, c1_, rfl⟩ := Kd.R_slice HV1
    simp only [List.length_append, List.length_singleton] at HV1
    replace HV1 := Aside0.mk HV1
    clear hb1 hg1 hat1
    refine hK.out _ _ ?_
    clear hK K
    refine norm_ (a' := ?_) ?_ ?_
    rotate_left
    ·show Act.put _ (some 53) _ = _
     simp only [Act.put, List.setIfInBounds_toArray, List.set_cons_zero, List.set_cons_succ, i64_w, i32_w]
     rfl
    refine pureS_ (i := 11) (N := some 54) (v := ?_) (a' := ?_) rfl rfl (by kernel_rfl) (fun _ _ _ h => h) (Or.inl ⟨by rfl, ?_⟩) ?_ ?_
    rotate_left; (· intro w'; go_simp; with_reducible rfl); rotate_left; (· simp only [Act.put, List.setIfInBounds_toArray, List.set_cons_zero, List.set_cons_succ, i64_w, i32_w]; rfl)
    refine lastS_ (i := 12) (N := none) rfl rfl (by kernel_rfl) (by decide) (fun K hK => ?_)
    refine skip_ (w1 := ?_) (by rfl) rfl ?_ ?_
    rotate_left
    ·go_simp
     rfl
    refine hK.out _ _ ?_
    clear hK K
    refine done_ (by kernel_rfl) ?_
    go_wp2_with fail
    go_roundw
    case rel => exact ⟨n + 1, _, ⟨by omega⟩, by go_num, ⟨by simpa using HS7.out.set 3 _⟩, ⟨by rw [hpn.out]; exact Kd.R_far (p := ⟨w.heap.size + 1 + 1, 3, none⟩) HV1.out (fun k hk => by show k ≠ w.heap.size + 1 + 1; omega) _⟩⟩
    case measure => simp [intOf]; omega
   ·have hpe : mdPn l3 n = mdPn l3 24 := by unfold mdPn; rw [show l3.take n = l3.take 24 by have := hn.out; rw [List.take_eq_take_iff]; omega]
    by_cases hl1 : n < l3.length
    ·have hd1 : (n : Int) < (l3.length : Int) := by omega
     have hd2 : ¬ ((n : Int) < 24) := by omega
     have hd3 : decide (n < 24) = false := decide_eq_false (by omega)
     go_wp2_with fail
     go_meet
     case rel => exact ⟨vP, HS4, ⟨by rw [← hpe]; exact HP.out⟩⟩
    ·have hd1 : ¬ ((n : Int) < (l3.length : Int)) := by omega
     go_wp2_with fail
     go_meet
     case rel => exact ⟨vP, HS4, ⟨by rw [← hpe]; exact HP.out⟩⟩
 case rest =>
  obtain ⟨vP, HS4, HP⟩ := hcut
  clear HS0
  go_upto_block 2 with (fail)
  go_cut [] (fun wc => ∃ (vS : Value), Aside0 (MadSt w wc #[.int .i64 a0, .int .i64 a1, .int .i64 a2, .slice A3 l3.length c3, .slice A4 l4.length c4] #[.int .i64 1, .int .i64 0, .int .i64 0, vP, vS]) ∧
    Aside0 (Kd.R (Kd.int .i64) 3 wc w.heap.size (fun k => w.heap.size + 1 + 1 < k) vP (mdPn l3 24)) ∧ Aside0 (Kd.R k49 49 wc w.heap.size (fun k => w.heap.size + 1 + 1 < k) vS (mdSn l4 255)))
  case first =>
   go_wp2
   go_loopw [5] (fun iv W => ∃ (n : Nat) (vS : Value), Aside0 (n ≤ l4.length ∧ n ≤ 255) ∧ iv = .int .i64 (n : Int) ∧ Aside0 (MadSt w W #[.int .i64 a0, .int .i64 a1, .int .i64 a2, .slice A3 l3.length c3, .slice A4 l4.length c4] #[.int .i64 1, .int .i64 0, .int .i64 0, vP, vS]) ∧
    Aside0 (Kd.R (Kd.int .i64) 3 W w.heap.size (fun k => w.heap.size + 1 + 1 < k) vP (mdPn l3 24)) ∧ Aside0 (Kd.R k49 49 W w.heap.size (fun k => w.heap.size + 1 + 1 < k) vS (mdSn l4 n))) (fun iv _ => 255 - (intOf iv).toNat)
   case atStart => exact ⟨0, .slice none 0 0, ⟨by omega⟩, rfl, HS4, HP, ⟨Kd.R_nil _ _ _ _ _⟩⟩
   case round =>
    obtain ⟨n, vS, hn, rfl, HS6, HP6, HT6⟩ := hrel
    clear HS4 HP
    have b4 : wr.cell? ⟨w.heap.size, 4, none⟩ = some (.slice A4 l4.length c4) := (blk_cell HS6.out.br 4).trans rfl
    by_cases hlt : n < l4.length ∧ n < 255
    ·obtain ⟨hl1, hl2⟩ := hlt
     have hd1 : (n : Int) < (l4.length : Int) := by omega
     have hd2 : (n : Int) < 255 := by omega
     obtain ⟨ad4, rfl, x0, x1, x2⟩ := at_T49 HR4.out (n : Int) (by omega) (by omega)
     rw [Int.toNat_natCast] at x0 x1 x2
     have e0 := (HS6.out.bl.cell (World.block_lt_of_cell? w _ x0)).trans x0
     have e1 := (HS6.out.bl.cell (World.block_lt_of_cell? w _ x1)).trans x1
     have e2 := (HS6.out.bl.cell (World.block_lt_of_cell? w _ x2)).trans x2
     have hP4 : wr.cell? ⟨w.heap.size + 1 + 1, 4, none⟩ = some vS := (blk_cell HS6.out.bx 4).trans rfl
     have hw6 : IntKind.i64.wrap (1 + (rd_T49 l4 (n : Int)).f0 % 2) = 1 + (rd_T49 l4 (n : Int)).f0 % 2 := IntWalk.i64_in _ (by omega)
     have hz4 : (ad4.add (n * 3)).block < wr.heap.size := World.block_lt_of_cell? wr _ e0
     have hzr : w.heap.size + 1 + 1 < wr.heap.size := blk_lt HS6.out.bx
     go_wp2_with fail
     refine start_ (n := 18) (S := fun w' => w'.cell? ⟨w.heap.size, 4, none⟩ = some (.slice (some ad4) l4.length c4) ∧ w'.cell? (ad4.add (n * 3)) = some (.int .i64 (rd_T49 l4 (n : Int)).f0) ∧ w'.cell? ⟨(ad4.add (n * 3)).block, (ad4.add (n * 3)).off + 1, none⟩ = some (.int .i64 (rd_T49 l4 (n : Int)).f1)) (ds := [17]) #[false, false, false, false, false, false, false, false, false, false, false, false, false, false, false, false, false, false] (by kernel_rfl) rfl rfl ⟨b4, e0, e1⟩ (fun hHeld => ?_)
     refine pureS_ (i := 0) (N := some 66) (v := ?_) (a' := ?_) rfl rfl (by kernel_rfl) (fun _ _ _ h => h) (Or.inl ⟨by rfl, ?_⟩) ?_ ?_
     rotate_left; (· intro w'; go_simp; with_reducible rfl); rotate_left; (· simp only [Act.put, List.setIfInBounds_toArray, List.set_cons_zero, List.set_cons_succ, i64_w, i32_w]; rfl)
     refine pureS_ (i := 2) (N := some 68) (v := ?_) (a' := ?_) rfl rfl (by kernel_rfl) (fun _ _ _ h => h) (Or.inl ⟨by rfl, ?_⟩) ?_ ?_
     rotate_left; (· intro w'; go_simp; with_reducible rfl); rotate_left; (· simp only [Act.put, List.setIfInBounds_toArray, List.set_cons_zero, List.set_cons_succ, i64_w, i32_w]; rfl)
     refine pureS_ (i := 8) (N := some 74) (v := ?_) (a' := ?_) rfl rfl (by kernel_rfl) (fun _ _ _ h => h) (Or.inl ⟨by rfl, ?_⟩) ?_ ?_
     rotate_left; (· intro w'; go_simp; with_reducible rfl); rotate_left; (· simp only [Act.put, List.setIfInBounds_toArray, List.set_cons_zero, List.set_cons_succ, i64_w, i32_w]; rfl)
     refine pureS_ (i := 10) (N := some 76) (v := ?_) (a' := ?_) rfl rfl (by kernel_rfl) (fun _ _ _ h => h) (Or.inl ⟨by rfl, ?_⟩) ?_ ?_
     rotate_left; (· intro w'; go_simp; with_reducible rfl); rotate_left; (· simp only [Act.put, List.setIfInBounds_toArray, List.set_cons_zero, List.set_cons_succ, i64_w, i32_w]; rfl)
     refine takeS_ (i := 1) (N := some 67) (v := ?_) (a' := ?_) rfl rfl (by kernel_rfl) (fun _ _ _ h => h) (Or.inl ⟨by rfl, ?_⟩) hHeld ?_ ?_
     rotate_left; (· rintro w' ⟨s0, s1, s2⟩; go_simp; with_reducible rfl); rotate_left; (· simp only [Act.put, List.setIfInBounds_toArray, List.set_cons_zero, List.set_cons_succ, i64_w, i32_w]; rfl)
     refine pureS_ (i := 3) (N := some 69) (v := ?_) (a' := ?_) rfl rfl (by kernel_rfl) (fun _ _ _ h => h) (Or.inl ⟨by rfl, ?_⟩) ?_ ?_
     rotate_left; (· intro w'; go_simp; with_reducible rfl); rotate_left; (· simp only [Act.put, List.setIfInBounds_toArray, List.set_cons_zero, List.set_cons_succ, i64_w, i32_w]; rfl)
     refine pureS_ (i := 4) (N := some 70) (v := ?_) (a' := ?_) rfl rfl (by kernel_rfl) (fun _ _ _ h => h) (Or.inl ⟨by rfl, ?_⟩) ?_ ?_
     rotate_left; (· intro w'; go_simp; with_reducible rfl); rotate_left; (· simp only [Act.put, List.setIfInBounds_toArray, List.set_cons_zero, List.set_cons_succ, i64_w, i32_w]; rfl)
     refine takeS_ (i := 5) (N := some 71) (v := ?_) (a' := ?_) rfl rfl (by kernel_rfl) (fun _ _ _ h => h) (Or.inl ⟨by rfl, ?_⟩) hHeld ?_ ?_
     rotate_left; (· rintro w' ⟨s0, s1, s2⟩; go_simp; with_reducible rfl); rotate_left; (· simp only [Act.put, List.setIfInBounds_toArray, List.set_cons_zero, List.set_cons_succ, i64_w, i32_w]; rfl)
     refine takeS_ (i := 9) (N := some 75) (v := ?_) (a' := ?_) rfl rfl (by kernel_rfl) (fun _ _ _ h => h) (Or.inl ⟨by rfl, ?_⟩) hHeld ?_ ?_
     rotate_left; (· rintro w' ⟨s0, s1, s2⟩; go_simp; with_reducible rfl); rotate_left; (· simp only [Act.put, List.setIfInBounds_toArray, List.set_cons_zero, List.set_cons_succ, i64_w, i32_w]; rfl)
     refine pureS_ (i := 11) (N := some 77) (v := ?_) (a' := ?_) rfl rfl (by kernel_rfl) (fun _ _ _ h => h) (Or.inl ⟨by rfl, ?_⟩) ?_ ?_
     rotate_left; (· intro w'; go_simp; with_reducible rfl); rotate_left; (· simp only [Act.put, List.setIfInBounds_toArray, List.set_cons_zero, List.set_cons_succ, i64_w, i32_w]; rfl)
     refine pureS_ (i := 12) (N := some 78) (v := ?_) (a' := ?_) rfl rfl (by kernel_rfl) (fun _ _ _ h => h) (Or.inl ⟨by rfl, ?_⟩) ?_ ?_
     rotate_left; (· intro w'; go_simp; with_reducible rfl); rotate_left; (· simp only [Act.put, List.setIfInBounds_toArray, List.set_cons_zero, List.set_cons_succ, i64_w, i32_w]; rfl)
     refine takeS_ (i := 13) (N := some 79) (v := ?_) (a' := ?_) rfl rfl (by kernel_rfl) (fun _ _ _ h => h) (Or.inl ⟨by rfl, ?_⟩) hHeld ?_ ?_
     rotate_left; (· rintro w' ⟨s0, s1, s2⟩; go_simp; with_reducible rfl); rotate_left; (· simp only [Act.put, List.setIfInBounds_toArray, List.set_cons_zero, List.set_cons_succ, i64_w, i32_w]; rfl)
     refine join_ (σ := Unit) 1 #[true, true, true, true, true, true, true, true, true, true, true, true, true, true, true, true, true, false] (fun s_ => [(72, .int .i64 ((rd_T49 l4 (n : Int)).f0 % 2)), (73, .int .i64 (1 + (rd_T49 l4 (n : Int)).f0 % 2)), (80, .int .i64 ((rd_T49 l4 (n : Int)).f1 % 24)), (81, .agg #[.int .i64 (1 + (rd_T49 l4 (n : Int)).f0 % 2), .int .i64 ((rd_T49 l4 (n : Int)).f1 % 24), .int .i64 0]), (6, .pointer (some ⟨wr.heap.size, 0, none⟩))]) (fun s_ w' => Below wr.heap.size wr w' ∧ w'.heap = (wr.alloc (.cells #[.int .i64 0, .int .i64 0, .int .i64 0] 49)).heap) ?_ ?_
     rotate_left
     ·intro hCont
      refine two_ (i := 6) (j := 16) (Ni := some 72) (Nj := some 6) #[true, true, true, true, true, true, true, false, true, true, true, true, true, true, false, false, false, false] #[true, true, true, true, true, true, false, false, true, true, true, true, true, true, false, false, true, false] rfl rfl rfl rfl (by kernel_rfl) (by decide) (by decide) (fun K hK => ?_) (fun K hK => ?_)
      ·skip
       refine goes_ Try.func24 (by kernel_rfl) rfl #[.int .i64 (rd_T49 l4 (n : Int)).f0, .int .i64 2] (by rfl) rfl rfl (by simp only [List.map_toArray, List.map_cons, List.map_nil]; rfl) ?_
       with_reducible refine (bring_at _ 2 _ (by omega) (by omega)).mono ?_
       rintro e w_ ⟨rfl, ⟨q6, rfl⟩⟩
       refine ⟨_, rfl, ?_⟩
       refine hK.out _ _ ⟨hHeld.1, hHeld.2.1, hHeld.2.2⟩ (fun hHeld => ?_)
       clear hK K
       refine norm_ (a' := ?_) ?_ ?_
       rotate_left
       ·show Act.put _ (some 72) _ = _
        simp only [Act.put, List.setIfInBounds_toArray, List.set_cons_zero, List.set_cons_succ, i64_w, i32_w]
        rfl
       refine pureS_ (i := 7) (N := some 73) (v := ?_) (a' := ?_) rfl rfl (by kernel_rfl) (fun _ _ _ h => h) (Or.inl ⟨by rfl, ?_⟩) ?_ ?_
       rotate_left; (· intro w'; go_simp; with_reducible rfl); rotate_left; (· simp only [Act.put, List.setIfInBounds_toArray, List.set_cons_zero, List.set_cons_succ, i64_w, i32_w]; rfl)
       refine two_ (i := 14) (j := 16) (Ni := some 80) (Nj := some 6) #[true, true, true, true, true, true, true, true, true, true, true, true, true, true, true, false, false, false] #[true, true, true, true, true, true, true, true, true, true, true, true, true, true, false, false, true, false] rfl rfl rfl rfl (by kernel_rfl) (by decide) (by decide) (fun K hK => ?_) (fun K hK => ?_)
       ·skip
        refine goes_ Try.func24 (by kernel_rfl) rfl #[.int .i64 (rd_T49 l4 (n : Int)).f1, .int .i64 24] (by rfl) rfl rfl (by simp only [List.map_toArray, List.map_cons, List.map_nil]; rfl) ?_
        with_reducible refine (bring_at _ 24 _ (by omega) (by omega)).mono ?_
        rintro e w_ ⟨rfl, ⟨q14, rfl⟩⟩
        refine ⟨_, rfl, ?_⟩
        refine hK.out _ _ ⟨hHeld.1, hHeld.2.1, hHeld.2.2⟩ (fun hHeld => ?_)
        clear hK K
        refine norm_ (a' := ?_) ?_ ?_
        rotate_left
        ·show Act.put _ (some 80) _ = _
         simp only [Act.put, List.setIfInBounds_toArray, List.set_cons_zero, List.set_cons_succ, i64_w, i32_w]
         rfl
        refine pureS_ (i := 15) (N := some 81) (v := ?_) (a' := ?_) rfl rfl (by kernel_rfl) (fun _ _ _ h => h) (Or.inl ⟨by rfl, ?_⟩) ?_ ?_
        rotate_left; (· intro w'; go_simp; with_reducible rfl); rotate_left; (· simp only [Act.put, List.setIfInBounds_toArray, List.set_cons_zero, List.set_cons_succ, i64_w, i32_w]; rfl)
        refine oneS_ (i := 16) (N := some 6) rfl rfl (by kernel_rfl) (by decide) (fun K hK => ?_)
        refine value_ (w1 := ?_) (v := ?_) (by rfl) rfl ?_ ?_
        rotate_left 2
        ·go_simp
         constructor
         ·rfl
         ·rfl
        refine hK.out _ _ ⟨(cell_al hHeld.1 rfl), (cell_al hHeld.2.1 rfl), (cell_al hHeld.2.2 rfl)⟩ (fun hHeld => ?_)
        clear hK K
        refine norm_ (a' := ?_) ?_ ?_
        rotate_left
        ·show Act.put _ (some 6) _ = _
         simp only [Act.put, List.setIfInBounds_toArray, List.set_cons_zero, List.set_cons_succ, i64_w, i32_w]
         rfl
        exact norm_ (by simp only [putAll, Act.put, List.setIfInBounds_toArray, List.set_cons_zero, List.set_cons_succ]) (hCont () _ ⟨by (repeat (first | exact Below.refl _ _ | apply below_alloc | apply pw_below_drewN | apply below_drew)), rfl⟩)
       ·skip
        refine value_ (w1 := ?_) (v := ?_) (by rfl) rfl ?_ ?_
        rotate_left 2
        ·go_simp
         constructor
         ·rfl
         ·rfl
        refine hK.out _ _ ⟨(cell_al hHeld.1 rfl), (cell_al hHeld.2.1 rfl), (cell_al hHeld.2.2 rfl)⟩ (fun hHeld => ?_)
        clear hK K
        refine norm_ (a' := ?_) ?_ ?_
        rotate_left
        ·show Act.put _ (some 6) _ = _
         simp only [Act.put, List.setIfInBounds_toArray, List.set_cons_zero, List.set_cons_succ, i64_w, i32_w]
         rfl
        refine oneS_ (i := 14) (N := some 80) rfl rfl (by kernel_rfl) (by decide) (fun K hK => ?_)
        refine goes_ Try.func24 (by kernel_rfl) rfl #[.int .i64 (rd_T49 l4 (n : Int)).f1, .int .i64 24] (by rfl) rfl rfl (by simp only [List.map_toArray, List.map_cons, List.map_nil]; rfl) ?_
        with_reducible refine (bring_at _ 24 _ (by omega) (by omega)).mono ?_
        rintro e w_ ⟨rfl, ⟨q14, rfl⟩⟩
        refine ⟨_, rfl, ?_⟩
        refine hK.out _ _ ⟨hHeld.1, hHeld.2.1, hHeld.2.2⟩ (fun hHeld => ?_)
        clear hK K
        refine norm_ (a' := ?_) ?_ ?_
        rotate_left
        ·show Act.put _ (some 80) _ = _
         simp only [Act.put, List.setIfInBounds_toArray, List.set_cons_zero, List.set_cons_succ, i64_w, i32_w]
         rfl
        refine pureS_ (i := 15) (N := some 81) (v := ?_) (a' := ?_) rfl rfl (by kernel_rfl) (fun _ _ _ h => h) (Or.inl ⟨by rfl, ?_⟩) ?_ ?_
        rotate_left; (· intro w'; go_simp; with_reducible rfl); rotate_left; (· simp only [Act.put, List.setIfInBounds_toArray, List.set_cons_zero, List.set_cons_succ, i64_w, i32_w]; rfl)
        exact norm_ (by simp only [putAll, Act.put, List.setIfInBounds_toArray, List.set_cons_zero, List.set_cons_succ]) (hCont () _ ⟨by (repeat (first | exact Below.refl _ _ | apply below_alloc | apply pw_below_drewN | apply below_drew)), rfl⟩)
      ·skip
       refine value_ (w1 := ?_) (v := ?_) (by rfl) rfl ?_ ?_
       rotate_left 2
       ·go_simp
        constructor
        ·rfl
        ·rfl
       refine hK.out _ _ ⟨(cell_al hHeld.1 rfl), (cell_al hHeld.2.1 rfl), (cell_al hHeld.2.2 rfl)⟩ (fun hHeld => ?_)
       clear hK K
       refine norm_ (a' := ?_) ?_ ?_
       rotate_left
       ·show Act.put _ (some 6) _ = _
        simp only [Act.put, List.setIfInBounds_toArray, List.set_cons_zero, List.set_cons_succ, i64_w, i32_w]
        rfl
       refine oneS_ (i := 6) (N := some 72) rfl rfl (by kernel_rfl) (by decide) (fun K hK => ?_)
       refine goes_ Try.func24 (by kernel_rfl) rfl #[.int .i64 (rd_T49 l4 (n : Int)).f0, .int .i64 2] (by rfl) rfl rfl (by simp only [List.map_toArray, List.map_cons, List.map_nil]; rfl) ?_
       with_reducible refine (bring_at _ 2 _ (by omega) (by omega)).mono ?_
       rintro e w_ ⟨rfl, ⟨q6, rfl⟩⟩
       refine ⟨_, rfl, ?_⟩
       refine hK.out _ _ ⟨hHeld.1, hHeld.2.1, hHeld.2.2⟩ (fun hHeld => ?_)
       clear hK K
       refine norm_ (a' := ?_) ?_ ?_
       rotate_left
       ·show Act.put _ (some 72) _ = _
        simp only [Act.put, List.setIfInBounds_toArray, List.set_cons_zero, List.set_cons_succ, i64_w, i32_w]
        rfl
       refine pureS_ (i := 7) (N := some 73) (v := ?_) (a' := ?_) rfl rfl (by kernel_rfl) (fun _ _ _ h => h) (Or.inl ⟨by rfl, ?_⟩) ?_ ?_
       rotate_left; (· intro w'; go_simp; with_reducible rfl); rotate_left; (· simp only [Act.put, List.setIfInBounds_toArray, List.set_cons_zero, List.set_cons_succ, i64_w, i32_w]; rfl)
       refine oneS_ (i := 14) (N := some 80) rfl rfl (by kernel_rfl) (by decide) (fun K hK => ?_)
       refine goes_ Try.func24 (by kernel_rfl) rfl #[.int .i64 (rd_T49 l4 (n : Int)).f1, .int .i64 24] (by rfl) rfl rfl (by simp only [List.map_toArray, List.map_cons, List.map_nil]; rfl) ?_
       with_reducible refine (bring_at _ 24 _ (by omega) (by omega)).mono ?_
       rintro e w_ ⟨rfl, ⟨q14, rfl⟩⟩
       refine ⟨_, rfl, ?_⟩
       refine hK.out _ _ ⟨hHeld.1, hHeld.2.1, hHeld.2.2⟩ (fun hHeld => ?_)
       clear hK K
       refine norm_ (a' := ?_) ?_ ?_
       rotate_left
       ·show Act.put _ (some 80) _ = _
        simp only [Act.put, List.setIfInBounds_toArray, List.set_cons_zero, List.set_cons_succ, i64_w, i32_w]
        rfl
       refine pureS_ (i := 15) (N := some 81) (v := ?_) (a' := ?_) rfl rfl (by kernel_rfl) (fun _ _ _ h => h) (Or.inl ⟨by rfl, ?_⟩) ?_ ?_
       rotate_left; (· intro w'; go_simp; with_reducible rfl); rotate_left; (· simp only [Act.put, List.setIfInBounds_toArray, List.set_cons_zero, List.set_cons_succ, i64_w, i32_w]; rfl)
       exact norm_ (by simp only [putAll, Act.put, List.setIfInBounds_toArray, List.set_cons_zero, List.set_cons_succ]) (hCont () _ ⟨by (repeat (first | exact Below.refl _ _ | apply below_alloc | apply pw_below_drewN | apply below_drew)), rfl⟩)
     rintro s_ w7 ⟨hb7, hh7⟩
     have hxb : w7.heap[wr.heap.size]? = some (.cells #[.int .i64 0, .int .i64 0, .int .i64 0] 49 (0, 0)) := by rw [hh7]; exact heap_alloc_new wr _
     have j0_ := blk_cell hxb 0
     have j1_ := blk_cell hxb 1
     have j2_ := blk_cell hxb 2
     simp at j0_ j1_ j2_
     have i0_ := blk_frozen hxb 0
     have i1_ := blk_frozen hxb 1
     have i2_ := blk_frozen hxb 2
     clear hh7 hHeld
     refine norm_ (a' := ?_) ?_ ?_
     rotate_left
     ·simp only [putAll, Act.put, List.setIfInBounds_toArray, List.set_cons_zero, List.set_cons_succ]
      rfl
     refine lastS_ (i := 17) (N := none) rfl rfl (by kernel_rfl) (by decide) (fun K hK => ?_)
     refine skip_ (w1 := ?_) (by rfl) rfl ?_ ?_
     rotate_left
     ·go_simp
      rfl
     refine hK.out _ _ ?_
     clear hK K
     refine done_ (by kernel_rfl) ?_
     have hg1 : w.heap.size + 1 + 1 < wr.heap.size := hzr
     have hx8 := blk_set (blk_set (blk_set hxb 0 (.int .i64 (1 + (rd_T49 l4 (n : Int)).f0 % 2))) 1 (.int .i64 ((rd_T49 l4 (n : Int)).f1 % 24))) 2 (.int .i64 0)
     have ho8 := ((Only.set w7 wr.heap.size 0 (.int .i64 (1 + (rd_T49 l4 (n : Int)).f0 % 2))).trans (Only.set _ wr.heap.size 1 (.int .i64 ((rd_T49 l4 (n : Int)).f1 % 24)))).trans (Only.set _ wr.heap.size 2 (.int .i64 0))
     have HS8 := Aside0.mk ((HS6.out.below hb7).only ho8 hzr)
     have HP8 := Aside0.mk (Kd.R_step (Kd.R_below (Kd.R_mono (Kd.R_bound HP6.out) (fun k hk => show w.heap.size + 1 + 1 < k ∧ k < wr.heap.size from ⟨hk.1, hk.2.2.1⟩)) hb7) (fun k hk _ => ho8.block k (Nat.ne_of_lt hk.2)))
     have HT8 := Aside0.mk (Kd.R_step (Kd.R_below (Kd.R_mono (Kd.R_bound HT6.out) (fun k hk => show w.heap.size + 1 + 1 < k ∧ k < wr.heap.size from ⟨hk.1, hk.2.2.1⟩)) hb7) (fun k hk _ => ho8.block k (Nat.ne_of_lt hk.2)))
     have hs8 : wr.heap.size < (((w7.setCell ⟨wr.heap.size, 0, none⟩ (.int .i64 (1 + (rd_T49 l4 (n : Int)).f0 % 2))).setCell ⟨wr.heap.size, 1, none⟩ (.int .i64 ((rd_T49 l4 (n : Int)).f1 % 24))).setCell ⟨wr.heap.size, 2, none⟩ (.int .i64 0)).heap.size := blk_lt hx8
     simp only [List.setIfInBounds_toArray, List.set_cons_zero, List.set_cons_succ] at hx8
     clear j0_ j1_ j2_ i0_ i1_ i2_ hxb HS6 HP6 HT6
     generalize (((w7.setCell ⟨wr.heap.size, 0, none⟩ (.int .i64 (1 + (rd_T49 l4 (n : Int)).f0 % 2))).setCell ⟨wr.heap.size, 1, none⟩ (.int .i64 ((rd_T49 l4 (n : Int)).f1 % 24))).setCell ⟨wr.heap.size, 2, none⟩ (.int .i64 0)) = W8 at *
     have j0 : W8.cell? ⟨wr.heap.size, 0, none⟩ = some (.int .i64 (1 + (rd_T49 l4 (n : Int)).f0 % 2)) := (blk_cell hx8 0).trans rfl
     go_upto_if 84 with (fail)
     go_cut [] (fun wc => ∃ (y : Int), Aside0 (y = (mdS1 (rd_T49 l4 (n : Int))).f2) ∧ Aside0 (wc.heap[wr.heap.size]? = some (.cells #[.int .i64 (1 + (rd_T49 l4 (n : Int)).f0 % 2), .int .i64 ((rd_T49 l4 (n : Int)).f1 % 24), .int .i64 y] 49 (0, 0))) ∧
      Aside0 (MadSt w wc #[.int .i64 a0, .int .i64 a1, .int .i64 a2, .slice A3 l3.length c3, .slice (some ad4) l4.length c4] #[.int .i64 1, .int .i64 0, .int .i64 0, vP, vS]) ∧
      Aside0 (Kd.R (Kd.int .i64) 3 wc w.heap.size (fun k => w.heap.size + 1 + 1 < k ∧ k < wr.heap.size) vP (mdPn l3 24)) ∧ Aside0 (Kd.R k49 49 wc w.heap.size (fun k => w.heap.size + 1 + 1 < k ∧ k < wr.heap.size) vS (mdSn l4 n)))
     case first =>
      by_cases h2 : 1 + (rd_T49 l4 (n : Int)).f0 % 2 = 2
      ·have h2b : (1 + (rd_T49 l4 (n : Int)).f0 % 2 == 2) = true := by rw [h2]; rfl
       have q2 := (HS8.out.bl.cell (World.block_lt_of_cell? w _ x2)).trans x2
       have q4 : W8.cell? ⟨w.heap.size, 4, none⟩ = some (.slice (some ad4) l4.length c4) := (blk_cell HS8.out.br 4).trans rfl
       have j2 : W8.cell? ⟨wr.heap.size, 2, none⟩ = some (.int .i64 0) := (blk_cell hx8 2).trans rfl
       have i2 := blk_frozen hx8 2
       clear h2
       go_wp2_with (first | (go_at_call 24; refine (bring_at (rd_T49 l4 (n : Int)).f2 8 _ (by omega) (by omega)).mono ?_; rintro e w' ⟨rfl, ⟨q8, rfl⟩⟩))
       have ho9 := Only.set (W8.drewN q8) wr.heap.size 2 (.int .i64 ((rd_T49 l4 (n : Int)).f2 % 8))
       go_meet
       case rel => exact ⟨_, ⟨by unfold mdS1; rw [if_pos (by simpa using h2b)]⟩, ⟨by simpa using blk_set (show (W8.drewN q8).heap[wr.heap.size]? = _ from hx8) 2 (.int .i64 ((rd_T49 l4 (n : Int)).f2 % 8))⟩, ⟨(HS8.out.drewN q8).only ho9 hzr⟩, ⟨Kd.R_step (Kd.R_drewN HP8.out q8) (fun k hk _ => ho9.block k (Nat.ne_of_lt hk.2))⟩, ⟨Kd.R_step (Kd.R_drewN HT8.out q8) (fun k hk _ => ho9.block k (Nat.ne_of_lt hk.2))⟩⟩
      ·have h2b : (1 + (rd_T49 l4 (n : Int)).f0 % 2 == 2) = false := beq_eq_false_iff_ne.mpr h2
       go_wp2_with fail
       go_meet
       case rel => exact ⟨0, ⟨by unfold mdS1; rw [if_neg h2]⟩, ⟨hx8⟩, HS8, HP8, HT8⟩
     case rest =>
      obtain ⟨y, hy, HX9, HS9, HP9, HT9⟩ := hcut
      clear HS8 HP8 HT8 hx8 j0
      have r4 : wc.cell? ⟨w.heap.size + 1 + 1, 4, none⟩ = some vS := (blk_cell HS9.out.bx 4).trans rfl
      have y0 : wc.cell? ⟨wr.heap.size, 0, none⟩ = some (.int .i64 (1 + (rd_T49 l4 (n : Int)).f0 % 2)) := (blk_cell HX9.out 0).trans rfl
      have y1 : wc.cell? ⟨wr.heap.size, 1, none⟩ = some (.int .i64 ((rd_T49 l4 (n : Int)).f1 % 24)) := (blk_cell HX9.out 1).trans rfl
      have y2 : wc.cell? ⟨wr.heap.size, 2, none⟩ = some (.int .i64 y) := (blk_cell HX9.out 2).trans rfl
      have hzx : w.heap.size + 1 + 1 < wc.heap.size := blk_lt HS9.out.bx
      have hSn : Aside0 (mdSn l4 (n + 1) = mdSn l4 n ++ [⟨1 + (rd_T49 l4 (n : Int)).f0 % 2, (rd_T49 l4 (n : Int)).f1 % 24, y⟩]) := ⟨by
       rw [hy.out]
       unfold mdSn
       rw [List.take_succ_eq_append_getElem hl1, List.map_append, rd49_at hl1]
       rfl⟩
      go_wp2_with (first | (at_builtin; refine Kd.R_append k49 (w0 := w) w.heap.size rfl (.tmp 94) (.tmp 96) 23 49 (.agg #[.int .i64 0, .int .i64 0, .int .i64 0]) 24 rfl Try.underlying23 info49x rfl (by decide) (by decide) _ (mdSn l4 n) ⟨1 + (rd_T49 l4 (n : Int)).f0 % 2, (rd_T49 l4 (n : Int)).f1 % 24, y⟩ [.int .i64 (1 + (rd_T49 l4 (n : Int)).f0 % 2), .int .i64 ((rd_T49 l4 (n : Int)).f1 % 24), .int .i64 y] (fun k => w.heap.size + 1 + 1 < k) (fun _ => False) rfl rfl (k49_mkM _ _ _ _) (fun _ h => h.elim) (fun k hk => Nat.lt_of_lt_of_le hzx hk) (Kd.R_mono HT9.out (fun k hk => hk.1)) HS9.out.bl HS9.out.bl.size ?hl ?_; (case hl => simp [mdSn]; omega); intro v5 W5 HV5 HB5 hg5 hat5; have HS7 := Aside0.mk (HS9.out.grown hg5 (fun k hk => (HT9.out.1 k hk).1)); have HP7 := Aside0.mk (Kd.R_over' (Kd.R_mono HP9.out (fun k hk => hk.1)) (Kd.R_typed HT9.out) (by intro q hq; simp [Kd.int, Kd.scalar] at hq; omega) hg5); have c4_ : W5.cell? ⟨w.heap.size + 1 + 1, 4, none⟩ = some vS := (blk_cell HS7.out.bx 4).trans rfl; have f4_ := blk_frozen HS7.out.bx 4; obtain ⟨A5, c5, rfl⟩ := Kd.R_slice HV5))
      simp only [List.length_append, List.length_singleton] at HV5
      refine ⟨⟨n + 1, _, ⟨by omega⟩, by go_num, ⟨by simpa using HS7.out.set 4 _⟩, ⟨Kd.R_far (p := ⟨w.heap.size + 1 + 1, 4, none⟩) HP7.out (fun k hk => by show k ≠ w.heap.size + 1 + 1; exact Nat.ne_of_gt hk) _⟩, ⟨by rw [hSn.out]; exact Kd.R_far (p := ⟨w.heap.size + 1 + 1, 4, none⟩) HV5 (fun k hk => by show k ≠ w.heap.size + 1 + 1; omega) _⟩⟩, ?_⟩
      simp [intOf]
      omega
    ·have hpe : mdSn l4 n = mdSn l4 255 := by unfold mdSn; rw [show l4.take n = l4.take 255 by have := hn.out; rw [List.take_eq_take_iff]; omega]
     by_cases hl1 : n < l4.length
     ·have hd1 : (n : Int) < (l4.length : Int) := by omega
      have hd2 : ¬ ((n : Int) < 255) := by omega
      have hd3 : decide (n < 255) = false := decide_eq_false (by omega)
      go_wp2_with fail
      go_meet
      case rel => exact ⟨vS, HS6, HP6, ⟨by rw [← hpe]; exact HT6.out⟩⟩
     ·have hd1 : ¬ ((n : Int) < (l4.length : Int)) := by omega
      go_wp2_with fail
      go_meet
      case rel => exact ⟨vS, HS6, HP6, ⟨by rw [← hpe]; exact HT6.out⟩⟩
  case rest =>
   obtain ⟨vS, HS6, HP6, HT6⟩ := hcut
   clear HS4 HP
   obtain ⟨A5, c5, rfl⟩ := Kd.R_slice HP6.out
   obtain ⟨A6, c6, rfl⟩ := Kd.R_slice HT6.out
   have z0 : wc.cell? ⟨w.heap.size + 1 + 1, 0, none⟩ = some (.int .i64 1) := (blk_cell HS6.out.bx 0).trans rfl
   have z1 : wc.cell? ⟨w.heap.size + 1 + 1, 1, none⟩ = some (.int .i64 0) := (blk_cell HS6.out.bx 1).trans rfl
   have z2 : wc.cell? ⟨w.heap.size + 1 + 1, 2, none⟩ = some (.int .i64 0) := (blk_cell HS6.out.bx 2).trans rfl
   have z3 : wc.cell? ⟨w.heap.size + 1 + 1, 3, none⟩ = some (.slice A5 (mdPn l3 24).length c5) := (blk_cell HS6.out.bx 3).trans rfl
   have z4 : wc.cell? ⟨w.heap.size + 1 + 1, 4, none⟩ = some (.slice A6 (mdSn l4 255).length c6) := (blk_cell HS6.out.bx 4).trans rfl
   have k0 := blk_cell HS6.out.b0 0
   have k1 := blk_cell HS6.out.b0 1
   have k2 := blk_cell HS6.out.b0 2
   have k3 := blk_cell HS6.out.b0 3
   have k4 := blk_cell HS6.out.b0 4
   simp at k0 k1 k2 k3 k4
   have g0 := blk_frozen HS6.out.b0 0
   have g1 := blk_frozen HS6.out.b0 1
   have g2 := blk_frozen HS6.out.b0 2
   have g3 := blk_frozen HS6.out.b0 3
   have g4 := blk_frozen HS6.out.b0 4
   obtain ⟨W9, hW9, hbx, ho, hb9⟩ := MadSt.fin HS6.out
   have K3 := Aside0.mk (Kd.R_mono (Kd.R_step HP6.out (fun k hk _ => ho.block k (by omega))) (fun _ _ => trivial))
   have K4 := Aside0.mk (Kd.R_mono (Kd.R_step HT6.out (fun k hk _ => ho.block k (by omega))) (fun _ _ => trivial))
   go_wp2_with fail
   rw [← hW9]
   clear hW9
   have y0 : W9.cell? ⟨w.heap.size + 1, 0, none⟩ = some (.int .i64 1) := (blk_cell hbx 0).trans rfl
   have y1 : W9.cell? ⟨w.heap.size + 1, 1, none⟩ = some (.int .i64 0) := (blk_cell hbx 1).trans rfl
   have y2 : W9.cell? ⟨w.heap.size + 1, 2, none⟩ = some (.int .i64 0) := (blk_cell hbx 2).trans rfl
   have y3 : W9.cell? ⟨w.heap.size + 1, 3, none⟩ = some (.slice A5 (mdPn l3 24).length c5) := (blk_cell hbx 3).trans rfl
   have y4 : W9.cell? ⟨w.heap.size + 1, 4, none⟩ = some (.slice A6 (mdSn l4 255).length c6) := (blk_cell hbx 4).trans rfl
   refine bodyPost_ret (v := .agg #[.int .i64 1, .int .i64 0, .int .i64 0, .slice A5 (mdPn l3 24).length c5, .slice A6 (mdSn l4 255).length c6]) ?_ rfl ⟨_, _, rfl, K3.out, K4.out, hb9⟩
   simp [results, Try.results37, go_sem, y0, y1, y2, y3, y4]
def drayagelaw20_made.f (a0 a1 a2 : Int) (l3 : List Int) (l4 : List S49) : Option (Int × Int × Int × List Int × List S49) := some (mdK a0, mdN a0 a1, mdM a0 a2, mdP a0 l3, mdS a0 l4)
theorem drayagelaw20_made.calls (a0_0 : Int) (a0_1 : Int) (a0_2 : Int) (A0_3 : Option Addr) (c0_3 : Nat) (l0_3 : List Int) (A0_4 : Option Addr) (c0_4 : Nat) (l0_4 : List (S49)) (r1 : Int) (r2 : Int) (r3 : Int) (r4 : List Int) (r5 : List (S49)) (w : World) (hr0_3 : Kd.C (Kd.int .i64) w A0_3 l0_3.length l0_3) (hc0_3 : l0_3.length ≤ c0_3) (hr0_4 : Kd.C k49 w A0_4 l0_4.length l0_4) (hc0_4 : l0_4.length ≤ c0_4) (h : drayagelaw20_made.f a0_0 a0_1 a0_2 l0_3 l0_4 = some (r1, r2, r3, r4, r5)) :
  Calls Try.prog 37 #[.agg #[.int .i64 a0_0, .int .i64 a0_1, .int .i64 a0_2, .slice A0_3 l0_3.length c0_3, .slice A0_4 l0_4.length c0_4]] w fun e w' => ∃ v3_ v4_ : Value, e = .returned (.agg #[.int .i64 r1, .int .i64 r2, .int .i64 r3, v3_, v4_]) ∧ Kd.R (Kd.int .i64) 3 w' w.heap.size (fun _ => True) v3_ r4 ∧ Kd.R k49 49 w' w.heap.size (fun _ => True) v4_ r5 ∧ Below w.heap.size w w' := by
 unfold drayagelaw20_made.f at h
 simp only [Option.some.injEq, Prod.mk.injEq] at h
 obtain ⟨rfl, rfl, rfl, rfl, rfl⟩ := h
 by_cases hk : mdK a0_0 = 1
 ·have e1 : mdN a0_0 a0_1 = 0 := by unfold mdN; rw [if_pos hk]
  have e2 : mdM a0_0 a0_2 = 0 := by unfold mdM; rw [if_pos hk]
  have e3 : mdP a0_0 l0_3 = mdPn l0_3 24 := by unfold mdP; rw [if_pos hk]; rfl
  have e4 : mdS a0_0 l0_4 = mdSn l0_4 255 := by unfold mdS; rw [if_pos hk]; rfl
  rw [e1, e2, e3, e4, hk]
  exact made_plan a0_0 a0_1 a0_2 A0_3 c0_3 l0_3 A0_4 c0_4 l0_4 w hr0_3 hc0_3 hr0_4 hc0_4 hk
 ·have e3 : mdP a0_0 l0_3 = [] := by unfold mdP; rw [if_neg hk]
  have e4 : mdS a0_0 l0_4 = [] := by unfold mdS; rw [if_neg hk]
  rw [e3, e4]
  refine (made_pair a0_0 a0_1 a0_2 A0_3 _ c0_3 A0_4 _ c0_4 w hk).mono ?_
  rintro e w' ⟨rfl, hb⟩
  exact ⟨_, _, rfl, Kd.R_nil _ _ _ _ _, Kd.R_nil _ _ _ _ _, hb⟩
end Go.Proofs.Ytagkgddkpnbfoaa.P
