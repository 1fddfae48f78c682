import Derived.Test.YtagkgddkpnbfoaaHparse
import Derived.Test.YtagkgddkpnbfoaaPf24
/- The contract of made: a record that may be, out of any. -/
namespace Go.Proofs.Ytagkgddkpnbfoaa.P
set_option linter.unusedVariables false
set_option linter.unusedSimpArgs false
open Go.RowKit Go.Proofs.YtagkgddkpnbfoaaW.PrintWords Go.Proofs.YtagkgddkpnbfoaaW.PrintLast Go.Proofs.YtagkgddkpnbfoaaW.PrintMore

theorem bring_f (a m : Int) (h0 : 0 < m) (h1 : m ≤ 4611686018427387904) : drayageref00_Bring.f a m = some (a % m) := by
  unfold drayageref00_Bring.f
  rw [if_neg (by omega)]
  have h2 : a.tmod m = a % m ∨ (a.tmod m = a % m - m ∧ a % m ≠ 0) := by
    rcases Int.le_total 0 a with h | h
    · exact .inl (Int.tmod_eq_emod_of_nonneg h)
    · have e : a.tmod m = -((-a) % m) := by
        have := Int.neg_tmod (-a) m
        rw [Int.neg_neg] at this
        rw [this, Int.tmod_eq_emod_of_nonneg (by omega)]
      have e2 := Int.emod_nonneg a (by omega : m ≠ 0)
      have e3 := Int.emod_lt_of_pos a h0
      have e4 := Int.emod_nonneg (-a) (by omega : m ≠ 0)
      have e5 := Int.emod_lt_of_pos (-a) h0
      have e6 : (a % m + (-a) % m) % m = 0 := by rw [← Int.add_emod]; simp [Int.add_right_neg]
      have e7 : a % m + (-a) % m = 0 ∨ a % m + (-a) % m = m := by
        rcases Int.lt_or_le (a % m + (-a) % m) m with h | h
        · left
          rw [Int.emod_eq_of_lt (by omega) h] at e6
          exact e6
        · right
          have := Int.emod_eq_of_lt (a := a % m + (-a) % m - m) (b := m) (by omega) (by omega)
          have e8 : (a % m + (-a) % m - m) % m = 0 := by rw [Int.sub_emod, e6]; simp
          omega
      omega
  have h3 := Int.emod_nonneg a (by omega : m ≠ 0)
  have h4 := Int.emod_lt_of_pos a h0
  rcases h2 with h2 | ⟨h2, h5⟩
  · rw [if_neg (by omega), h2]
  · rw [if_pos (by omega), h2, wrap_id (by omega) (by omega)]
    congr 1
    omega
theorem bring_at (a m : Int) (w : World) (h0 : 0 < m) (h1 : m ≤ 4611686018427387904) : Calls Try.prog 24 #[.int .i64 a, .int .i64 m] w fun e w' => e = .returned (.int .i64 (a % m)) ∧ Drawn0 w w' :=
  drayageref00_Bring.calls a m _ w (bring_f a m h0 h1)
def mdK (a0 : Int) : Int := 1 + a0 % 6
def mdN (a0 a1 : Int) : Int := if mdK a0 = 1 then 0 else if mdK a0 = 6 then 1 + a1 % 65536 % 3 else a1 % 65536
def mdM (a0 a2 : Int) : Int := if mdK a0 = 1 then 0 else a2 % 65536
def mdP1 (x : Int) : Int := x % 9 - 1
def mdS1 (x : S49) : S49 := ⟨1 + x.f0 % 2, x.f1 % 24, if 1 + x.f0 % 2 = 2 then x.f2 % 8 else 0⟩
def mdP (a0 : Int) (l : List Int) : List Int := if mdK a0 = 1 then (l.take 24).map mdP1 else []
def mdS (a0 : Int) (l : List S49) : List S49 := if mdK a0 = 1 then (l.take 255).map mdS1 else []
/-- where made stands: what it is given in block w.heap.size, the result's cells behind it, what it makes behind that -/
structure MadSt (w : World) (W : World) (rs cs : Array Value) : Prop where
  br : W.heap[w.heap.size]? = some (.cells rs 25 (0, 0))
  b0 : W.heap[w.heap.size + 1]? = some (.cells #[.int .i64 0, .int .i64 0, .int .i64 0, .slice none 0 0, .slice none 0 0] 25 (0, 0))
  bx : W.heap[w.heap.size + 1 + 1]? = some (.cells cs 25 (0, 0))
  bl : Below w.heap.size w W
section
variable {w W W' : World} {rs cs : Array Value}
theorem MadSt.set (h : MadSt w W rs cs) (i : Nat) (v : Value) : MadSt w (W.setCell ⟨w.heap.size + 1 + 1, i, none⟩ v) rs (cs.setIfInBounds i v) :=
  ⟨(Below.heap_setCell W ⟨w.heap.size + 1 + 1, i, none⟩ v w.heap.size (by show w.heap.size ≠ w.heap.size + 1 + 1; omega)).trans h.br, (Below.heap_setCell W ⟨w.heap.size + 1 + 1, i, none⟩ v (w.heap.size + 1) (by simp)).trans h.b0, blk_set h.bx i v, h.bl.setCell (by show w.heap.size ≤ w.heap.size + 1 + 1; omega) v⟩
theorem MadSt.below (h : MadSt w W rs cs) (hb : Below W.heap.size W W') : MadSt w W' rs cs :=
  ⟨(hb.block _ (blk_lt h.br)).trans h.br, (hb.block _ (blk_lt h.b0)).trans h.b0, (hb.block _ (blk_lt h.bx)).trans h.bx, below_then h.bl h.bl.size hb⟩
theorem MadSt.grown (h : MadSt w W rs cs) {row : Option Nat} (hg : W.grownBy W' row) (hr : ∀ k, row = some k → w.heap.size + 1 + 1 < k) : MadSt w W' rs cs :=
  ⟨blk_grown h.br hg (fun e => by have := hr _ e.symm; omega), blk_grown h.b0 hg (fun e => by have := hr _ e.symm; omega), blk_grown h.bx hg (fun e => by have := hr _ e.symm; omega), pw_below_grown h.bl row h.bl.size hg (fun k hk => by have := hr k hk; omega)⟩
theorem MadSt.drewN (h : MadSt w W rs cs) (n : Nat) : MadSt w (W.drewN n) rs cs := h.below (pw_below_drewN (Below.refl _ _) n)
theorem MadSt.fin {c0 c1 c2 v3 v4 : Value} (h : MadSt w W rs #[c0, c1, c2, v3, v4]) :
    ∃ W', W' = (((((W.setCell ⟨w.heap.size + 1, 0, none⟩ c0).setCell ⟨w.heap.size + 1, 1, none⟩ c1).setCell ⟨w.heap.size + 1, 2, none⟩ c2).setCell ⟨w.heap.size + 1, 3, none⟩ v3).setCell ⟨w.heap.size + 1, 4, none⟩ v4) ∧
      W'.heap[w.heap.size + 1]? = some (.cells #[c0, c1, c2, v3, v4] 25 (0, 0)) ∧ Only (w.heap.size + 1) W W' ∧ Below w.heap.size w W' := by
  have ho := ((((Only.set W (w.heap.size + 1) 0 c0).trans (Only.set _ (w.heap.size + 1) 1 c1)).trans (Only.set _ (w.heap.size + 1) 2 c2)).trans (Only.set _ (w.heap.size + 1) 3 v3)).trans (Only.set _ (w.heap.size + 1) 4 v4)
  refine ⟨_, rfl, ?_, ho, h.bl.trans (ho.below (by omega))⟩
  have := blk_set (blk_set (blk_set (blk_set (blk_set h.b0 0 c0) 1 c1) 2 c2) 3 v3) 4 v4
  simpa using this
theorem MadSt.start (w : World) (rs cs : Array Value) (n : Nat) : MadSt w ((((w.alloc (.cells rs 25)).alloc (.cells #[.int .i64 0, .int .i64 0, .int .i64 0, .slice none 0 0, .slice none 0 0] 25)).drewN n).alloc (.cells cs 25)) rs cs := by
  have h1 := heap_alloc_new w (.cells rs 25)
  have h2 := heap_alloc_new (w.alloc (.cells rs 25)) (.cells #[.int .i64 0, .int .i64 0, .int .i64 0, .slice none 0 0, .slice none 0 0] 25)
  have hb2 : Below (w.alloc (.cells rs 25)).heap.size (w.alloc (.cells rs 25)) ((w.alloc (.cells rs 25)).alloc (.cells #[.int .i64 0, .int .i64 0, .int .i64 0, .slice none 0 0, .slice none 0 0] 25)) := below_alloc (Below.refl _ _) _
  have h1' := (hb2.block _ (by simp)).trans h1
  generalize hW2 : (w.alloc (.cells rs 25)).alloc (.cells #[.int .i64 0, .int .i64 0, .int .i64 0, .slice none 0 0, .slice none 0 0] 25) = W2 at *
  have hB2 : Below w.heap.size w W2 := by rw [← hW2]; exact below_alloc (below_alloc (Below.refl _ _) _) _
  have hs2 : W2.heap.size = w.heap.size + 1 + 1 := by rw [← hW2]; simp
  have hb3 : Below (W2.drewN n).heap.size (W2.drewN n) ((W2.drewN n).alloc (.cells cs 25)) := below_alloc (Below.refl _ _) _
  have h3 := heap_alloc_new (W2.drewN n) (.cells cs 25)
  refine ⟨(hb3.block _ (by show w.heap.size < W2.heap.size; omega)).trans h1', (hb3.block _ (by show w.heap.size + 1 < W2.heap.size; omega)).trans (by simpa using h2), ?_, below_alloc (pw_below_drewN hB2 n) _⟩
  have e : (W2.drewN n).heap.size = w.heap.size + 1 + 1 := hs2
  rw [e] at h3
  exact h3
end
set_option maxRecDepth 100000 in
set_option maxHeartbeats 3200000 in
theorem made_pair (a0 a1 a2 : Int) (A3 : Option Addr) (n3 c3 : Nat) (A4 : Option Addr) (n4 c4 : Nat) (w : World) (hk : mdK a0 ≠ 1) :
    Calls Try.prog 37 #[.agg #[.int .i64 a0, .int .i64 a1, .int .i64 a2, .slice A3 n3 c3, .slice A4 n4 c4]] w fun e w' => e = .returned (.agg #[.int .i64 (mdK a0), .int .i64 (mdN a0 a1), .int .i64 (mdM a0 a2), .slice none 0 0, .slice none 0 0]) ∧ Below w.heap.size w w' := by
  have hw1 : IntKind.i64.wrap (1 + a0 % 6) = mdK a0 := IntWalk.i64_in _ (by omega)
  have hk1 : (mdK a0 != 1) = true := by rw [bne_iff_ne]; exact hk
  go_enter Try.func37, Try.ntmps37
  go_wp2_with (first | (go_at_call 24; refine (bring_at a0 6 _ (by omega) (by omega)).mono ?_; rintro e w' ⟨rfl, ⟨nd, rfl⟩⟩))
  have HS0 := Aside0.mk (MadSt.start w #[.int .i64 a0, .int .i64 a1, .int .i64 a2, .slice A3 n3 c3, .slice A4 n4 c4] #[.int .i64 (mdK a0), .int .i64 0, .int .i64 0, .slice none 0 0, .slice none 0 0] nd)
  generalize ((((w.alloc (.cells #[.int .i64 a0, .int .i64 a1, .int .i64 a2, .slice A3 n3 c3, .slice A4 n4 c4] 25)).alloc (.cells #[.int .i64 0, .int .i64 0, .int .i64 0, .slice none 0 0, .slice none 0 0] 25)).drewN nd).alloc (.cells #[.int .i64 (mdK a0), .int .i64 0, .int .i64 0, .slice none 0 0, .slice none 0 0] 25)) = W0 at *
  have r1 : W0.cell? ⟨w.heap.size, 1, none⟩ = some (.int .i64 a1) := (blk_cell HS0.out.br 1).trans rfl
  have r2 : W0.cell? ⟨w.heap.size, 2, none⟩ = some (.int .i64 a2) := (blk_cell HS0.out.br 2).trans rfl
  have hkp : ∀ (W : World) (i j : Nat) (v : Value), (W.setCell ⟨w.heap.size + 1 + 1, i, none⟩ v).cell? ⟨w.heap.size, j, none⟩ = W.cell? ⟨w.heap.size, j, none⟩ := fun W i j v => (Only.set W _ i v).cell (by omega)
  have z1 : W0.cell? ⟨w.heap.size + 1 + 1, 1, none⟩ = some (.int .i64 0) := (blk_cell HS0.out.bx 1).trans rfl
  have z2 : W0.cell? ⟨w.heap.size + 1 + 1, 2, none⟩ = some (.int .i64 0) := (blk_cell HS0.out.bx 2).trans rfl
  have f1 := blk_frozen HS0.out.bx 1
  have f2 := blk_frozen HS0.out.bx 2
  go_region_held3 (fun w' => w'.cell? ⟨w.heap.size, 1, none⟩ = some (.int .i64 a1) ∧ w'.cell? ⟨w.heap.size, 2, none⟩ = some (.int .i64 a2))
    (first | go_keep | (refine ⟨?_, ?_⟩ <;> simp_all; done))
    (first | (go_at_call 24; (with_reducible refine (bring_at _ 65536 _ (by omega) (by omega)).mono ?_); rintro e w' ⟨rfl, ⟨nd1, rfl⟩⟩))
  rename_i ndx _
  have HS1 := Aside0.mk (((HS0.out.drewN (1 + ndx + nd1)).set 1 (.int .i64 (a1 % 65536))).set 2 (.int .i64 (a2 % 65536)))
  clear r1 r2 z1 z2 f1 f2 HS0
  generalize (((W0.drewN (1 + ndx + nd1)).setCell ⟨w.heap.size + 1 + 1, 1, none⟩ (.int .i64 (a1 % 65536))).setCell ⟨w.heap.size + 1 + 1, 2, none⟩ (.int .i64 (a2 % 65536))) = W1 at *
  have c0 : W1.cell? ⟨w.heap.size + 1 + 1, 0, none⟩ = some (.int .i64 (mdK a0)) := (blk_cell HS1.out.bx 0).trans rfl
  have c1 : W1.cell? ⟨w.heap.size + 1 + 1, 1, none⟩ = some (.int .i64 (a1 % 65536)) := (blk_cell HS1.out.bx 1).trans rfl
  have g1 := blk_frozen HS1.out.bx 1
  have c2 : W1.cell? ⟨w.heap.size + 1 + 1, 2, none⟩ = some (.int .i64 (a2 % 65536)) := (blk_cell HS1.out.bx 2).trans rfl
  have c3 : W1.cell? ⟨w.heap.size + 1 + 1, 3, none⟩ = some (.slice none 0 0) := (blk_cell HS1.out.bx 3).trans rfl
  have c4 : W1.cell? ⟨w.heap.size + 1 + 1, 4, none⟩ = some (.slice none 0 0) := (blk_cell HS1.out.bx 4).trans rfl
  have k0 : W1.cell? ⟨w.heap.size + 1, 0, none⟩ = some (.int .i64 0) := (blk_cell HS1.out.b0 0).trans rfl
  have e0 := blk_frozen HS1.out.b0 0
  have k1 : W1.cell? ⟨w.heap.size + 1, 1, none⟩ = some (.int .i64 0) := (blk_cell HS1.out.b0 1).trans rfl
  have e1 := blk_frozen HS1.out.b0 1
  have k2 : W1.cell? ⟨w.heap.size + 1, 2, none⟩ = some (.int .i64 0) := (blk_cell HS1.out.b0 2).trans rfl
  have e2 := blk_frozen HS1.out.b0 2
  have k3 : W1.cell? ⟨w.heap.size + 1, 3, none⟩ = some (.slice none 0 0) := (blk_cell HS1.out.b0 3).trans rfl
  have e3 := blk_frozen HS1.out.b0 3
  have k4 : W1.cell? ⟨w.heap.size + 1, 4, none⟩ = some (.slice none 0 0) := (blk_cell HS1.out.b0 4).trans rfl
  have e4 := blk_frozen HS1.out.b0 4
  have hM : Aside0 (a2 % 65536 = mdM a0 a2) := ⟨by unfold mdM; rw [if_neg hk]⟩
  by_cases h6 : mdK a0 = 6
  · have h6b : (mdK a0 == 6) = true := by rw [h6]; rfl
    have hN : Aside0 (mdN a0 a1 = mdN a0 a1) := ⟨rfl⟩
    have hr : Int.tmod (a1 % 65536) 3 = a1 % 65536 % 3 := Int.tmod_eq_emod_of_nonneg (by omega)
    have hw2 : IntKind.i64.wrap (Int.tmod (a1 % 65536) 3) = a1 % 65536 % 3 := by rw [hr]; exact IntWalk.i64_in _ (by omega)
    have hw3 : IntKind.i64.wrap (a1 % 65536 % 3) = a1 % 65536 % 3 := IntWalk.i64_in _ (by omega)
    have hw4 : IntKind.i64.wrap (1 + a1 % 65536 % 3) = mdN a0 a1 := by unfold mdN; rw [if_neg hk, if_pos h6]; exact IntWalk.i64_in _ (by omega)
    have HSx := Aside0.mk (HS1.out.set 1 (.int .i64 (mdN a0 a1)))
    clear h6
    obtain ⟨W9, hW9, hbx, ho, hb9⟩ := MadSt.fin (c0 := .int .i64 (mdK a0)) (c1 := .int .i64 (mdN a0 a1)) (c2 := .int .i64 (a2 % 65536)) (v3 := .slice none 0 0) (v4 := .slice none 0 0) (by simpa using HSx.out)
    go_wp2_with fail
    rw [← hW9]
    clear hW9
    have y0 : W9.cell? ⟨w.heap.size + 1, 0, none⟩ = some (.int .i64 (mdK a0)) := (blk_cell hbx 0).trans rfl
    have y1 : W9.cell? ⟨w.heap.size + 1, 1, none⟩ = some (.int .i64 (mdN a0 a1)) := (blk_cell hbx 1).trans rfl
    have y2 : W9.cell? ⟨w.heap.size + 1, 2, none⟩ = some (.int .i64 (a2 % 65536)) := (blk_cell hbx 2).trans rfl
    have y3 : W9.cell? ⟨w.heap.size + 1, 3, none⟩ = some (.slice none 0 0) := (blk_cell hbx 3).trans rfl
    have y4 : W9.cell? ⟨w.heap.size + 1, 4, none⟩ = some (.slice none 0 0) := (blk_cell hbx 4).trans rfl
    refine bodyPost_ret (v := .agg #[.int .i64 (mdK a0), .int .i64 (mdN a0 a1), .int .i64 (mdM a0 a2), .slice none 0 0, .slice none 0 0]) ?_ rfl ⟨rfl, hb9⟩
    simp [results, Try.results37, go_sem, y0, y1, y2, y3, y4, hN.out, hM.out]
  · have h6b : (mdK a0 == 6) = false := beq_eq_false_iff_ne.mpr h6
    have hN : Aside0 (a1 % 65536 = mdN a0 a1) := ⟨by unfold mdN; rw [if_neg hk, if_neg h6]⟩
    have HSx := HS1
    obtain ⟨W9, hW9, hbx, ho, hb9⟩ := MadSt.fin (c0 := .int .i64 (mdK a0)) (c1 := .int .i64 (a1 % 65536)) (c2 := .int .i64 (a2 % 65536)) (v3 := .slice none 0 0) (v4 := .slice none 0 0) (by simpa using HSx.out)
    go_wp2_with fail
    rw [← hW9]
    clear hW9
    have y0 : W9.cell? ⟨w.heap.size + 1, 0, none⟩ = some (.int .i64 (mdK a0)) := (blk_cell hbx 0).trans rfl
    have y1 : W9.cell? ⟨w.heap.size + 1, 1, none⟩ = some (.int .i64 (a1 % 65536)) := (blk_cell hbx 1).trans rfl
    have y2 : W9.cell? ⟨w.heap.size + 1, 2, none⟩ = some (.int .i64 (a2 % 65536)) := (blk_cell hbx 2).trans rfl
    have y3 : W9.cell? ⟨w.heap.size + 1, 3, none⟩ = some (.slice none 0 0) := (blk_cell hbx 3).trans rfl
    have y4 : W9.cell? ⟨w.heap.size + 1, 4, none⟩ = some (.slice none 0 0) := (blk_cell hbx 4).trans rfl
    refine bodyPost_ret (v := .agg #[.int .i64 (mdK a0), .int .i64 (mdN a0 a1), .int .i64 (mdM a0 a2), .slice none 0 0, .slice none 0 0]) ?_ rfl ⟨rfl, hb9⟩
    simp [results, Try.results37, go_sem, y0, y1, y2, y3, y4, hN.out, hM.out]
end Go.Proofs.Ytagkgddkpnbfoaa.P
