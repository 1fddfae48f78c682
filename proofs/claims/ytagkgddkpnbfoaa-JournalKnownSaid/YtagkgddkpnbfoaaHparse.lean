import Derived.Test.YtagkgddkpnbfoaaHrchk
import Derived.Test.YtagkgddkpnbfoaaHplaw
namespace Go.Proofs.Ytagkgddkpnbfoaa.P
set_option linter.unusedVariables false
set_option linter.unusedSimpArgs false
open Go.RowKit Go.Proofs.YtagkgddkpnbfoaaW.PrintWords Go.Proofs.YtagkgddkpnbfoaaW.PrintLast Go.Proofs.YtagkgddkpnbfoaaW.PrintMore

def Byts (W : World) (ad : Addr) (b : List Int) : Prop := ∀ i, i < b.length → W.cell? (ad.add i) = some (.int .u8 (gB b i))
theorem Byts.of {W : World} {A : Option Addr} {b : List Int} (h : Kd.C (Kd.int .u8) W A b.length b) (hn : 0 < b.length) : ∃ ad, A = some ad ∧ Byts W ad b := by
 obtain ⟨ad, rfl, _⟩ := Kd.at_int h 0 (by omega) (by omega)
 refine ⟨ad, rfl, fun i hi => ?_⟩
 obtain ⟨ad', e, h1⟩ := Kd.at_int h (i : Int) (by omega) (by omega)
 cases e
 rw [Int.toNat_natCast] at h1
 rw [h1]
 simp [rd, gB]
structure ParSt (w : World) (W : World) (cs : Array Value) : Prop where
 b0 : W.heap[w.heap.size]? = some (.cells #[.int .i64 0, .int .i64 0, .int .i64 0, .slice none 0 0, .slice none 0 0] 25 (0, 0))
 bx : W.heap[w.heap.size + 1]? = some (.cells cs 25 (0, 0))
 bl : Below w.heap.size w W
section
variable {w W W' : World} {cs : Array Value}
theorem ParSt.set (h : ParSt w W cs) (i : Nat) (v : Value) : ParSt w (W.setCell ⟨w.heap.size + 1, i, none⟩ v) (cs.setIfInBounds i v) :=
 ⟨(Below.heap_setCell W ⟨w.heap.size + 1, i, none⟩ v w.heap.size (by simp)).trans h.b0, blk_set h.bx i v, h.bl.setCell (by simp) v⟩
theorem ParSt.below (h : ParSt w W cs) (hb : Below W.heap.size W W') : ParSt w W' cs :=
 ⟨(hb.block _ (blk_lt h.b0)).trans h.b0, (hb.block _ (blk_lt h.bx)).trans h.bx, below_then h.bl h.bl.size hb⟩
theorem ParSt.grown (h : ParSt w W cs) {row : Option Nat} (hg : W.grownBy W' row) (hr : ∀ k, row = some k → w.heap.size + 1 < k) : ParSt w W' cs :=
 ⟨blk_grown h.b0 hg (fun e => by have := hr _ e.symm; omega), blk_grown h.bx hg (fun e => by have := hr _ e.symm; omega), pw_below_grown h.bl row h.bl.size hg (fun k hk => by have := hr k hk; omega)⟩
theorem ParSt.cell (h : ParSt w W cs) (i : Nat) : W.cell? ⟨w.heap.size + 1, i, none⟩ = cs[i]? := blk_cell h.bx i
theorem ParSt.frozen (h : ParSt w W cs) (i : Nat) : W.frozen? ⟨w.heap.size + 1, i, none⟩ = false := blk_frozen h.bx i
theorem ParSt.frozen0 (h : ParSt w W cs) (i : Nat) : W.frozen? ⟨w.heap.size, i, none⟩ = false := blk_frozen h.b0 i
theorem ParSt.start (w : World) (cs : Array Value) : ParSt w ((w.alloc (.cells #[.int .i64 0, .int .i64 0, .int .i64 0, .slice none 0 0, .slice none 0 0] 25)).alloc (.cells cs 25)) cs :=
 ⟨((below_alloc (Below.refl _ (w.alloc (.cells #[.int .i64 0, .int .i64 0, .int .i64 0, .slice none 0 0, .slice none 0 0] 25))) _).block _ (by simp)).trans (heap_alloc_new w _), by simpa using heap_alloc_new (w.alloc (.cells #[.int .i64 0, .int .i64 0, .int .i64 0, .slice none 0 0, .slice none 0 0] 25)) (.cells cs 25), below_alloc (below_alloc (Below.refl _ _) _) _⟩
theorem ParSt.fin {c0 c1 c2 v3 v4 : Value} (h : ParSt w W #[c0, c1, c2, v3, v4]) :
  ∃ W', W' = (((((W.setCell ⟨w.heap.size, 0, none⟩ c0).setCell ⟨w.heap.size, 1, none⟩ c1).setCell ⟨w.heap.size, 2, none⟩ c2).setCell ⟨w.heap.size, 3, none⟩ v3).setCell ⟨w.heap.size, 4, none⟩ v4) ∧
   W'.heap[w.heap.size]? = some (.cells #[c0, c1, c2, v3, v4] 25 (0, 0)) ∧ Only w.heap.size W W' ∧ Below w.heap.size w W' := by
 have ho := ((((Only.set W w.heap.size 0 c0).trans (Only.set _ w.heap.size 1 c1)).trans (Only.set _ w.heap.size 2 c2)).trans (Only.set _ w.heap.size 3 v3)).trans (Only.set _ w.heap.size 4 v4)
 refine ⟨_, rfl, ?_, ho, h.bl.trans (ho.below (Nat.le_refl _))⟩
 have := blk_set (blk_set (blk_set (blk_set (blk_set h.b0 0 c0) 1 c1) 2 c2) 3 v3) 4 v4
 simpa using this
end
theorem rcheck_calls (a n m : Int) (A3 : Option Addr) (c3 : Nat) (l3 : List Int) (A4 : Option Addr) (c4 : Nat) (l4 : List S49) (rr : Int) (w : World) (hr3 : Kd.C (Kd.int .i64) w A3 l3.length l3) (hc3 : l3.length ≤ c3) (hr4 : Kd.C k49 w A4 l4.length l4) (hc4 : l4.length ≤ c4) (h : (if okRec a n m l3 l4 = true then (0 : Int) else 2) = rr) :
  Calls Try.prog 13 #[.agg #[.int .i64 a, .int .i64 n, .int .i64 m, .slice A3 l3.length c3, .slice A4 l4.length c4]] w fun e w' => e = .returned (.int .i64 rr) ∧ Below w.heap.size w w' :=
 drayageref20_Check.calls 310 a n m A3 c3 l3 A4 c4 l4 rr w hr3 hc3 hr4 hc4 ((rcheck_f a n m l3 l4 310 (Nat.le_refl _)).trans (congrArg some h))
def ParseOut (w : World) (b : List Int) (e : Ending) (w' : World) : Prop := ∃ (x0 x1 x2 : Int) (v3 v4 : Value), e = .returned (.tuple #[.agg #[.int .i64 x0, .int .i64 x1, .int .i64 x2, v3, v4], .bool (recIs b)]) ∧
 (recIs b = true → x0 = gB b 0 ∧ x1 = recN b ∧ x2 = recM b ∧ Kd.R (Kd.int .i64) 3 w' w.heap.size (fun _ => True) v3 (recPl b) ∧ Kd.R k49 49 w' w.heap.size (fun _ => True) v4 (recSt b)) ∧ Below w.heap.size w w' ∧ (∃ A n c, v3 = .slice A n c) ∧ (∃ A n c, v4 = .slice A n c)
theorem recIs_len {b : List Int} (h : b.length ≠ recJ b) : recIs b = false := by unfold recIs; rw [decide_eq_false h]; rfl
theorem Byts.zero {W : World} {ad : Addr} {b : List Int} (h : Byts W ad b) (hn : 0 < b.length) : W.cell? ad = some (.int .u8 (gB b 0)) := by
 have := h 0 hn
 rwa [Addr.add_zero'] at this
theorem Byts.at_ {W : World} {ad : Addr} {b : List Int} (h : Byts W ad b) (i : Nat) (hn : i + 1 < b.length) : W.cell? ⟨ad.block, ad.off + (i + 1), none⟩ = some (.int .u8 (gB b (i + 1))) := by
 have := h (i + 1) hn
 simpa [Addr.add] using this
set_option maxRecDepth 100000 in
set_option maxHeartbeats 3200000 in
theorem parse_pair5 (A : Option Addr) (c : Nat) (b : List Int) (w : World) (hr : Kd.C (Kd.int .u8) w A b.length b) (hc : b.length ≤ c) (hb : ∀ x ∈ b, isByte x) (h5 : b.length = 5) (hk : gB b 0 ≠ 1) :
  Calls Try.prog 45 #[.slice A b.length c] w (ParseOut w b) := by
 obtain ⟨ad, rfl, HB⟩ := Byts.of hr (by omega)
 have hq0 := gB_byte hb 0
 have x0 : w.cell? ad = some (.int .u8 (gB b 0)) := HB.zero (by omega)
 have hbk := World.block_lt_of_cell? w _ x0
 have hw0 : IntKind.i64.wrap (gB b 0) = gB b 0 := IntWalk.i64_in _ (by unfold isByte at hq0; omega)
 have hk1 : (gB b 0 != 1) = true := by rw [bne_iff_ne]; exact hk
 have y1 := HB.at_ 0 (by omega)
 have y2 := HB.at_ 1 (by omega)
 have y3 := HB.at_ 2 (by omega)
 have y4 := HB.at_ 3 (by omega)
 simp only [Nat.reduceAdd] at y1 y2 y3 y4
 rw [h5] at hc ⊢
 have q1 := gB_byte hb 1
 have q2 := gB_byte hb 2
 have q3 := gB_byte hb 3
 have q4 := gB_byte hb 4
 have w1 : IntKind.i64.wrap (gB b 1) = gB b 1 := IntWalk.i64_in _ (by unfold isByte at q1; omega)
 have w2 : IntKind.i64.wrap (gB b 2) = gB b 2 := IntWalk.i64_in _ (by unfold isByte at q2; omega)
 have w3 : IntKind.i64.wrap (gB b 3) = gB b 3 := IntWalk.i64_in _ (by unfold isByte at q3; omega)
 have w4 : IntKind.i64.wrap (gB b 4) = gB b 4 := IntWalk.i64_in _ (by unfold isByte at q4; omega)
 have u1 : IntKind.i64.wrap (256 * gB b 1) = 256 * gB b 1 := IntWalk.i64_in _ (by unfold isByte at q1; omega)
 have u2 : IntKind.i64.wrap (256 * gB b 1 + gB b 2) = gT b 1 := IntWalk.i64_in _ (by unfold isByte at q1 q2; omega)
 have u3 : IntKind.i64.wrap (256 * gB b 3) = 256 * gB b 3 := IntWalk.i64_in _ (by unfold isByte at q3; omega)
 have u4 : IntKind.i64.wrap (256 * gB b 3 + gB b 4) = gT b 3 := IntWalk.i64_in _ (by unfold isByte at q3 q4; omega)
 have HX := Aside0.mk hb
 clear hr hb HB
 have HS0 := Aside0.mk (ParSt.start w #[.int .i64 (gB b 0), .int .i64 0, .int .i64 0, .slice none 0 0, .slice none 0 0])
 go_enter Try.func45, Try.ntmps45
 go_wp2_with fail
 generalize ((w.alloc (.cells #[.int .i64 0, .int .i64 0, .int .i64 0, .slice none 0 0, .slice none 0 0] 25)).alloc (.cells #[.int .i64 (gB b 0), .int .i64 0, .int .i64 0, .slice none 0 0, .slice none 0 0] 25)) = W0 at *
 have e1 := (HS0.out.bl.cell (p := ⟨ad.block, ad.off + 1, none⟩) hbk).trans y1
 have e2 := (HS0.out.bl.cell (p := ⟨ad.block, ad.off + 2, none⟩) hbk).trans y2
 have e3 := (HS0.out.bl.cell (p := ⟨ad.block, ad.off + 3, none⟩) hbk).trans y3
 have e4 := (HS0.out.bl.cell (p := ⟨ad.block, ad.off + 4, none⟩) hbk).trans y4
 have c1 : W0.cell? ⟨w.heap.size + 1, 1, none⟩ = some (.int .i64 0) := HS0.out.cell 1
 have f1 := HS0.out.frozen 1
 have c2 : W0.cell? ⟨w.heap.size + 1, 2, none⟩ = some (.int .i64 0) := HS0.out.cell 2
 have f2 := HS0.out.frozen 2
 have hne : ad.block ≠ w.heap.size + 1 := by omega
 have hkp : ∀ (W : World) (i j : Nat) (v : Value), (W.setCell ⟨w.heap.size + 1, i, none⟩ v).drew.cell? ⟨ad.block, j, none⟩ = W.cell? ⟨ad.block, j, none⟩ := fun W i j v => (Only.set W _ i v).cell hne
 have HS1 := Aside0.mk (HS0.out.set 1 (.int .i64 (gT b 1)))
 go_region_held3 (fun w' => w'.cell? ⟨ad.block, ad.off + 1, none⟩ = some (.int .u8 (gB b 1)) ∧ w'.cell? ⟨ad.block, ad.off + 2, none⟩ = some (.int .u8 (gB b 2)))
  (first | go_keep | (refine ⟨?_, ?_⟩ <;> (rw [hkp]; assumption)))
  (fail)
 replace HS1 := Aside0.mk (HS1.out.below (below_drew (Below.refl _ _)))
 have c2' : (W0.setCell ⟨w.heap.size + 1, 1, none⟩ (.int .i64 (gT b 1))).drew.cell? ⟨w.heap.size + 1, 2, none⟩ = some (.int .i64 0) := HS1.out.cell 2
 have f2' := HS1.out.frozen 2
 have e3' := (hkp W0 1 (ad.off + 3) (.int .i64 (gT b 1))).trans e3
 have e4' := (hkp W0 1 (ad.off + 4) (.int .i64 (gT b 1))).trans e4
 clear e1 e2 c1 f1 c2 f2 e3 e4 HS0
 generalize (W0.setCell ⟨w.heap.size + 1, 1, none⟩ (.int .i64 (gT b 1))).drew = W1 at *
 have HS2 := Aside0.mk (HS1.out.set 2 (.int .i64 (gT b 3)))
 go_wp2_with fail
 go_region_held3 (fun w' => w'.cell? ⟨ad.block, ad.off + 3, none⟩ = some (.int .u8 (gB b 3)) ∧ w'.cell? ⟨ad.block, ad.off + 4, none⟩ = some (.int .u8 (gB b 4)))
  (first | go_keep | (refine ⟨?_, ?_⟩ <;> (rw [hkp]; assumption)))
  (fail)
 replace HS2 := Aside0.mk (HS2.out.below (below_drew (Below.refl _ _)))
 clear e3' e4' c2' f2' HS1
 generalize (W1.setCell ⟨w.heap.size + 1, 2, none⟩ (.int .i64 (gT b 3))).drew = W2 at *
 have z0 : W2.cell? ⟨w.heap.size + 1, 0, none⟩ = some (.int .i64 (gB b 0)) := HS2.out.cell 0
 have z1 : W2.cell? ⟨w.heap.size + 1, 1, none⟩ = some (.int .i64 (gT b 1)) := HS2.out.cell 1
 have z2 : W2.cell? ⟨w.heap.size + 1, 2, none⟩ = some (.int .i64 (gT b 3)) := HS2.out.cell 2
 have z3 : W2.cell? ⟨w.heap.size + 1, 3, none⟩ = some (.slice none 0 0) := HS2.out.cell 3
 have z4 : W2.cell? ⟨w.heap.size + 1, 4, none⟩ = some (.slice none 0 0) := HS2.out.cell 4
 go_wp2_with fail
 obtain ⟨rr, hrr⟩ : ∃ rr, Aside0 ((if okRec (gB b 0) (gT b 1) (gT b 3) [] [] = true then (0 : Int) else 2) = rr) := ⟨_, ⟨rfl⟩⟩
 have hz : w.heap.size + 1 < W2.drew.heap.size := blk_lt HS2.out.bx
 have hks : ∀ (W : World) (i j : Nat) (v : Value), (W.setCell ⟨w.heap.size, i, none⟩ v).cell? ⟨w.heap.size + 1, j, none⟩ = W.cell? ⟨w.heap.size + 1, j, none⟩ := fun W i j v => (Only.set W _ i v).cell (by omega)
 have g0 := HS2.out.frozen0 0
 have g1 := HS2.out.frozen0 1
 have g2 := HS2.out.frozen0 2
 have g3 := HS2.out.frozen0 3
 have g4 := HS2.out.frozen0 4
 go_region_held3 (fun w' => w'.cell? ⟨w.heap.size + 1, 0, none⟩ = some (.int .i64 (gB b 0)) ∧ w'.cell? ⟨w.heap.size + 1, 1, none⟩ = some (.int .i64 (gT b 1)) ∧ w'.cell? ⟨w.heap.size + 1, 2, none⟩ = some (.int .i64 (gT b 3)) ∧ w'.cell? ⟨w.heap.size + 1, 3, none⟩ = some (.slice none 0 0) ∧ w'.cell? ⟨w.heap.size + 1, 4, none⟩ = some (.slice none 0 0))
  (first | go_keep | (refine ⟨?_, ?_, ?_, ?_, ?_⟩ <;> rw [hb3.cell hz] <;> simp [*]))
  (first | (go_at_call 13; refine (rcheck_calls (gB b 0) (gT b 1) (gT b 3) none 0 [] none 0 [] rr _ (Kd.C_nil _ _) (Nat.zero_le _) (Kd.C_nil _ _) (Nat.zero_le _) hrr.out).mono ?_; rintro e W3 ⟨rfl, hb3⟩; have HS3 := Aside0.mk ((HS2.out.below (below_drew (Below.refl _ _))).below hb3); have g0 := HS3.out.frozen0 0; have g1 := HS3.out.frozen0 1; have g2 := HS3.out.frozen0 2; have g3 := HS3.out.frozen0 3; have g4 := HS3.out.frozen0 4; have k0 := blk_cell HS3.out.b0 0; have k1 := blk_cell HS3.out.b0 1; have k2 := blk_cell HS3.out.b0 2; have k3 := blk_cell HS3.out.b0 3; have k4 := blk_cell HS3.out.b0 4; simp at k0 k1 k2 k3 k4))
 obtain ⟨W9, hW9, hbx, ho, hb9⟩ := ParSt.fin (c0 := .int .i64 (gB b 0)) (c1 := .int .i64 (gT b 1)) (c2 := .int .i64 (gT b 3)) (v3 := .slice none 0 0) (v4 := .slice none 0 0) (by simpa using HS3.out)
 have hI : (rr == 0) = recIs b := by
  have e := hrr.out
  unfold recIs recN recM recPl recSt recJ
  simp only [if_neg hk]
  rw [decide_eq_true h5, Bool.true_and]
  rw [← e]
  cases okRec (gB b 0) (gT b 1) (gT b 3) [] [] <;> rfl
 clear hb3 HS3 HS2 hrr
 go_wp2_with fail
 rw [← hW9]
 clear hW9
 have y0 : W9.cell? ⟨w.heap.size, 0, none⟩ = some (.int .i64 (gB b 0)) := (blk_cell hbx 0).trans rfl
 have y1 : W9.cell? ⟨w.heap.size, 1, none⟩ = some (.int .i64 (gT b 1)) := (blk_cell hbx 1).trans rfl
 have y2 : W9.cell? ⟨w.heap.size, 2, none⟩ = some (.int .i64 (gT b 3)) := (blk_cell hbx 2).trans rfl
 have y3 : W9.cell? ⟨w.heap.size, 3, none⟩ = some (.slice none 0 0) := (blk_cell hbx 3).trans rfl
 have y4 : W9.cell? ⟨w.heap.size, 4, none⟩ = some (.slice none 0 0) := (blk_cell hbx 4).trans rfl
 refine bodyPost_ret (v := .tuple #[.agg #[.int .i64 (gB b 0), .int .i64 (gT b 1), .int .i64 (gT b 3), .slice none 0 0, .slice none 0 0], .bool (recIs b)]) ?_ rfl ?_
 ·simp [results, Try.results45, go_sem, y0, y1, y2, y3, y4, hI]
 ·refine ⟨_, _, _, _, _, rfl, fun _ => ⟨rfl, ?_, ?_, ?_, ?_⟩, hb9, ⟨_, _, _, rfl⟩, ⟨_, _, _, rfl⟩⟩
  ·unfold recN; rw [if_neg hk]
  ·unfold recM; rw [if_neg hk]
  ·unfold recPl; rw [if_neg hk]; exact Kd.R_nil _ _ _ _ _
  ·unfold recSt; rw [if_neg hk]; exact Kd.R_nil _ _ _ _ _
set_option maxRecDepth 100000 in
set_option maxHeartbeats 3200000 in
theorem parse_odd (A : Option Addr) (c : Nat) (b : List Int) (w : World) (hr : Kd.C (Kd.int .u8) w A b.length b) (hc : b.length ≤ c) (hb : ∀ x ∈ b, isByte x) (h2 : 2 ≤ b.length) (hm : b.length ≤ 140737488355328) (h5 : b.length ≠ 5) (hk : gB b 0 ≠ 1) :
  Calls Try.prog 45 #[.slice A b.length c] w (ParseOut w b) := by
 obtain ⟨ad, rfl, HB⟩ := Byts.of hr (by omega)
 have hq0 := gB_byte hb 0
 have x0 : w.cell? ad = some (.int .u8 (gB b 0)) := HB.zero (by omega)
 have hbk := World.block_lt_of_cell? w _ x0
 have hw0 : IntKind.i64.wrap (gB b 0) = gB b 0 := IntWalk.i64_in _ (by unfold isByte at hq0; omega)
 have hk1 : (gB b 0 != 1) = true := by rw [bne_iff_ne]; exact hk
 have hI : recIs b = false := recIs_len (by unfold recJ; rw [if_neg hk]; exact h5)
 have hl0 : (0 : Int) < b.length := by omega
 have hl1 : (1 : Int) ≤ b.length := by omega
 have hl4 : (((b.length - 1 : Nat) : Int) != 4) = true := by rw [bne_iff_ne]; omega
 clear hr hb HB
 go_enter Try.func45, Try.ntmps45
 go_wp2_with fail
 refine bodyPost_ret (v := .tuple #[.agg #[.int .i64 (gB b 0), .int .i64 0, .int .i64 0, .slice none 0 0, .slice none 0 0], .bool false]) ?_ rfl ?_
 ·simp [results, Try.results45, go_sem]
 ·exact ⟨gB b 0, 0, 0, .slice none 0 0, .slice none 0 0, (by rw [hI]), (fun h => (by rw [hI] at h; cases h)), below_alloc (below_alloc (Below.refl _ _) _) _, ⟨_, _, _, rfl⟩, ⟨_, _, _, rfl⟩⟩
end Go.Proofs.Ytagkgddkpnbfoaa.P
