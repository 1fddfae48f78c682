import Derived.Test.YtagkgddkpnbfoaaHrec
namespace Go.Proofs.Ytagkgddkpnbfoaa.P
set_option linter.unusedVariables false
set_option linter.unusedSimpArgs false
open Go.RowKit Go.Proofs.YtagkgddkpnbfoaaW.PrintWords Go.Proofs.YtagkgddkpnbfoaaW.PrintLast Go.Proofs.YtagkgddkpnbfoaaW.PrintMore

def fN (b : List Int) : Nat := (gT b 0).toNat
def fMid (b : List Int) : List Int := (b.take (fN b - 2)).drop 4
def fHead (b : List Int) : Bool := decide (8 ≤ b.length) && (decide (gT b 2 = 65535 - gT b 0) && (decide (8 ≤ gT b 0) && decide (gT b 0 ≤ b.length)))
def fSum (b : List Int) : Bool := decide (gT ((b.take (fN b)).drop (fN b - 2)) 0 = sumL (b.take (fN b - 2)))
def firstOk (b : List Int) : Bool := fHead b && (fSum b && recIs (fMid b))
def recOf (b : List Int) : S25 := ⟨gB b 0, recN b, recM b, recPl b, recSt b⟩
def firstF (b : List Int) : S25 × Int × Bool := if (fHead b && fSum b) = true then (recOf (fMid b), gT b 0, recIs (fMid b)) else (⟨0, 0, 0, [], []⟩, 0, false)

theorem gT_range {b : List Int} (hb : ∀ x ∈ b, isByte x) (j : Nat) : 0 ≤ gT b j ∧ gT b j ≤ 65535 := by
 have h1 := gB_byte hb j
 have h2 := gB_byte hb (j + 1)
 unfold gT
 obtain ⟨_, _⟩ := h1
 obtain ⟨_, _⟩ := h2
 omega
theorem info5_x : ∃ i, Try.prog.info? 5 = some i ∧ i.size = 1 := by
 obtain ⟨i, h, h2⟩ := Option.map_eq_some_iff.1 info5
 simp only [Prod.mk.injEq] at h2
 exact ⟨i, h, h2.2.1⟩
theorem cut_at (A : Option Addr) (c : Nat) (b : List Int) (lo hi : Nat) (W : World) (h1 : lo ≤ hi) (h2 : hi ≤ b.length) (hc : b.length ≤ c) (hlt : lo < c) (hC : Kd.C (Kd.int .u8) W A b.length b) :
  Kd.C (Kd.int .u8) W (Option.map (fun x => x.add lo) A) ((b.take hi).drop lo).length ((b.take hi).drop lo) := by
 have := Kd.C_mid (lo := lo) (hi := hi) hC h1 h2 hc
 rw [if_neg (by omega)] at this
 have hs : lo * (Kd.int .u8).sz = lo := Nat.mul_one lo
 rw [hs] at this
 exact this
theorem sum_at (A : Option Addr) (n c : Nat) (l : List Int) (w : World) (hn : n = l.length) (hr : Kd.C (Kd.int .u8) w A l.length l) (hc : n ≤ c) (hb : ∀ x ∈ l, isByte x) (hm : l.length ≤ 140737488355328) :
  Calls Try.prog 15 #[.slice A n c] w fun e w' => e = .returned (.int .i64 (sumL l)) ∧ Drawn0 w w' := by
 subst hn
 exact journal_Sum.calls _ A c l _ w hr hc (sum_f l hb hm)
theorem record_at (A : Option Addr) (n c : Nat) (b : List Int) (w : World) (hn : n = b.length) (hr : Kd.C (Kd.int .u8) w A b.length b) (hc : n ≤ c) (hb : ∀ x ∈ b, isByte x) (hm : b.length ≤ 140737488355328) :
  Calls Try.prog 44 #[.slice A n c] w fun e w' => ∃ v3 v4 : Value, e = .returned (.tuple #[.agg #[.int .i64 (gB b 0), .int .i64 (recN b), .int .i64 (recM b), v3, v4], .bool (recIs b)]) ∧
   Kd.R (Kd.int .i64) 3 w' w.heap.size (fun _ => True) v3 (recPl b) ∧ Kd.R k49 49 w' w.heap.size (fun _ => True) v4 (recSt b) ∧ Below w.heap.size w w' := by
 subst hn
 exact record_calls A c b w hr hc hb hm
theorem take_u8 {W : World} {A : Option Addr} {b : List Int} (hC : Kd.C (Kd.int .u8) W A b.length b) (hi : Nat) (h : hi ≤ b.length) : Kd.C (Kd.int .u8) W A (b.take hi).length (b.take hi) :=
 Kd.C_take hC h
theorem take_byte {b : List Int} (hb : ∀ x ∈ b, isByte x) (n : Nat) : ∀ x ∈ b.take n, isByte x := fun x hx => hb x (List.mem_of_mem_take hx)
theorem mid_byte {b : List Int} (hb : ∀ x ∈ b, isByte x) (n m : Nat) : ∀ x ∈ (b.take n).drop m, isByte x := fun x hx => hb x (List.mem_of_mem_take (List.mem_of_mem_drop hx))

theorem rec_put {w W : World} {b : List Int} {a0 a1 a2 a3 a4 : Value} {j : Nat} {u3 u4 : Value} {pl : List Int} {st : List S49} (h : RecSt w b W #[a0, a1, a2, a3, a4] j)
  (h3 : Kd.R (Kd.int .i64) 3 W w.heap.size (fun k => w.heap.size + 1 < k) u3 pl) (h4 : Kd.R k49 49 W w.heap.size (fun k => w.heap.size + 1 < k) u4 st) (c0 c1 c2 v3 v4 : Value) :
  ∃ W', W' = (((((W.setCell ⟨w.heap.size, 0, none⟩ c0).setCell ⟨w.heap.size, 1, none⟩ c1).setCell ⟨w.heap.size, 2, none⟩ c2).setCell ⟨w.heap.size, 3, none⟩ v3).setCell ⟨w.heap.size, 4, none⟩ v4) ∧
   RecSt w b W' #[c0, c1, c2, v3, v4] j ∧ Kd.R (Kd.int .i64) 3 W' w.heap.size (fun k => w.heap.size + 1 < k) u3 pl ∧ Kd.R k49 49 W' w.heap.size (fun k => w.heap.size + 1 < k) u4 st := by
 have hs := ((((h.set 0 c0).set 1 c1).set 2 c2).set 3 v3).set 4 v4
 have hk : ∀ k, w.heap.size + 1 < k → k ≠ w.heap.size := fun k hk => by omega
 refine ⟨_, rfl, by simpa using hs, ?_, ?_⟩
 ·exact Kd.R_far (p := ⟨w.heap.size, 4, none⟩) (Kd.R_far (p := ⟨w.heap.size, 3, none⟩) (Kd.R_far (p := ⟨w.heap.size, 2, none⟩) (Kd.R_far (p := ⟨w.heap.size, 1, none⟩) (Kd.R_far (p := ⟨w.heap.size, 0, none⟩) h3 hk _) hk _) hk _) hk _) hk _
 ·exact Kd.R_far (p := ⟨w.heap.size, 4, none⟩) (Kd.R_far (p := ⟨w.heap.size, 3, none⟩) (Kd.R_far (p := ⟨w.heap.size, 2, none⟩) (Kd.R_far (p := ⟨w.heap.size, 1, none⟩) (Kd.R_far (p := ⟨w.heap.size, 0, none⟩) h4 hk _) hk _) hk _) hk _) hk _
def Zero (w : World) (e : Ending) (w' : World) : Prop := e = .returned (.tuple #[.agg #[.int .i64 0, .int .i64 0, .int .i64 0, .slice none 0 0, .slice none 0 0], .int .i64 0, .bool false]) ∧ Below w.heap.size w w'

set_option maxRecDepth 100000 in
set_option maxHeartbeats 3200000 in
theorem first_short (A : Option Addr) (c : Nat) (b : List Int) (w : World) (hr : Kd.C (Kd.int .u8) w A b.length b) (hc : b.length ≤ c) (h8 : b.length < 8) :
  Calls Try.prog 34 #[.slice A b.length c] w (Zero w) := by
 have hm := hr.2.1
 have h1 : decide (b.length < 8) = true := decide_eq_true h8
 have h2 : (b.length : Int) < 8 := by omega
 clear hr
 go_enter Try.func34, Try.ntmps34
 go_wp2_with fail
 refine bodyPost_ret (v := .tuple #[.agg #[.int .i64 0, .int .i64 0, .int .i64 0, .slice none 0 0, .slice none 0 0], .int .i64 0, .bool false]) (by simp [results, Try.results34, go_sem]) rfl ⟨rfl, ?_⟩
 exact (Below.refl _ _).alloc (Nat.le_refl _) _

set_option maxRecDepth 100000 in
set_option maxHeartbeats 3200000 in
theorem first_head (A : Option Addr) (c : Nat) (b : List Int) (w : World) (hr : Kd.C (Kd.int .u8) w A b.length b) (hc : b.length ≤ c) (hb : ∀ x ∈ b, isByte x) (h8 : ¬ b.length < 8) (hh : fHead b = false) :
  Calls Try.prog 34 #[.slice A b.length c] w (Zero w) := by
 have hm := hr.2.1
 have h1 : decide (b.length < 8) = false := decide_eq_false h8
 have h2 : ¬ (b.length : Int) < 8 := by omega
 have HX := Aside0.mk hb
 have HS0 := Aside0.mk (rec_start A c b w #[.int .i64 0, .int .i64 0, .int .i64 0, .slice none 0 0, .slice none 0 0] hr hc)
 obtain ⟨n0, n1⟩ := gT_range hb 0
 have hcm : ¬ (gT b 2 = 65535 - gT b 0) ∨ (gT b 2 = 65535 - gT b 0 ∧ ¬ (8 ≤ gT b 0 ∧ gT b 0 ≤ b.length)) := by
  simp only [fHead, Bool.and_eq_false_iff, decide_eq_false_iff_not] at hh
  omega
 clear hr hb hh
 go_enter Try.func34, Try.ntmps34
 go_wp2_with fail
 generalize (w.alloc (.cells #[.int .i64 0, .int .i64 0, .int .i64 0, .slice none 0 0, .slice none 0 0] 25)).alloc (.cells #[.slice A b.length c, .bool false] 74) = W0 at *
 refine (two_calls w.heap.size (w.heap.size + 1) b 0 _ HX.out HS0.out.rd).mono ?_
 rintro e W1 ⟨rfl, hr1, ho1⟩
 have HS1 := Aside0.mk (HS0.out.only hr1 ho1)
 clear HS0 hr1 ho1
 go_wp2_with fail
 refine (two_calls w.heap.size (w.heap.size + 1) b (0 + 2) _ HX.out HS1.out.rd).mono ?_
 rintro e W2 ⟨rfl, hr2, ho2⟩
 have HS2 := Aside0.mk (HS1.out.only hr2 ho2)
 clear HS1 hr2 ho2
 simp only [Nat.zero_add]
 have x0 : W2.cell? ⟨w.heap.size, 0, none⟩ = some (.int .i64 0) := HS2.out.cell 0
 have x1 : W2.cell? ⟨w.heap.size, 1, none⟩ = some (.int .i64 0) := HS2.out.cell 1
 have x2 : W2.cell? ⟨w.heap.size, 2, none⟩ = some (.int .i64 0) := HS2.out.cell 2
 have x3 : W2.cell? ⟨w.heap.size, 3, none⟩ = some (.slice none 0 0) := HS2.out.cell 3
 have x4 : W2.cell? ⟨w.heap.size, 4, none⟩ = some (.slice none 0 0) := HS2.out.cell 4
 have f0 := HS2.out.frozen 0
 have f1 := HS2.out.frozen 1
 have f2 := HS2.out.frozen 2
 have f3 := HS2.out.frozen 3
 have f4 := HS2.out.frozen 4
 rcases hcm with hcm | ⟨hcm, hin⟩
 ·have h3 : (gT b 2 != 65535 - gT b 0) = true := by rw [bne_iff_ne]; exact hcm
  clear hcm
  obtain ⟨W9, hW9, hbx, _, _, hb9⟩ := rec_end HS2.out (Kd.R_nil _ _ _ _ _) (Kd.R_nil _ _ _ _ _)
  go_wp2
  rw [← hW9]
  clear hW9
  have y0 : W9.cell? ⟨w.heap.size, 0, none⟩ = some (.int .i64 0) := (blk_cell hbx 0).trans rfl
  have y1 : W9.cell? ⟨w.heap.size, 1, none⟩ = some (.int .i64 0) := (blk_cell hbx 1).trans rfl
  have y2 : W9.cell? ⟨w.heap.size, 2, none⟩ = some (.int .i64 0) := (blk_cell hbx 2).trans rfl
  have y3 : W9.cell? ⟨w.heap.size, 3, none⟩ = some (.slice none 0 0) := (blk_cell hbx 3).trans rfl
  have y4 : W9.cell? ⟨w.heap.size, 4, none⟩ = some (.slice none 0 0) := (blk_cell hbx 4).trans rfl
  refine bodyPost_ret (v := .tuple #[.agg #[.int .i64 0, .int .i64 0, .int .i64 0, .slice none 0 0, .slice none 0 0], .int .i64 0, .bool false]) (by simp [results, Try.results34, go_sem, y0, y1, y2, y3, y4]) rfl ⟨rfl, hb9⟩
 ·have h3 : (gT b 2 != 65535 - gT b 0) = false := by rw [bne_eq_false_iff_eq]; exact hcm
  clear hcm
  by_cases h4 : 8 ≤ gT b 0
  ·have h5 : ¬ (gT b 0 ≤ (b.length : Int)) := fun h => hin ⟨h4, h⟩
   clear hin
   obtain ⟨W9, hW9, hbx, _, _, hb9⟩ := rec_end HS2.out (Kd.R_nil _ _ _ _ _) (Kd.R_nil _ _ _ _ _)
   go_wp2
   rw [← hW9]
   clear hW9
   have y0 : W9.cell? ⟨w.heap.size, 0, none⟩ = some (.int .i64 0) := (blk_cell hbx 0).trans rfl
   have y1 : W9.cell? ⟨w.heap.size, 1, none⟩ = some (.int .i64 0) := (blk_cell hbx 1).trans rfl
   have y2 : W9.cell? ⟨w.heap.size, 2, none⟩ = some (.int .i64 0) := (blk_cell hbx 2).trans rfl
   have y3 : W9.cell? ⟨w.heap.size, 3, none⟩ = some (.slice none 0 0) := (blk_cell hbx 3).trans rfl
   have y4 : W9.cell? ⟨w.heap.size, 4, none⟩ = some (.slice none 0 0) := (blk_cell hbx 4).trans rfl
   refine bodyPost_ret (v := .tuple #[.agg #[.int .i64 0, .int .i64 0, .int .i64 0, .slice none 0 0, .slice none 0 0], .int .i64 0, .bool false]) (by simp [results, Try.results34, go_sem, y0, y1, y2, y3, y4]) rfl ⟨rfl, hb9⟩
  ·clear hin
   obtain ⟨W9, hW9, hbx, _, _, hb9⟩ := rec_end HS2.out (Kd.R_nil _ _ _ _ _) (Kd.R_nil _ _ _ _ _)
   go_wp2
   rw [← hW9]
   clear hW9
   have y0 : W9.cell? ⟨w.heap.size, 0, none⟩ = some (.int .i64 0) := (blk_cell hbx 0).trans rfl
   have y1 : W9.cell? ⟨w.heap.size, 1, none⟩ = some (.int .i64 0) := (blk_cell hbx 1).trans rfl
   have y2 : W9.cell? ⟨w.heap.size, 2, none⟩ = some (.int .i64 0) := (blk_cell hbx 2).trans rfl
   have y3 : W9.cell? ⟨w.heap.size, 3, none⟩ = some (.slice none 0 0) := (blk_cell hbx 3).trans rfl
   have y4 : W9.cell? ⟨w.heap.size, 4, none⟩ = some (.slice none 0 0) := (blk_cell hbx 4).trans rfl
   refine bodyPost_ret (v := .tuple #[.agg #[.int .i64 0, .int .i64 0, .int .i64 0, .slice none 0 0, .slice none 0 0], .int .i64 0, .bool false]) (by simp [results, Try.results34, go_sem, y0, y1, y2, y3, y4]) rfl ⟨rfl, hb9⟩

set_option maxRecDepth 100000 in
set_option maxHeartbeats 3200000 in
theorem first_main (A : Option Addr) (c : Nat) (b : List Int) (w : World) (hr : Kd.C (Kd.int .u8) w A b.length b) (hc : b.length ≤ c) (hb : ∀ x ∈ b, isByte x) (hh : fHead b = true) (hl : b.length ≤ 140737488355328) :
  Calls Try.prog 34 #[.slice A b.length c] w fun e w' => ∃ v3 v4 : Value, e = .returned (.tuple #[.agg #[.int .i64 (firstF b).1.f0, .int .i64 (firstF b).1.f1, .int .i64 (firstF b).1.f2, v3, v4], .int .i64 (firstF b).2.1, .bool (firstF b).2.2]) ∧
   Kd.R (Kd.int .i64) 3 w' w.heap.size (fun _ => True) v3 (firstF b).1.f3 ∧ Kd.R k49 49 w' w.heap.size (fun _ => True) v4 (firstF b).1.f4 ∧ Below w.heap.size w w' := by
 have hm := hr.2.1
 have hfh := hh
 simp only [fHead, Bool.and_eq_true, decide_eq_true_eq] at hh
 obtain ⟨h8, hcm, hn8, hnl⟩ := hh
 have h1 : decide (b.length < 8) = false := decide_eq_false (by omega)
 have h2 : ¬ (b.length : Int) < 8 := by omega
 have h3 : (gT b 2 != 65535 - gT b 0) = false := by rw [bne_eq_false_iff_eq]; exact hcm
 have HX := Aside0.mk hb
 have HR := Aside0.mk hr
 have HS0 := Aside0.mk (rec_start A c b w #[.int .i64 0, .int .i64 0, .int .i64 0, .slice none 0 0, .slice none 0 0] hr hc)
 have hN : Aside0 (gT b 0 = (fN b : Int)) := ⟨by unfold fN; omega⟩
 have hn1 : 8 ≤ fN b := by have := hN.out; omega
 have hn2 : fN b ≤ b.length := by have := hN.out; omega
 have hn3 : fN b ≤ 65535 := by have := hN.out; have := (gT_range hb 0).2; omega
 rw [hN.out] at h3
 have C2 : Aside0 (Kd.C (Kd.int .u8) w (Option.map (fun x => x.add (fN b - 2)) A) ((b.take (fN b)).drop (fN b - 2)).length ((b.take (fN b)).drop (fN b - 2))) := ⟨cut_at A c b (fN b - 2) (fN b) w (by omega) hn2 hc (by omega) hr⟩
 have C4 : Aside0 (Kd.C (Kd.int .u8) w (Option.map (fun x => x.add 4) A) (fMid b).length (fMid b)) := ⟨cut_at A c b 4 (fN b - 2) w (by omega) (by omega) hc (by omega) hr⟩
 have L2 : Aside0 (fN b - (fN b - 2) = ((b.take (fN b)).drop (fN b - 2)).length) := ⟨by rw [List.length_drop, List.length_take]; omega⟩
 have L4 : Aside0 (fN b - 2 - 4 = (fMid b).length) := ⟨by unfold fMid; rw [List.length_drop, List.length_take]; omega⟩
 have LT : Aside0 (fN b - 2 = (b.take (fN b - 2)).length) := ⟨by rw [List.length_take]; omega⟩
 have HX2 := Aside0.mk (mid_byte hb (fN b) (fN b - 2))
 have HX4 : Aside0 (∀ x ∈ fMid b, isByte x) := ⟨mid_byte hb (fN b - 2) 4⟩
 have HXT := Aside0.mk (take_byte hb (fN b - 2))
 have hl4 : (fMid b).length ≤ 140737488355328 := by have := L4.out; omega
 have hFS : Aside0 ((gT ((b.take (fN b)).drop (fN b - 2)) 0 != sumL (b.take (fN b - 2))) = !fSum b) := ⟨by unfold fSum; cases h : decide (gT ((b.take (fN b)).drop (fN b - 2)) 0 = sumL (b.take (fN b - 2))) <;> simp_all⟩
 have hAb : Aside0 (∀ ad, A = some ad → 0 < b.length → ad.block < w.heap.size) := ⟨fun ad h hn => by subst h; exact Kd.C_lt hr hn (by decide)⟩
 have hbd : 2 ≤ (fN b : Int) ∧ (fN b : Int) - 2 ≤ (c : Int) := by omega
 have htn : ((fN b : Int) - 2).toNat = fN b - 2 := by omega
 generalize hb2 : (b.take (fN b)).drop (fN b - 2) = b2 at *
 clear hb2
 clear hr hb hcm hn8 hnl h8
 go_enter Try.func34, Try.ntmps34
 go_wp2_with fail
 generalize (w.alloc (.cells #[.int .i64 0, .int .i64 0, .int .i64 0, .slice none 0 0, .slice none 0 0] 25)).alloc (.cells #[.slice A b.length c, .bool false] 74) = W0 at *
 refine (two_calls w.heap.size (w.heap.size + 1) b 0 _ HX.out HS0.out.rd).mono ?_
 rintro e W1 ⟨rfl, hr1, ho1⟩
 have HS1 := Aside0.mk (HS0.out.only hr1 ho1)
 have HZ1 := Aside0.mk (ho1.size)
 clear HS0 hr1 ho1
 rw [hN.out]
 go_wp2_with fail
 refine (two_calls w.heap.size (w.heap.size + 1) b (0 + 2) _ HX.out HS1.out.rd).mono ?_
 rintro e W2 ⟨rfl, hr2, ho2⟩
 have HS2 := Aside0.mk (HS1.out.only hr2 ho2)
 clear HS1 hr2 ho2
 simp only [Nat.zero_add]
 go_wp2_with (go_at_call 31; go_in)
 rw [L2.out]
 have HR2 : Aside0 (RdrAt (W2.alloc (.cells #[.slice (Option.map (fun x => x.add (fN b - 2)) A) b2.length (c - (fN b - 2)), .bool false] 74)).drew w.heap.size W2.heap.size b2 0) := ⟨by
  refine ⟨HS2.out.bl.size, Option.map (fun x => x.add (fN b - 2)) A, c - (fN b - 2), (heap_alloc_new W2 (.cells #[.slice (Option.map (fun x => x.add (fN b - 2)) A) b2.length (c - (fN b - 2)), .bool false] 74)).trans (by simp), by have := L2.out; simp; omega, ?_, ?_⟩
  ·simpa using Kd.C_drew (Kd.C_below C2.out (below_alloc HS2.out.bl _))
  ·intro ad ha hn
   obtain ⟨a0, h0, rfl⟩ := Option.map_eq_some_iff.1 ha
   rw [add_block]
   exact hAb.out a0 h0 (by omega)⟩
 have HS3 := Aside0.mk (HS2.out.below (below_drew (below_alloc (Below.refl W2.heap.size W2) (.cells #[.slice (Option.map (fun x => x.add (fN b - 2)) A) b2.length (c - (fN b - 2)), .bool false] 74))))
 have HB2 := Aside0.mk HS3.out.bl
 have hg2 := Aside0.mk (show w.heap.size ≤ W2.heap.size from HS2.out.bl.size)
 refine start_ (n := 7) (S := fun w' => True) (ds := []) #[false, false, false, false, false, false, false] (by kernel_rfl) rfl rfl trivial (fun hHeld => ?_)
 refine pureS_ (i := 0) (N := some 37) (v := ?_) (a' := ?_) rfl rfl (by kernel_rfl) (fun _ _ _ h => h) (Or.inl ⟨by rfl, ?_⟩) ?_ ?_
 rotate_left; (· intro w'; go_simp; with_reducible rfl); rotate_left; (· simp only [Act.put, List.setIfInBounds_toArray, List.set_cons_zero, List.set_cons_succ, i64_w, i32_w]; rfl)
 refine pureS_ (i := 2) (N := some 39) (v := ?_) (a' := ?_) rfl rfl (by kernel_rfl) (fun _ _ _ h => h) (Or.inl ⟨by rfl, ?_⟩) ?_ ?_
 rotate_left; (· intro w'; go_simp; with_reducible rfl); rotate_left; (· simp only [Act.put, List.setIfInBounds_toArray, List.set_cons_zero, List.set_cons_succ, i64_w, i32_w]; rfl)
 refine pureS_ (i := 3) (N := some 40) (v := ?_) (a' := ?_) rfl rfl (by kernel_rfl) (fun _ _ _ h => h) (Or.inl ⟨by rfl, ?_⟩) ?_ ?_
 rotate_left; (· intro w'; go_simp; with_reducible rfl); rotate_left; (· simp only [Act.put, List.setIfInBounds_toArray, List.set_cons_zero, List.set_cons_succ, i64_w, i32_w]; rfl)
 refine pureS_ (i := 4) (N := some 41) (v := ?_) (a' := ?_) rfl rfl (by kernel_rfl) (fun _ _ _ h => h) (Or.inl ⟨by rfl, ?_⟩) ?_ ?_
 rotate_left; (· intro w'; go_simp; with_reducible rfl); rotate_left; (· simp only [Act.put, List.setIfInBounds_toArray, List.set_cons_zero, List.set_cons_succ, i64_w, i32_w]; rfl)
 refine oneS_ (i := 1) (N := some 38) rfl rfl (by kernel_rfl) (by decide) (fun K hK => ?_)
 refine goes_ Try.func43 (by kernel_rfl) rfl #[.pointer (some ⟨W2.heap.size, 0, none⟩)] (by rfl) rfl rfl (by simp only [List.map_toArray, List.map_cons, List.map_nil]; rfl) ?_
 with_reducible refine (two_calls w.heap.size W2.heap.size b2 0 _ HX2.out HR2.out).mono ?_
 rintro e w3 ⟨rfl, hr3, ho3⟩
 refine ⟨_, rfl, ?_⟩
 refine hK.out _ _ trivial (fun hHeld => ?_)
 clear hK K
 refine norm_ (a' := ?_) ?_ ?_
 rotate_left
 ·show Act.put _ (some 38) _ = _
  simp only [Act.put, List.setIfInBounds_toArray, List.set_cons_zero, List.set_cons_succ, i64_w, i32_w]
  rfl
 refine oneS_ (i := 5) (N := some 42) rfl rfl (by kernel_rfl) (by decide) (fun K hK => ?_)
 refine goes_ Try.func15 (by kernel_rfl) rfl #[.slice A (fN b - 2) c] (by rfl) rfl rfl (by simp only [List.map_toArray, List.map_cons, List.map_nil]; rfl) ?_
 with_reducible refine (sum_at A (fN b - 2) c (b.take (fN b - 2)) _ LT.out (take_u8 (Kd.C_below HR.out (HB2.out.trans (ho3.below hg2.out))) (fN b - 2) (by omega)) (by omega) HXT.out (by rw [List.length_take]; omega)).mono ?_
 rintro e w4 ⟨rfl, ⟨q4, rfl⟩⟩
 refine ⟨_, rfl, ?_⟩
 refine hK.out _ _ trivial (fun hHeld => ?_)
 clear hK K
 refine norm_ (a' := ?_) ?_ ?_
 rotate_left
 ·show Act.put _ (some 42) _ = _
  simp only [Act.put, List.setIfInBounds_toArray, List.set_cons_zero, List.set_cons_succ, i64_w, i32_w]
  rfl
 refine pureS_ (i := 6) (N := some 43) (v := ?_) (a' := ?_) rfl rfl (by kernel_rfl) (fun _ _ _ h => h) (Or.inl ⟨by rfl, ?_⟩) ?_ ?_
 rotate_left; (· intro w'; go_simp; with_reducible rfl); rotate_left; (· simp only [Act.put, List.setIfInBounds_toArray, List.set_cons_zero, List.set_cons_succ, i64_w, i32_w]; rfl)
 refine done_ (by kernel_rfl) ?_
 have HS4 : Aside0 (RecSt w b (w3.drewN q4) #[.int .i64 0, .int .i64 0, .int .i64 0, .slice none 0 0, .slice none 0 0] (0 + 2 + 2)) := ⟨by
  have hl1 := HS2.out.rd.lt
  have hg := hg2.out
  exact RecSt.below (W := w3) ⟨(ho3.block _ (by omega)).trans HS3.out.bx, HS3.out.rd.same (ho3.block _ (by omega)) (fun i hi => ho3.block i (by omega)), HS3.out.bl.trans (ho3.below hg)⟩ (pw_below_drewN (Below.refl _ _) q4)⟩
 generalize w3.drewN q4 = W4 at *
 clear HS2 HS3 HB2 HR2 hr3 ho3 hHeld
 have x0 : W4.cell? ⟨w.heap.size, 0, none⟩ = some (.int .i64 0) := HS4.out.cell 0
 have x1 : W4.cell? ⟨w.heap.size, 1, none⟩ = some (.int .i64 0) := HS4.out.cell 1
 have x2 : W4.cell? ⟨w.heap.size, 2, none⟩ = some (.int .i64 0) := HS4.out.cell 2
 have x3 : W4.cell? ⟨w.heap.size, 3, none⟩ = some (.slice none 0 0) := HS4.out.cell 3
 have x4 : W4.cell? ⟨w.heap.size, 4, none⟩ = some (.slice none 0 0) := HS4.out.cell 4
 have f0 := HS4.out.frozen 0
 have f1 := HS4.out.frozen 1
 have f2 := HS4.out.frozen 2
 have f3 := HS4.out.frozen 3
 have f4 := HS4.out.frozen 4
 cases hfs : fSum b with
 | false =>
  have h5 : (gT b2 0 != sumL (List.take (fN b - 2) b)) = true := by rw [hFS.out, hfs]; rfl
  have hF : Aside0 (firstF b = (⟨0, 0, 0, [], []⟩, 0, false)) := ⟨by unfold firstF; rw [hfs, Bool.and_false]; rfl⟩
  clear hfs
  obtain ⟨W9, hW9, hbx, _, _, hb9⟩ := rec_end HS4.out (Kd.R_nil _ _ _ _ _) (Kd.R_nil _ _ _ _ _)
  go_wp2
  rw [← hW9]
  clear hW9
  have y0 : W9.cell? ⟨w.heap.size, 0, none⟩ = some (.int .i64 0) := (blk_cell hbx 0).trans rfl
  have y1 : W9.cell? ⟨w.heap.size, 1, none⟩ = some (.int .i64 0) := (blk_cell hbx 1).trans rfl
  have y2 : W9.cell? ⟨w.heap.size, 2, none⟩ = some (.int .i64 0) := (blk_cell hbx 2).trans rfl
  have y3 : W9.cell? ⟨w.heap.size, 3, none⟩ = some (.slice none 0 0) := (blk_cell hbx 3).trans rfl
  have y4 : W9.cell? ⟨w.heap.size, 4, none⟩ = some (.slice none 0 0) := (blk_cell hbx 4).trans rfl
  refine bodyPost_ret (v := .tuple #[.agg #[.int .i64 0, .int .i64 0, .int .i64 0, .slice none 0 0, .slice none 0 0], .int .i64 0, .bool false]) (by simp [results, Try.results34, go_sem, y0, y1, y2, y3, y4]) rfl ⟨_, _, by rw [hF.out], by rw [hF.out]; exact Kd.R_nil _ _ _ _ _, by rw [hF.out]; exact Kd.R_nil _ _ _ _ _, hb9⟩
 | true =>
  have h5 : (gT b2 0 != sumL (List.take (fN b - 2) b)) = false := by rw [hFS.out, hfs]; rfl
  have hF : Aside0 (firstF b = (recOf (fMid b), gT b 0, recIs (fMid b))) := ⟨by unfold firstF; rw [hfs, hfh]; rfl⟩
  clear hfs
  go_wp2_with fail
  refine (record_at _ _ _ (fMid b) _ L4.out (Kd.C_below C4.out HS4.out.bl) (by omega) HX4.out hl4).mono ?_
  rintro e W5 ⟨v3, v4, rfl, H3, H4, hb5⟩
  obtain ⟨A3, c3, rfl, _, _⟩ := Kd.R_reads H3
  obtain ⟨A5, c5, rfl, _, _⟩ := Kd.R_reads H4
  have HS5 := Aside0.mk (HS4.out.below hb5)
  have hlt := HS4.out.rd.lt
  replace H3 := Aside0.mk (Kd.R_lower (Kd.R_mono (Kd.R_bound H3) (fun k hk => by show w.heap.size + 1 < k; omega)) HS4.out.bl.size)
  replace H4 := Aside0.mk (Kd.R_lower (Kd.R_mono (Kd.R_bound H4) (fun k hk => by show w.heap.size + 1 < k; omega)) HS4.out.bl.size)
  clear hb5 x0 x1 x2 x3 x4 f0 f1 f2 f3 f4
  have x0 : W5.cell? ⟨w.heap.size, 0, none⟩ = some (.int .i64 0) := HS5.out.cell 0
  have x1 : W5.cell? ⟨w.heap.size, 1, none⟩ = some (.int .i64 0) := HS5.out.cell 1
  have x2 : W5.cell? ⟨w.heap.size, 2, none⟩ = some (.int .i64 0) := HS5.out.cell 2
  have x3 : W5.cell? ⟨w.heap.size, 3, none⟩ = some (.slice none 0 0) := HS5.out.cell 3
  have x4 : W5.cell? ⟨w.heap.size, 4, none⟩ = some (.slice none 0 0) := HS5.out.cell 4
  have f0 := HS5.out.frozen 0
  have f1 := HS5.out.frozen 1
  have f2 := HS5.out.frozen 2
  have f3 := HS5.out.frozen 3
  have f4 := HS5.out.frozen 4
  go_wp2_with fail
  obtain ⟨W6, hW6, HS6, H3', H4'⟩ := rec_put HS5.out H3.out H4.out (.int .i64 (gB (fMid b) 0)) (.int .i64 (recN (fMid b))) (.int .i64 (recM (fMid b))) (.slice A3 (recPl (fMid b)).length c3) (.slice A5 (recSt (fMid b)).length c5)
  rw [← hW6]
  obtain ⟨W9, hW9, hbx, k3, k4, hb9⟩ := rec_end HS6 H3' H4'
  rw [← hW9]
  clear hW9 hW6
  have y0 : W9.cell? ⟨w.heap.size, 0, none⟩ = some (.int .i64 (gB (fMid b) 0)) := (blk_cell hbx 0).trans rfl
  have y1 : W9.cell? ⟨w.heap.size, 1, none⟩ = some (.int .i64 (recN (fMid b))) := (blk_cell hbx 1).trans rfl
  have y2 : W9.cell? ⟨w.heap.size, 2, none⟩ = some (.int .i64 (recM (fMid b))) := (blk_cell hbx 2).trans rfl
  have y3 : W9.cell? ⟨w.heap.size, 3, none⟩ = some (.slice A3 (recPl (fMid b)).length c3) := (blk_cell hbx 3).trans rfl
  have y4 : W9.cell? ⟨w.heap.size, 4, none⟩ = some (.slice A5 (recSt (fMid b)).length c5) := (blk_cell hbx 4).trans rfl
  refine bodyPost_ret (v := .tuple #[.agg #[.int .i64 (gB (fMid b) 0), .int .i64 (recN (fMid b)), .int .i64 (recM (fMid b)), .slice A3 (recPl (fMid b)).length c3, .slice A5 (recSt (fMid b)).length c5], .int .i64 (fN b), .bool (recIs (fMid b))]) (by simp [results, Try.results34, go_sem, y0, y1, y2, y3, y4]) rfl ⟨_, _, by rw [hF.out, ← hN.out]; rfl, by rw [hF.out]; exact k3, by rw [hF.out]; exact k4, hb9⟩

theorem first_calls (A : Option Addr) (c : Nat) (b : List Int) (w : World) (hr : Kd.C (Kd.int .u8) w A b.length b) (hc : b.length ≤ c) (hb : ∀ x ∈ b, isByte x) (hl : b.length ≤ 140737488355328) :
  Calls Try.prog 34 #[.slice A b.length c] w fun e w' => ∃ v3 v4 : Value, e = .returned (.tuple #[.agg #[.int .i64 (firstF b).1.f0, .int .i64 (firstF b).1.f1, .int .i64 (firstF b).1.f2, v3, v4], .int .i64 (firstF b).2.1, .bool (firstF b).2.2]) ∧
   Kd.R (Kd.int .i64) 3 w' w.heap.size (fun _ => True) v3 (firstF b).1.f3 ∧ Kd.R k49 49 w' w.heap.size (fun _ => True) v4 (firstF b).1.f4 ∧ Below w.heap.size w w' := by
 cases hh : fHead b with
 | true => exact first_main A c b w hr hc hb hh hl
 | false =>
  have hF : firstF b = (⟨0, 0, 0, [], []⟩, 0, false) := by unfold firstF; rw [hh]; rfl
  have hz : Calls Try.prog 34 #[.slice A b.length c] w (Zero w) := by
   by_cases h8 : b.length < 8
   ·exact first_short A c b w hr hc h8
   ·exact first_head A c b w hr hc hb h8 hh
  refine hz.mono ?_
  rintro e w' ⟨rfl, hb9⟩
  exact ⟨_, _, by rw [hF], by rw [hF]; exact Kd.R_nil _ _ _ _ _, by rw [hF]; exact Kd.R_nil _ _ _ _ _, hb9⟩
end Go.Proofs.Ytagkgddkpnbfoaa.P
