import Derived.Test.YtagkgddkpnbfoaaHcut
import Derived.Test.YtagkgddkpnbfoaaHrbytes
import Derived.Test.YtagkgddkpnbfoaaPf17
namespace Go.Proofs.Ytagkgddkpnbfoaa.P
set_option linter.unusedVariables false
set_option linter.unusedSimpArgs false
open Go.RowKit Go.Proofs.YtagkgddkpnbfoaaW.PrintWords Go.Proofs.YtagkgddkpnbfoaaW.PrintLast Go.Proofs.YtagkgddkpnbfoaaW.PrintMore
attribute [local go_sem] max2_int min2_int max_two min_two

set_option maxRecDepth 100000 in
set_option maxHeartbeats 6400000 in
theorem JournalBytes_calls (k n m : Int) (A3 : Option Addr) (c3 : Nat) (l3 : List Int) (A4 : Option Addr) (c4 : Nat) (l4 : List S49) (A0 : Option Addr) (c0 : Nat) (b : List Int) (w : World)
  (hr3 : Kd.C (Kd.int .i64) w A3 l3.length l3) (h3 : l3.length ≤ c3) (hr4 : Kd.C k49 w A4 l4.length l4) (h4 : l4.length ≤ c4) (hrb : Kd.C (Kd.int .u8) w A0 b.length b) (hcb : b.length ≤ c0) (hb : ∀ x ∈ b, isByte x) :
  Calls Try.prog 3 #[.agg #[.int .i64 k, .int .i64 n, .int .i64 m, .slice A3 l3.length c3, .slice A4 l4.length c4], .slice A0 b.length c0] w fun e w' => e = .returned (.bool true) ∧ Below w.heap.size w w' := by
 have hm3 : l3.length ≤ 9223372036854775807 := Nat.le_trans hr3.2.1 (by decide)
 have hm4 : l4.length ≤ 9223372036854775807 := Nat.le_trans hr4.2.1 (by decide)
 have hmb : b.length ≤ 9223372036854775807 := Nat.le_trans hrb.2.1 (by decide)
 have HK := Aside0.mk (cut_calls k n m A3 c3 l3 A4 c4 l4 (w.alloc (.cells #[.int .i64 k, .int .i64 n, .int .i64 m, .slice A3 l3.length c3, .slice A4 l4.length c4] 25)) hm3 hm4 h3 h4)
 have hf3 := front_C hr3 40
 have hf4 := front_C hr4 300
 have hfb := front_C hrb 3000
 have hbb : ∀ x ∈ b.take 3000, isByte x := fun x hx => hb x (List.mem_of_mem_take hx)
 have hlb : (b.take 3000).length ≤ 3000 := by rw [List.length_take]; omega
 have hlb2 : (b.take 3000).length ≤ c0 := by rw [List.length_take]; omega
 have hl3 : (l3.take 40).length ≤ c3 := by rw [List.length_take]; omega
 have hl4 : (l4.take 300).length ≤ c4 := by rw [List.length_take]; omega
 have eb : (if (3000 : Int) < (b.length : Int) then (3000 : Int) else (b.length : Int)) = ((b.take 3000).length : Int) := by rw [List.length_take]; split <;> omega
 generalize l3.take 40 = p3 at *
 generalize l4.take 300 = p4 at *
 generalize b.take 3000 = pb at *
 obtain ⟨q1, q2, hj⟩ : ∃ q1 q2, journal_Bytes.f k n m p3 p4 = some (q1, q2) := ⟨_, _, rfl⟩
 have hrj := Aside0.mk ((rbytes_f k n m p3 p4 1200 (by omega)).trans hj)
 replace hj := Aside0.mk hj
 obtain ⟨rc, hck⟩ : ∃ rc, journal_Check.f k n m p3 p4 = some rc := ⟨_, rfl⟩
 have hrck := Aside0.mk ((rcheck_f k n m p3 p4 310 (by omega)).trans hck)
 replace hck := Aside0.mk hck
 obtain ⟨s1, hs1⟩ : ∃ s1, sumL pb = s1 := ⟨_, rfl⟩
 have hs := Aside0.mk ((sum_f pb hbb (by omega)).trans (congrArg some hs1))
 have hrs := Aside0.mk ((rsum_f pb hbb (by omega) (pb.length + 1) (by omega)).trans (congrArg some hs1))
 have hq := Aside0.mk (eqBytes_self q1)
 clear hs1 hbb hb hrb hr3 hr4 hcb
 replace hf3 := Aside0.mk hf3
 replace hf4 := Aside0.mk hf4
 replace hfb := Aside0.mk hfb
 have hc3 := Aside0.mk hl3
 have hc4 := Aside0.mk hl4
 have hc0 := Aside0.mk hlb2
 have hpb : pb.length ≤ b.length ∧ pb.length ≤ 9223372036854775807 := ⟨by have e := eb; split at e <;> omega, by omega⟩
 go_enter Try.func3, Try.ntmps3
 go_wp2_with fail
 refine HK.out.mono ?_
 rintro e W1 ⟨rfl, hb1⟩
 have HB1 := Aside0.mk (below_then (below_alloc (Below.refl w.heap.size w) _) (alloc_up _ _) hb1)
 have hx := (hb1.block w.heap.size (alloc_lt _ _)).trans (alloc_at _ _)
 obtain ⟨W2, hW2, hx2, hb2⟩ := rec_lay (.int .i64 k) (.int .i64 n) (.int .i64 m) (.slice A3 p3.length c3) (.slice A4 p4.length c4) w.heap.size w hx HB1.out (Nat.le_refl _)
 have x0 := (blk_cell hx 0).trans rfl
 have x1 := (blk_cell hx 1).trans rfl
 have x2 := (blk_cell hx 2).trans rfl
 have x3 := (blk_cell hx 3).trans rfl
 have x4 := (blk_cell hx 4).trans rfl
 have f0 := blk_frozen hx 0
 have f1 := blk_frozen hx 1
 have f2 := blk_frozen hx 2
 have f3 := blk_frozen hx 3
 have f4 := blk_frozen hx 4
 replace HK := hx2
 clear hb1
 replace hW2 := Aside0.mk hW2
 replace hb2 := Aside0.mk hb2
 replace hx2 := Aside0.mk hx2
 go_wp2_with fail
 rw [← hW2.out]
 clear hW2 x0 x1 x2 x3 x4 f0 f1 f2 f3 f4 hx HB1 HK
 refine (journal_Bytes.calls k n m A3 c3 p3 A4 c4 p4 q1 q2 _ (Kd.C_below hf3.out hb2.out) hc3.out (Kd.C_below hf4.out hb2.out) hc4.out hj.out).mono ?_
 rintro e W3 ⟨v5, rfl, hv5, hb3⟩
 obtain ⟨A5, c5, rfl, hc5, HC5⟩ := Kd.R_reads hv5
 have hx3 := Aside0.mk ((hb3.block _ (blk_lt hx2.out)).trans hx2.out)
 have hB3 := Aside0.mk (below_then hb2.out hb2.out.size hb3)
 replace HC5 := Aside0.mk HC5
 replace hc5 := Aside0.mk hc5
 clear hv5 hx2 hb2 hb3
 have x0 := (blk_cell hx3.out 0).trans rfl
 have x1 := (blk_cell hx3.out 1).trans rfl
 have x2 := (blk_cell hx3.out 2).trans rfl
 have x3 := (blk_cell hx3.out 3).trans rfl
 have x4 := (blk_cell hx3.out 4).trans rfl
 go_wp2_with fail
 clear x0 x1 x2 x3 x4
 refine (drayageref20_Bytes.calls 1200 k n m A3 c3 p3 A4 c4 p4 q1 q2 _ (Kd.C_below hf3.out hB3.out) hc3.out (Kd.C_below hf4.out hB3.out) hc4.out hrj.out).mono ?_
 rintro e W4 ⟨v6, rfl, hv6, hb4⟩
 obtain ⟨A6, c6, rfl, hc6, HC6⟩ := Kd.R_reads hv6
 have hx4 := Aside0.mk ((hb4.block _ (blk_lt hx3.out)).trans hx3.out)
 have hB4 := Aside0.mk (below_then hB3.out hB3.out.size hb4)
 replace HC6 := Aside0.mk HC6
 replace hc6 := Aside0.mk hc6
 replace HC5 := Aside0.mk (Kd.C_below HC5.out hb4)
 have HC3 := Aside0.mk (Kd.C_below hf3.out hB4.out)
 have HC4 := Aside0.mk (Kd.C_below hf4.out hB4.out)
 have HCb := Aside0.mk (Kd.C_below hfb.out hB4.out)
 clear hv6 hx3 hB3 hb4 hf3 hf4 hfb
 have y0 := (blk_cell hx4.out 0).trans rfl
 have y1 := (blk_cell hx4.out 1).trans rfl
 have y2 := (blk_cell hx4.out 2).trans rfl
 have y3 := (blk_cell hx4.out 3).trans rfl
 have y4 := (blk_cell hx4.out 4).trans rfl
 have HB0 := Aside0.mk (below_drew (Below.refl W4.heap.size W4))
 go_wp2_with fail
 refine start_ (n := 26) (S := fun w' => w'.cell? ⟨w.heap.size, 0, none⟩ = some (.int .i64 k) ∧ w'.cell? ⟨w.heap.size, 1, none⟩ = some (.int .i64 n) ∧ w'.cell? ⟨w.heap.size, 2, none⟩ = some (.int .i64 m) ∧ w'.cell? ⟨w.heap.size, 3, none⟩ = some (.slice A3 p3.length c3) ∧ w'.cell? ⟨w.heap.size, 4, none⟩ = some (.slice A4 p4.length c4)) (ds := []) #[false, false, false, false, false, false, false, false, false, false, false, false, false, false, false, false, false, false, false, false, false, false, false, false, false, false] (by kernel_rfl) rfl rfl ⟨y0, y1, y2, y3, y4⟩ (fun hHeld => ?_)
 refine takeS_ (i := 0) (N := some 26) (v := ?_) (a' := ?_) rfl rfl (by kernel_rfl) (fun _ _ _ h => h) (Or.inl ⟨by rfl, ?_⟩) hHeld ?_ ?_
 rotate_left; (· rintro w' ⟨s0, s1, s2, s3, s4⟩; go_simp; with_reducible rfl); rotate_left; (· simp only [Act.put, List.setIfInBounds_toArray, List.set_cons_zero, List.set_cons_succ, i64_w, i32_w]; rfl)
 refine takeS_ (i := 2) (N := some 28) (v := ?_) (a' := ?_) rfl rfl (by kernel_rfl) (fun _ _ _ h => h) (Or.inl ⟨by rfl, ?_⟩) hHeld ?_ ?_
 rotate_left; (· rintro w' ⟨s0, s1, s2, s3, s4⟩; go_simp; with_reducible rfl); rotate_left; (· simp only [Act.put, List.setIfInBounds_toArray, List.set_cons_zero, List.set_cons_succ, i64_w, i32_w]; rfl)
 refine oneS_ (i := 1) (N := some 27) rfl rfl (by kernel_rfl) (by decide) (fun K hK => ?_)
 refine goes_ Try.func12 (by kernel_rfl) rfl #[.agg #[.int .i64 k, .int .i64 n, .int .i64 m, .slice A3 p3.length c3, .slice A4 p4.length c4]] (by rfl) rfl rfl (by simp only [List.map_toArray, List.map_cons, List.map_nil]; rfl) ?_
 with_reducible refine (journal_Check.calls k n m A3 c3 p3 A4 c4 p4 rc _ (Kd.C_below HC3.out HB0.out) hc3.out (Kd.C_below HC4.out HB0.out) hc4.out hck.out).mono ?_
 rintro e w6 ⟨rfl, hb⟩
 refine ⟨_, rfl, ?_⟩
 have hbx := hb
 have HB1 := Aside0.mk (below_then HB0.out HB0.out.size hbx)
 refine hK.out _ _ ⟨(pw_cell_below hbx hHeld.1), (pw_cell_below hbx hHeld.2.1), (pw_cell_below hbx hHeld.2.2.1), (pw_cell_below hbx hHeld.2.2.2.1), (pw_cell_below hbx hHeld.2.2.2.2)⟩ (fun hHeld => ?_)
 clear hK K
 refine norm_ (a' := ?_) ?_ ?_
 rotate_left
 ·show Act.put _ (some 27) _ = _
  simp only [Act.put, List.setIfInBounds_toArray, List.set_cons_zero, List.set_cons_succ, i64_w, i32_w]
  rfl
 refine oneS_ (i := 3) (N := some 29) rfl rfl (by kernel_rfl) (by decide) (fun K hK => ?_)
 refine goes_ Try.func13 (by kernel_rfl) rfl #[.agg #[.int .i64 k, .int .i64 n, .int .i64 m, .slice A3 p3.length c3, .slice A4 p4.length c4]] (by rfl) rfl rfl (by simp only [List.map_toArray, List.map_cons, List.map_nil]; rfl) ?_
 with_reducible refine (drayageref20_Check.calls 310 k n m A3 c3 p3 A4 c4 p4 rc _ (Kd.C_below HC3.out HB1.out) hc3.out (Kd.C_below HC4.out HB1.out) hc4.out hrck.out).mono ?_
 rintro e w7 ⟨rfl, hb⟩
 refine ⟨_, rfl, ?_⟩
 have hbx := hb
 have HB2 := Aside0.mk (below_then HB1.out HB1.out.size hbx)
 refine hK.out _ _ ⟨(pw_cell_below hbx hHeld.1), (pw_cell_below hbx hHeld.2.1), (pw_cell_below hbx hHeld.2.2.1), (pw_cell_below hbx hHeld.2.2.2.1), (pw_cell_below hbx hHeld.2.2.2.2)⟩ (fun hHeld => ?_)
 clear hK K
 refine norm_ (a' := ?_) ?_ ?_
 rotate_left
 ·show Act.put _ (some 29) _ = _
  simp only [Act.put, List.setIfInBounds_toArray, List.set_cons_zero, List.set_cons_succ, i64_w, i32_w]
  rfl
 refine pureS_ (i := 4) (N := some 30) (v := ?_) (a' := ?_) rfl rfl (by kernel_rfl) (fun _ _ _ h => h) (Or.inl ⟨by rfl, ?_⟩) ?_ ?_
 rotate_left; (· intro w'; go_simp; with_reducible rfl); rotate_left; (· simp only [Act.put, List.setIfInBounds_toArray, List.set_cons_zero, List.set_cons_succ, i64_w, i32_w]; rfl)
 refine pureS_ (i := 5) (N := some 31) (v := ?_) (a' := ?_) rfl rfl (by kernel_rfl) (fun _ _ _ h => h) (Or.inl ⟨by rfl, ?_⟩) ?_ ?_
 rotate_left; (· intro w'; go_simp; with_reducible rfl); rotate_left; (· simp only [Act.put, List.setIfInBounds_toArray, List.set_cons_zero, List.set_cons_succ, i64_w, i32_w]; rfl)
 refine pureS_ (i := 6) (N := some 32) (v := ?_) (a' := ?_) rfl rfl (by kernel_rfl) (fun _ _ _ h => h) (Or.inl ⟨by rfl, ?_⟩) ?_ ?_
 rotate_left; (· intro w'; go_simp; with_reducible rfl); rotate_left; (· simp only [Act.put, List.setIfInBounds_toArray, List.set_cons_zero, List.set_cons_succ, i64_w, i32_w]; rfl)
 refine pureS_ (i := 7) (N := some 33) (v := ?_) (a' := ?_) rfl rfl (by kernel_rfl) (fun _ _ _ h => h) (Or.inl ⟨by rfl, ?_⟩) ?_ ?_
 rotate_left; (· intro w'; go_simp; with_reducible rfl); rotate_left; (· simp only [Act.put, List.setIfInBounds_toArray, List.set_cons_zero, List.set_cons_succ, i64_w, i32_w]; rfl)
 refine oneS_ (i := 8) (N := some 34) rfl rfl (by kernel_rfl) (by decide) (fun K hK => ?_)
 refine goes_ Try.func14 (by kernel_rfl) rfl #[.slice A5 q1.length c5, .slice A6 q1.length c6] (by rfl) rfl rfl (by simp only [List.map_toArray, List.map_cons, List.map_nil]; rfl) ?_
 with_reducible refine (drayageref00_EqBytes.calls A5 c5 q1 A6 c6 q1 true _ (Kd.C_below HC5.out HB2.out) hc5.out (Kd.C_below HC6.out HB2.out) hc6.out hq.out).mono ?_
 rintro e w8 ⟨rfl, hd⟩
 refine ⟨_, rfl, ?_⟩
 have hbx := hd.below
 have HB3 := Aside0.mk (below_then HB2.out HB2.out.size hbx)
 refine hK.out _ _ ⟨(pw_cell_below hbx hHeld.1), (pw_cell_below hbx hHeld.2.1), (pw_cell_below hbx hHeld.2.2.1), (pw_cell_below hbx hHeld.2.2.2.1), (pw_cell_below hbx hHeld.2.2.2.2)⟩ (fun hHeld => ?_)
 clear hK K
 refine norm_ (a' := ?_) ?_ ?_
 rotate_left
 ·show Act.put _ (some 34) _ = _
  simp only [Act.put, List.setIfInBounds_toArray, List.set_cons_zero, List.set_cons_succ, i64_w, i32_w]
  rfl
 refine pureS_ (i := 9) (N := some 35) (v := ?_) (a' := ?_) rfl rfl (by kernel_rfl) (fun _ _ _ h => h) (Or.inl ⟨by rfl, ?_⟩) ?_ ?_
 rotate_left; (· intro w'; go_simp; with_reducible rfl); rotate_left; (· simp only [Act.put, List.setIfInBounds_toArray, List.set_cons_zero, List.set_cons_succ, i64_w, i32_w]; rfl)
 refine pureS_ (i := 10) (N := some 36) (v := ?_) (a' := ?_) rfl rfl (by kernel_rfl) (fun _ _ _ h => h) (Or.inl ⟨by rfl, ?_⟩) ?_ ?_
 rotate_left; (· intro w'; go_simp; with_reducible rfl); rotate_left; (· simp only [Act.put, List.setIfInBounds_toArray, List.set_cons_zero, List.set_cons_succ, i64_w, i32_w]; rfl)
 refine pureS_ (i := 11) (N := some 37) (v := ?_) (a' := ?_) rfl rfl (by kernel_rfl) (fun _ _ _ h => h) (Or.inl ⟨by rfl, ?_⟩) ?_ ?_
 rotate_left; (· intro w'; go_simp; with_reducible rfl); rotate_left; (· simp only [Act.put, List.setIfInBounds_toArray, List.set_cons_zero, List.set_cons_succ, i64_w, i32_w]; rfl)
 refine pureS_ (i := 12) (N := some 38) (v := ?_) (a' := ?_) rfl rfl (by kernel_rfl) (fun _ _ _ h => h) (Or.inl ⟨by rfl, ?_⟩) ?_ ?_
 rotate_left; (· intro w'; go_simp; with_reducible rfl); rotate_left; (· simp only [Act.put, List.setIfInBounds_toArray, List.set_cons_zero, List.set_cons_succ, i64_w, i32_w]; rfl)
 refine pureS_ (i := 13) (N := some 39) (v := ?_) (a' := ?_) rfl rfl (by kernel_rfl) (fun _ _ _ h => h) (Or.inl ⟨by rfl, ?_⟩) ?_ ?_
 rotate_left; (· intro w'; go_simp; with_reducible rfl); rotate_left; (· simp only [Act.put, List.setIfInBounds_toArray, List.set_cons_zero, List.set_cons_succ, i64_w, i32_w]; rfl)
 refine pureS_ (i := 14) (N := some 40) (v := ?_) (a' := ?_) rfl rfl (by kernel_rfl) (fun _ _ _ h => h) (Or.inl ⟨by rfl, ?_⟩) ?_ ?_
 rotate_left; (· intro w'; go_simp; with_reducible rfl); rotate_left; (· simp only [Act.put, List.setIfInBounds_toArray, List.set_cons_zero, List.set_cons_succ, i64_w, i32_w]; rfl)
 refine pureS_ (i := 15) (N := some 41) (v := ?_) (a' := ?_) rfl rfl (by kernel_rfl) (fun _ _ _ h => h) (Or.inl ⟨by rfl, ?_⟩) ?_ ?_
 rotate_left; (· intro w'; go_simp; with_reducible rfl); rotate_left; (· simp only [Act.put, List.setIfInBounds_toArray, List.set_cons_zero, List.set_cons_succ, i64_w, i32_w]; rfl)
 refine pureS_ (i := 16) (N := some 42) (v := ?_) (a' := ?_) rfl rfl (by kernel_rfl) (fun _ _ _ h => h) (Or.inl ⟨by rfl, ?_⟩) ?_ ?_
 rotate_left; (· intro w'; go_simp; with_reducible rfl); rotate_left; (· simp only [Act.put, List.setIfInBounds_toArray, List.set_cons_zero, List.set_cons_succ, i64_w, i32_w]; rfl)
 refine pureS_ (i := 18) (N := some 44) (v := ?_) (a' := ?_) rfl rfl (by kernel_rfl) (fun _ _ _ h => h) (Or.inl ⟨by rfl, ?_⟩) ?_ ?_
 rotate_left; (· intro w'; go_simp; with_reducible rfl); rotate_left; (· simp only [Act.put, List.setIfInBounds_toArray, List.set_cons_zero, List.set_cons_succ, i64_w, i32_w]; rfl)
 refine oneS_ (i := 17) (N := some 43) rfl rfl (by kernel_rfl) (by decide) (fun K hK => ?_)
 refine goes_ Try.func15 (by kernel_rfl) rfl #[.slice A0 pb.length c0] (by rfl) rfl rfl (by simp only [List.map_toArray, List.map_cons, List.map_nil]; rfl) ?_
 with_reducible refine (journal_Sum.calls (pb.length + 1) A0 c0 pb s1 _ (Kd.C_below HCb.out HB3.out) hc0.out hs.out).mono ?_
 rintro e w9 ⟨rfl, hd⟩
 refine ⟨_, rfl, ?_⟩
 have hbx := hd.below
 have HB4 := Aside0.mk (below_then HB3.out HB3.out.size hbx)
 refine hK.out _ _ ⟨(pw_cell_below hbx hHeld.1), (pw_cell_below hbx hHeld.2.1), (pw_cell_below hbx hHeld.2.2.1), (pw_cell_below hbx hHeld.2.2.2.1), (pw_cell_below hbx hHeld.2.2.2.2)⟩ (fun hHeld => ?_)
 clear hK K
 refine norm_ (a' := ?_) ?_ ?_
 rotate_left
 ·show Act.put _ (some 43) _ = _
  simp only [Act.put, List.setIfInBounds_toArray, List.set_cons_zero, List.set_cons_succ, i64_w, i32_w]
  rfl
 refine oneS_ (i := 19) (N := some 45) rfl rfl (by kernel_rfl) (by decide) (fun K hK => ?_)
 refine goes_ Try.func16 (by kernel_rfl) rfl #[.slice A0 pb.length c0] (by rfl) rfl rfl (by simp only [List.map_toArray, List.map_cons, List.map_nil]; rfl) ?_
 with_reducible refine (drayageref20_Sum.calls (pb.length + 1) A0 c0 pb s1 _ (Kd.C_below HCb.out HB4.out) hc0.out hrs.out).mono ?_
 rintro e w10 ⟨rfl, hd⟩
 refine ⟨_, rfl, ?_⟩
 have hbx := hd.below
 have HB5 := Aside0.mk (below_then HB4.out HB4.out.size hbx)
 refine hK.out _ _ ⟨(pw_cell_below hbx hHeld.1), (pw_cell_below hbx hHeld.2.1), (pw_cell_below hbx hHeld.2.2.1), (pw_cell_below hbx hHeld.2.2.2.1), (pw_cell_below hbx hHeld.2.2.2.2)⟩ (fun hHeld => ?_)
 clear hK K
 refine norm_ (a' := ?_) ?_ ?_
 rotate_left
 ·show Act.put _ (some 45) _ = _
  simp only [Act.put, List.setIfInBounds_toArray, List.set_cons_zero, List.set_cons_succ, i64_w, i32_w]
  rfl
 refine pureS_ (i := 20) (N := some 46) (v := ?_) (a' := ?_) rfl rfl (by kernel_rfl) (fun _ _ _ h => h) (Or.inl ⟨by rfl, ?_⟩) ?_ ?_
 rotate_left; (· intro w'; go_simp; with_reducible rfl); rotate_left; (· simp only [Act.put, List.setIfInBounds_toArray, List.set_cons_zero, List.set_cons_succ, i64_w, i32_w]; rfl)
 refine pureS_ (i := 21) (N := some 47) (v := ?_) (a' := ?_) rfl rfl (by kernel_rfl) (fun _ _ _ h => h) (Or.inl ⟨by rfl, ?_⟩) ?_ ?_
 rotate_left; (· intro w'; go_simp; with_reducible rfl); rotate_left; (· simp only [Act.put, List.setIfInBounds_toArray, List.set_cons_zero, List.set_cons_succ, i64_w, i32_w]; rfl)
 refine pureS_ (i := 22) (N := some 48) (v := ?_) (a' := ?_) rfl rfl (by kernel_rfl) (fun _ _ _ h => h) (Or.inl ⟨by rfl, ?_⟩) ?_ ?_
 rotate_left; (· intro w'; go_simp; with_reducible rfl); rotate_left; (· simp only [Act.put, List.setIfInBounds_toArray, List.set_cons_zero, List.set_cons_succ, i64_w, i32_w]; rfl)
 refine oneS_ (i := 23) (N := some 49) rfl rfl (by kernel_rfl) (by decide) (fun K hK => ?_)
 refine goes_ Try.func17 (by kernel_rfl) rfl #[] (by rfl) rfl rfl (by simp only [List.map_toArray, List.map_nil]) ?_
 with_reducible refine (drayagelaw20_works.calls true _ works_f).mono ?_
 rintro e w11 ⟨rfl, hb⟩
 refine ⟨_, rfl, ?_⟩
 have hbx := hb
 have HB6 := Aside0.mk (below_then HB5.out HB5.out.size hbx)
 refine hK.out _ _ ⟨(pw_cell_below hbx hHeld.1), (pw_cell_below hbx hHeld.2.1), (pw_cell_below hbx hHeld.2.2.1), (pw_cell_below hbx hHeld.2.2.2.1), (pw_cell_below hbx hHeld.2.2.2.2)⟩ (fun hHeld => ?_)
 clear hK K
 refine norm_ (a' := ?_) ?_ ?_
 rotate_left
 ·show Act.put _ (some 49) _ = _
  simp only [Act.put, List.setIfInBounds_toArray, List.set_cons_zero, List.set_cons_succ, i64_w, i32_w]
  rfl
 refine pureS_ (i := 24) (N := some 50) (v := ?_) (a' := ?_) rfl rfl (by kernel_rfl) (fun _ _ _ h => h) (Or.inl ⟨by rfl, ?_⟩) ?_ ?_
 rotate_left; (· intro w'; go_simp; with_reducible rfl); rotate_left; (· simp only [Act.put, List.setIfInBounds_toArray, List.set_cons_zero, List.set_cons_succ, i64_w, i32_w]; rfl)
 refine pureS_ (i := 25) (N := some 4) (v := ?_) (a' := ?_) rfl rfl (by kernel_rfl) (fun _ _ _ h => h) (Or.inl ⟨by rfl, ?_⟩) ?_ ?_
 rotate_left; (· intro w'; go_simp; with_reducible rfl); rotate_left; (· simp only [Act.put, List.setIfInBounds_toArray, List.set_cons_zero, List.set_cons_succ, i64_w, i32_w]; rfl)
 refine done_ (by kernel_rfl) ?_
 go_wp2_with fail
 go_ret
 exact ⟨rfl, below_then hB4.out hB4.out.size HB6.out⟩
end Go.Proofs.Ytagkgddkpnbfoaa.P
