import Derived.Test.YtagkgddkpnbfoaaHparse
namespace Go.Proofs.Ytagkgddkpnbfoaa.P
set_option linter.unusedVariables false
set_option linter.unusedSimpArgs false
open Go.RowKit Go.Proofs.YtagkgddkpnbfoaaW.PrintWords Go.Proofs.YtagkgddkpnbfoaaW.PrintLast Go.Proofs.YtagkgddkpnbfoaaW.PrintMore
set_option maxRecDepth 100000 in
set_option maxHeartbeats 3200000 in
theorem parse_short (A : Option Addr) (c : Nat) (b : List Int) (w : World) (hr : Kd.C (Kd.int .u8) w A b.length b) (hc : b.length ≤ c) (hb : ∀ x ∈ b, isByte x) (h2 : 2 ≤ b.length) (hm : b.length ≤ 140737488355328) (hk : gB b 0 = 1) (hs : b.length < recNp b + 3) :
  Calls Try.prog 45 #[.slice A b.length c] w (ParseOut w b) := by
 obtain ⟨ad, rfl, HB⟩ := Byts.of hr (by omega)
 have hq1 := gB_byte hb 1
 have x0 : w.cell? ad = some (.int .u8 1) := by rw [← hk]; exact HB.zero (by omega)
 have hbk := World.block_lt_of_cell? w _ x0
 have x1 := HB.at_ 0 (by omega)
 simp only [Nat.reduceAdd] at x1
 have hI : recIs b = false := recIs_len (by unfold recJ; rw [if_pos hk]; omega)
 have hl0 : (0 : Int) < b.length := by omega
 have hl1 : (1 : Int) ≤ b.length := by omega
 have hl2 : ¬ (((b.length - 1 : Nat) : Int) < 1) := by omega
 have hl2b : decide (b.length - 1 < 1) = false := decide_eq_false (by omega)
 have hw1 : IntKind.i64.wrap (gB b 1) = gB b 1 := IntWalk.i64_in _ (by unfold isByte at hq1; omega)
 have hw2 : IntKind.i64.wrap (gB b 1 + 2) = gB b 1 + 2 := IntWalk.i64_in _ (by unfold isByte at hq1; omega)
 have hl3 : ((b.length - 1 : Nat) : Int) < gB b 1 + 2 := by unfold recNp at hs; unfold isByte at hq1; omega
 clear hr hb HB
 go_enter Try.func45, Try.ntmps45
 go_wp2_with fail
 refine bodyPost_ret (v := .tuple #[.agg #[.int .i64 1, .int .i64 0, .int .i64 0, .slice none 0 0, .slice none 0 0], .bool false]) ?_ rfl ?_
 ·simp [results, Try.results45, go_sem]
 ·exact ⟨1, 0, 0, .slice none 0 0, .slice none 0 0, (by rw [hI]), (fun h => (by rw [hI] at h; cases h)), below_alloc (below_alloc (Below.refl _ _) _) _, ⟨_, _, _, rfl⟩, ⟨_, _, _, rfl⟩⟩
set_option maxRecDepth 100000 in
set_option maxHeartbeats 3200000 in
theorem parse_plan (A : Option Addr) (c : Nat) (b : List Int) (w : World) (hr : Kd.C (Kd.int .u8) w A b.length b) (hc : b.length ≤ c) (hb : ∀ x ∈ b, isByte x) (hm : b.length ≤ 140737488355328) (hk : gB b 0 = 1) (hs : recNp b + 3 ≤ b.length) :
  Calls Try.prog 45 #[.slice A b.length c] w (ParseOut w b) := by
 obtain ⟨ad, rfl, HB⟩ := Byts.of hr (by omega)
 have hq1 := gB_byte hb 1
 have x0 : w.cell? ad = some (.int .u8 1) := by rw [← hk]; exact HB.zero (by omega)
 have hbk := World.block_lt_of_cell? w _ x0
 have x1 := HB.at_ 0 (by omega)
 simp only [Nat.reduceAdd] at x1
 have hNp : gB b 1 = (recNp b : Int) := by unfold recNp; unfold isByte at hq1; omega
 have hNpl : recNp b ≤ 255 := by unfold recNp; unfold isByte at hq1; omega
 rw [hNp] at x1
 have hl0 : (0 : Int) < b.length := by omega
 have hl1 : (1 : Int) ≤ b.length := by omega
 have hl2 : ¬ (((b.length - 1 : Nat) : Int) < 1) := by omega
 have hl2b : decide (b.length - 1 < 1) = false := decide_eq_false (by omega)
 have hw1 : IntKind.i64.wrap (recNp b : Int) = (recNp b : Int) := IntWalk.i64_in _ (by omega)
 have hw2 : IntKind.i64.wrap ((recNp b : Int) + 2) = (recNp b : Int) + 2 := IntWalk.i64_in _ (by omega)
 have hl3 : ¬ (((b.length - 1 : Nat) : Int) < (recNp b : Int) + 2) := by omega
 have hl3b : decide (((b.length - 1 : Nat) : Int) < (recNp b : Int) + 2) = false := decide_eq_false hl3
 have HS0 := Aside0.mk (ParSt.start w #[.int .i64 1, .int .i64 0, .int .i64 0, .slice none 0 0, .slice none 0 0])
 have HX := Aside0.mk hb
 replace HB := Aside0.mk HB
 replace hNp := Aside0.mk hNp
 clear hr hb hq1
 have hne : ad.block ≠ w.heap.size + 1 := by omega
 have hkp : ∀ (W : World) (i j : Nat) (v : Value), (W.setCell ⟨w.heap.size + 1, i, none⟩ v).cell? ⟨ad.block, j, none⟩ = W.cell? ⟨ad.block, j, none⟩ := fun W i j v => (Only.set W _ i v).cell hne
 go_enter Try.func45, Try.ntmps45
 go_wp2_with fail
 generalize ((w.alloc (.cells #[.int .i64 0, .int .i64 0, .int .i64 0, .slice none 0 0, .slice none 0 0] 25)).alloc (.cells #[.int .i64 1, .int .i64 0, .int .i64 0, .slice none 0 0, .slice none 0 0] 25)) = W0 at *
 have hlast : Aside0 (recNp b + 3 ≤ b.length) := ⟨hs⟩
 go_loopw [6] (fun i W => ∃ (n : Nat) (vP : Value), n ≤ recNp b ∧ i = .int .i64 n ∧ Aside0 (ParSt w W #[.int .i64 1, .int .i64 0, .int .i64 0, vP, .slice none 0 0]) ∧
    Aside0 (Kd.R (Kd.int .i64) 3 W w.heap.size (fun k => w.heap.size + 1 < k) vP (recPlN b n))) (fun i _ => recNp b - (intOf i).toNat)
 case atStart => exact ⟨0, .slice none 0 0, Nat.zero_le _, rfl, HS0, ⟨Kd.R_nil _ _ _ _ _⟩⟩
 case round =>
  obtain ⟨n, vP, hn, rfl, HS4, HP⟩ := hrel
  clear HS0
  by_cases hlt : n < recNp b
  ·go_wp2_with fail
   have hP3 : wr.cell? ⟨w.heap.size + 1, 3, none⟩ = some vP := HS4.out.cell 3
   have hq := gB_byte HX.out (2 + n)
   have e2w : w.cell? ⟨ad.block, ad.off + 1 + (1 + n), none⟩ = some (.int .u8 (gB b (2 + n))) := by
    rw [show ad.off + 1 + (1 + n) = ad.off + (n + 1 + 1) by omega, show 2 + n = n + 1 + 1 by omega]
    exact HB.out.at_ (n + 1) (by omega)
   have e2 := (HS4.out.bl.cell (p := ⟨ad.block, ad.off + 1 + (1 + n), none⟩) hbk).trans e2w
   have hw5 : IntKind.i64.wrap (1 + (n : Int)) = ((1 + n : Nat) : Int) := (IntWalk.i64_in _ (by omega)).trans (by omega)
   have hb5 : (0 : Int) ≤ 1 + (n : Int) ∧ 1 + (n : Int) < ((b.length - 1 : Nat) : Int) := by omega
   have ht5 : (1 + (n : Int)).toNat = 1 + n := by omega
   have hb6 := hb5.1
   have hb7 := hb5.2
   have hw6 : IntKind.i64.wrap (gB b (2 + n)) = gB b (2 + n) := IntWalk.i64_in _ (by unfold isByte at hq; omega)
   have hw7 : IntKind.i64.wrap (gB b (2 + n) - 1) = gB b (2 + n) - 1 := IntWalk.i64_in _ (by unfold isByte at hq; omega)
   have hpn : recPlN b (n + 1) = recPlN b n ++ [gB b (2 + n) - 1] := by simp [recPlN, List.range_succ]
   replace hpn := Aside0.mk hpn
   replace HS4 := Aside0.mk (HS4.out.below (below_drew (Below.refl wr.heap.size wr)))
   replace HP := Aside0.mk (Kd.R_drew HP.out)
   refine start_ (n := 13) (S := fun w' => w'.cell? ⟨w.heap.size + 1, 3, none⟩ = some vP ∧ w'.cell? ⟨ad.block, ad.off + 1 + (1 + n), none⟩ = some (.int .u8 (gB b (2 + n)))) (ds := [10, 12]) #[false, false, false, false, false, false, false, false, false, false, false, false, false] (by kernel_rfl) rfl rfl ⟨hP3, e2⟩ (fun hHeld => ?_)
   refine pureS_ (i := 0) (N := some 71) (v := ?_) (a' := ?_) rfl rfl (by kernel_rfl) (fun _ _ _ h => h) (Or.inl ⟨by rfl, ?_⟩) ?_ ?_
   rotate_left; (· intro w'; go_simp; with_reducible rfl); rotate_left; (· simp only [Act.put, List.setIfInBounds_toArray, List.set_cons_zero, List.set_cons_succ, i64_w, i32_w]; rfl)
   refine pureS_ (i := 2) (N := some 73) (v := ?_) (a' := ?_) rfl rfl (by kernel_rfl) (fun _ _ _ h => h) (Or.inl ⟨by rfl, ?_⟩) ?_ ?_
   rotate_left; (· intro w'; go_simp; with_reducible rfl); rotate_left; (· simp only [Act.put, List.setIfInBounds_toArray, List.set_cons_zero, List.set_cons_succ, i64_w, i32_w]; rfl)
   refine pureS_ (i := 3) (N := some 74) (v := ?_) (a' := ?_) rfl rfl (by kernel_rfl) (fun _ _ _ h => h) (Or.inl ⟨by rfl, ?_⟩) ?_ ?_
   rotate_left; (· intro w'; go_simp; with_reducible rfl); rotate_left; (· simp only [Act.put, List.setIfInBounds_toArray, List.set_cons_zero, List.set_cons_succ, i64_w, i32_w]; rfl)
   refine pureS_ (i := 4) (N := some 75) (v := ?_) (a' := ?_) rfl rfl (by kernel_rfl) (fun _ _ _ h => h) (Or.inl ⟨by rfl, ?_⟩) ?_ ?_
   rotate_left; (· intro w'; go_simp; with_reducible rfl); rotate_left; (· simp only [Act.put, List.setIfInBounds_toArray, List.set_cons_zero, List.set_cons_succ, i64_w, i32_w]; rfl)
   refine pureS_ (i := 5) (N := some 76) (v := ?_) (a' := ?_) rfl rfl (by kernel_rfl) (fun _ _ _ h => h) (Or.inl ⟨by rfl, ?_⟩) ?_ ?_
   rotate_left; (· intro w'; go_simp; with_reducible rfl); rotate_left; (· simp only [Act.put, List.setIfInBounds_toArray, List.set_cons_zero, List.set_cons_succ, i64_w, i32_w]; rfl)
   refine takeS_ (i := 1) (N := some 72) (v := ?_) (a' := ?_) rfl rfl (by kernel_rfl) (fun _ _ _ h => h) (Or.inl ⟨by rfl, ?_⟩) hHeld ?_ ?_
   rotate_left; (· rintro w' ⟨s0, s1⟩; go_simp; with_reducible rfl); rotate_left; (· simp only [Act.put, List.setIfInBounds_toArray, List.set_cons_zero, List.set_cons_succ, i64_w, i32_w]; rfl)
   refine takeS_ (i := 6) (N := some 77) (v := ?_) (a' := ?_) rfl rfl (by kernel_rfl) (fun _ _ _ h => h) (Or.inl ⟨by rfl, ?_⟩) hHeld ?_ ?_
   rotate_left; (· rintro w' ⟨s0, s1⟩; go_simp; with_reducible rfl); rotate_left; (· simp only [Act.put, List.setIfInBounds_toArray, List.set_cons_zero, List.set_cons_succ, i64_w, i32_w]; rfl)
   refine pureS_ (i := 7) (N := some 78) (v := ?_) (a' := ?_) rfl rfl (by kernel_rfl) (fun _ _ _ h => h) (Or.inl ⟨by rfl, ?_⟩) ?_ ?_
   rotate_left; (· intro w'; go_simp; with_reducible rfl); rotate_left; (· simp only [Act.put, List.setIfInBounds_toArray, List.set_cons_zero, List.set_cons_succ, i64_w, i32_w]; rfl)
   refine pureS_ (i := 8) (N := some 79) (v := ?_) (a' := ?_) rfl rfl (by kernel_rfl) (fun _ _ _ h => h) (Or.inl ⟨by rfl, ?_⟩) ?_ ?_
   rotate_left; (· intro w'; go_simp; with_reducible rfl); rotate_left; (· simp only [Act.put, List.setIfInBounds_toArray, List.set_cons_zero, List.set_cons_succ, i64_w, i32_w]; rfl)
   refine oneS_ (i := 9) (N := some 80) rfl rfl (by kernel_rfl) (by decide) (fun K hK => ?_)
   refine value_ (w1 := ?_) (v := ?_) (by rfl) rfl ?_ ?_
   rotate_left 2
   ·go_simp
    constructor
    ·rfl
    ·rfl
   refine hK.out _ _ ⟨((World.cell?_alloc_some _ _ _ (by first | (rw [hHeld.1]; rfl) | (rw [hP3]; rfl))).trans hHeld.1), ((World.cell?_alloc_some _ _ _ (by first | (rw [hHeld.2]; rfl) | (rw [e2]; rfl))).trans hHeld.2)⟩ (fun hHeld => ?_)
   clear hK K
   refine norm_ (a' := ?_) ?_ ?_
   rotate_left
   ·show Act.put _ (some 80) _ = _
    simp only [Act.put, List.setIfInBounds_toArray, List.set_cons_zero, List.set_cons_succ, i64_w, i32_w]
    rfl
   refine lastS_ (i := 10) (N := some 81) rfl rfl (by kernel_rfl) (by decide) (fun K hK => ?_)
   clear hHeld
   have HSa := Aside0.mk HS4.out
   refine Kd.R_append_step (Kd.int .i64) (w0 := w) (W := wr.drew) w.heap.size (by rfl) (.tmp 72) (.tmp 80) 22 3 (.int .i64 0) 8 (by rfl) Try.underlying22 info3x rfl (by decide) (by decide) vP (recPlN b n) (gB b (2 + n) - 1) [.int .i64 (gB b (2 + n) - 1)] (fun k_ => w.heap.size + 1 < k_) (fun _ => False) rfl rfl ?_ (fun _ h => h.elim) ?_ ?_ ?_ ?_ ?_ ?_
   ·exact rfl
   ·intro k_ hk_; have hl_ := blk_lt HSa.out.bx; omega
   ·exact HP.out
   ·exact HSa.out.bl
   ·exact HSa.out.bl.size
   ·simp [recPlN, recStN]; omega
   intro v1 w1 HV1 hb1 hg1 hat1
   have HS7 := Aside0.mk (HSa.out.grown hg1 (fun k hk => HP.out.1 k hk))
   have c3 : w1.cell? ⟨w.heap.size + 1, 3, none⟩ = some vP := HS7.out.cell 3
   have f3 := HS7.out.frozen 3
   obtain ⟨A1_, c1_, rfl⟩ := Kd.R_slice HV1
   simp only [List.length_append, List.length_singleton] at HV1
   replace HV1 := Aside0.mk HV1
   clear hb1 hg1 hat1
   refine hK.out _ _ ?_
   clear hK K
   refine norm_ (a' := ?_) ?_ ?_
   rotate_left
   ·show Act.put _ (some 81) _ = _
    simp only [Act.put, List.setIfInBounds_toArray, List.set_cons_zero, List.set_cons_succ, i64_w, i32_w]
    rfl
   refine pureS_ (i := 11) (N := some 82) (v := ?_) (a' := ?_) rfl rfl (by kernel_rfl) (fun _ _ _ h => h) (Or.inl ⟨by rfl, ?_⟩) ?_ ?_
   rotate_left; (· intro w'; go_simp; with_reducible rfl); rotate_left; (· simp only [Act.put, List.setIfInBounds_toArray, List.set_cons_zero, List.set_cons_succ, i64_w, i32_w]; rfl)
   refine lastS_ (i := 12) (N := none) rfl rfl (by kernel_rfl) (by decide) (fun K hK => ?_)
   refine skip_ (w1 := ?_) (by rfl) rfl ?_ ?_
   rotate_left
   ·go_simp
    rfl
   refine hK.out _ _ ?_
   clear hK K
   refine done_ (by kernel_rfl) ?_
   go_wp2_with fail
   go_roundw
   case rel => exact ⟨n + 1, _, by omega, by go_num, ⟨by simpa using HS7.out.set 3 _⟩, ⟨by rw [hpn.out]; have hlen : (recPlN b n).length + 1 = (recPlN b n ++ [gB b (2 + n) - 1]).length := (by simp); exact Kd.R_far (p := ⟨w.heap.size + 1, 3, none⟩) HV1.out (fun k hk => by show k ≠ w.heap.size + 1; omega) _⟩⟩
   case measure => simp [intOf]; omega
  ·have hn' : n = recNp b := by omega
   subst hn'
   clear hlt hn
   have hq := gB_byte HX.out (2 + recNp b)
   have hNs : gB b (2 + recNp b) = (recNs b : Int) := by unfold recNs; unfold isByte at hq; omega
   have hNsl : recNs b ≤ 255 := by unfold recNs; unfold isByte at hq; omega
   have e2w : w.cell? ⟨ad.block, ad.off + 1 + (1 + recNp b), none⟩ = some (.int .u8 (recNs b : Int)) := by
    rw [show ad.off + 1 + (1 + recNp b) = ad.off + (recNp b + 1 + 1) by omega, ← hNs, show 2 + recNp b = recNp b + 1 + 1 by omega]
    exact HB.out.at_ (recNp b + 1) (by omega)
   have e2 := (HS4.out.bl.cell (p := ⟨ad.block, ad.off + 1 + (1 + recNp b), none⟩) hbk).trans e2w
   have hw5 : IntKind.i64.wrap (1 + (recNp b : Int)) = 1 + (recNp b : Int) := IntWalk.i64_in _ (by omega)
   have ht5 : (1 + (recNp b : Int)).toNat = 1 + recNp b := by omega
   have hb5 : (0 : Int) ≤ 1 + (recNp b : Int) ∧ 1 + (recNp b : Int) ≤ ((b.length - 1 : Nat) : Int) := by omega
   have hb6 := hb5.1
   have hb7 := hb5.2
   have hw6 : IntKind.i64.wrap (recNs b : Int) = (recNs b : Int) := IntWalk.i64_in _ (by omega)
   have hw7 : IntKind.i64.wrap (3 * (recNs b : Int)) = 3 * (recNs b : Int) := IntWalk.i64_in _ (by omega)
   have hw8 : IntKind.i64.wrap (1 + 3 * (recNs b : Int)) = 1 + 3 * (recNs b : Int) := IntWalk.i64_in _ (by omega)
   have hl5 : (0 : Int) < ((b.length - 1 - (1 + recNp b) : Nat) : Int) := by omega
   by_cases hL : b.length = 3 + recNp b + 3 * recNs b
   ·have hL2 : (((b.length - 1 - (1 + recNp b) : Nat) : Int) != 1 + 3 * (recNs b : Int)) = false := by rw [bne_eq_false_iff_eq]; omega
    obtain ⟨L2, hLL⟩ : ∃ L2, b.length - 1 - (1 + recNp b) = L2 := ⟨_, rfl⟩
    have hL3 : L2 = 1 + 3 * recNs b := by omega
    rw [hLL] at hL2 hl5
    replace hL := Aside0.mk hL
    replace hL3 := Aside0.mk hL3
    go_wp2_with fail
    go_loopw [7] (fun iv W => ∃ (n i : Nat) (vS : Value), Aside0 (n ≤ recNs b ∧ i = 1 + 3 * n) ∧ iv = .int .i64 (i : Int) ∧ Aside0 (ParSt w W #[.int .i64 1, .int .i64 0, .int .i64 0, vP, vS]) ∧
      Aside0 (Kd.R (Kd.int .i64) 3 W w.heap.size (fun k => w.heap.size + 1 < k) vP (recPlN b (recNp b))) ∧
      Aside0 (Kd.R k49 49 W w.heap.size (fun k => w.heap.size + 1 < k) vS (recStN b n))) (fun iv _ => L2 - (intOf iv).toNat)
    case atStart => exact ⟨0, 1, .slice none 0 0, ⟨Nat.zero_le _, rfl⟩, rfl, HS4, HP, ⟨Kd.R_nil _ _ _ _ _⟩⟩
    case round =>
     obtain ⟨n, i, vS, hn, rfl, HS6, HP6, HT6⟩ := hrel
     clear HS4 HP
     by_cases hlt : i < L2
     ·have hnl : n ≤ 255 := by have := hn.out; omega
      have hd : (i : Int) + 2 < (L2 : Int) := by have := hn.out; have := hL3.out; omega
      have hlt2 : (i : Int) < (L2 : Int) := by omega
      have hlt3 : (i : Int) + 1 < (L2 : Int) := by omega
      have hP4 : wr.cell? ⟨w.heap.size + 1, 4, none⟩ = some vS := HS6.out.cell 4
      have hq3 := gB_byte HX.out (3 + recNp b + 3 * n)
      have hq4 := gB_byte HX.out (3 + recNp b + 3 * n + 1)
      have hq5 := gB_byte HX.out (3 + recNp b + 3 * n + 2)
      have v3w : w.cell? ⟨ad.block, ad.off + 1 + (1 + recNp b) + i, none⟩ = some (.int .u8 (gB b (3 + recNp b + 3 * n))) := by
       have := HB.out.at_ (2 + recNp b + 3 * n) (by have := hn.out; have := hL3.out; omega)
       rw [show ad.off + 1 + (1 + recNp b) + i = ad.off + (2 + recNp b + 3 * n + 1) by have := hn.out; omega, show 3 + recNp b + 3 * n = 2 + recNp b + 3 * n + 1 by omega]
       exact this
      have v4w : w.cell? ⟨ad.block, ad.off + 1 + (1 + recNp b) + (i + 1), none⟩ = some (.int .u8 (gB b (3 + recNp b + 3 * n + 1))) := by
       have := HB.out.at_ (3 + recNp b + 3 * n) (by have := hn.out; have := hL3.out; omega)
       rw [show ad.off + 1 + (1 + recNp b) + (i + 1) = ad.off + (3 + recNp b + 3 * n + 1) by have := hn.out; omega]
       exact this
      have v5w : w.cell? ⟨ad.block, ad.off + 1 + (1 + recNp b) + (i + 2), none⟩ = some (.int .u8 (gB b (3 + recNp b + 3 * n + 2))) := by
       have := HB.out.at_ (3 + recNp b + 3 * n + 1) (by have := hn.out; have := hL3.out; omega)
       rw [show ad.off + 1 + (1 + recNp b) + (i + 2) = ad.off + (3 + recNp b + 3 * n + 1 + 1) by have := hn.out; omega]
       exact this
      have v3 := (HS6.out.bl.cell (p := ⟨ad.block, ad.off + 1 + (1 + recNp b) + i, none⟩) hbk).trans v3w
      have v4 := (HS6.out.bl.cell (p := ⟨ad.block, ad.off + 1 + (1 + recNp b) + (i + 1), none⟩) hbk).trans v4w
      have v5 := (HS6.out.bl.cell (p := ⟨ad.block, ad.off + 1 + (1 + recNp b) + (i + 2), none⟩) hbk).trans v5w
      have o3 : IntKind.i64.wrap (gB b (3 + recNp b + 3 * n)) = gB b (3 + recNp b + 3 * n) := IntWalk.i64_in _ (by unfold isByte at hq3; omega)
      have o4 : IntKind.i64.wrap (gB b (3 + recNp b + 3 * n + 1)) = gB b (3 + recNp b + 3 * n + 1) := IntWalk.i64_in _ (by unfold isByte at hq4; omega)
      have o5 : IntKind.i64.wrap (gB b (3 + recNp b + 3 * n + 2)) = gB b (3 + recNp b + 3 * n + 2) := IntWalk.i64_in _ (by unfold isByte at hq5; omega)
      have i0 : (0 : Int) ≤ (i : Int) ∧ (i : Int) < (L2 : Int) := by omega
      have i1 : (0 : Int) ≤ (i : Int) + 1 ∧ (i : Int) + 1 < (L2 : Int) := by omega
      have i2 : (0 : Int) ≤ (i : Int) + 2 ∧ (i : Int) + 2 < (L2 : Int) := by omega
      have j1 := i1.1
      have j2 := i2.1
      have p1 : IntKind.i64.wrap ((i : Int) + 1) = (i : Int) + 1 := IntWalk.i64_in _ (by have := hL3.out; omega)
      have p2 : IntKind.i64.wrap ((i : Int) + 2) = (i : Int) + 2 := IntWalk.i64_in _ (by have := hL3.out; omega)
      have p3 : IntKind.i64.wrap ((i : Int) + 3) = (i : Int) + 3 := IntWalk.i64_in _ (by have := hL3.out; omega)
      have t1 : ((i : Int) + 1).toNat = i + 1 := by omega
      have t2 : ((i : Int) + 2).toNat = i + 2 := by omega
      have hTn : Aside0 (recStN b (n + 1) = recStN b n ++ [⟨gB b (3 + recNp b + 3 * n), gB b (3 + recNp b + 3 * n + 1), gB b (3 + recNp b + 3 * n + 2)⟩]) := ⟨by simp [recStN, List.range_succ]⟩
      replace HS6 := Aside0.mk (HS6.out.below (below_drew (Below.refl wr.heap.size wr)))
      replace HP6 := Aside0.mk (Kd.R_drew HP6.out)
      replace HT6 := Aside0.mk (Kd.R_drew HT6.out)
      go_wp2_with fail
      refine start_ (n := 24) (S := fun w' => w'.cell? ⟨w.heap.size + 1, 4, none⟩ = some vS ∧ w'.cell? ⟨ad.block, ad.off + 1 + (1 + recNp b) + i, none⟩ = some (.int .u8 (gB b (3 + recNp b + 3 * n))) ∧ w'.cell? ⟨ad.block, ad.off + 1 + (1 + recNp b) + (i + 1), none⟩ = some (.int .u8 (gB b (3 + recNp b + 3 * n + 1))) ∧ w'.cell? ⟨ad.block, ad.off + 1 + (1 + recNp b) + (i + 2), none⟩ = some (.int .u8 (gB b (3 + recNp b + 3 * n + 2)))) (ds := [21, 23]) #[false, false, false, false, false, false, false, false, false, false, false, false, false, false, false, false, false, false, false, false, false, false, false, false] (by kernel_rfl) rfl rfl ⟨hP4, v3, v4, v5⟩ (fun hHeld => ?_)
      refine pureS_ (i := 0) (N := some 103) (v := ?_) (a' := ?_) rfl rfl (by kernel_rfl) (fun _ _ _ h => h) (Or.inl ⟨by rfl, ?_⟩) ?_ ?_
      rotate_left; (· intro w'; go_simp; with_reducible rfl); rotate_left; (· simp only [Act.put, List.setIfInBounds_toArray, List.set_cons_zero, List.set_cons_succ, i64_w, i32_w]; rfl)
      refine pureS_ (i := 2) (N := some 105) (v := ?_) (a' := ?_) rfl rfl (by kernel_rfl) (fun _ _ _ h => h) (Or.inl ⟨by rfl, ?_⟩) ?_ ?_
      rotate_left; (· intro w'; go_simp; with_reducible rfl); rotate_left; (· simp only [Act.put, List.setIfInBounds_toArray, List.set_cons_zero, List.set_cons_succ, i64_w, i32_w]; rfl)
      refine pureS_ (i := 3) (N := some 106) (v := ?_) (a' := ?_) rfl rfl (by kernel_rfl) (fun _ _ _ h => h) (Or.inl ⟨by rfl, ?_⟩) ?_ ?_
      rotate_left; (· intro w'; go_simp; with_reducible rfl); rotate_left; (· simp only [Act.put, List.setIfInBounds_toArray, List.set_cons_zero, List.set_cons_succ, i64_w, i32_w]; rfl)
      refine pureS_ (i := 4) (N := some 107) (v := ?_) (a' := ?_) rfl rfl (by kernel_rfl) (fun _ _ _ h => h) (Or.inl ⟨by rfl, ?_⟩) ?_ ?_
      rotate_left; (· intro w'; go_simp; with_reducible rfl); rotate_left; (· simp only [Act.put, List.setIfInBounds_toArray, List.set_cons_zero, List.set_cons_succ, i64_w, i32_w]; rfl)
      refine pureS_ (i := 7) (N := some 110) (v := ?_) (a' := ?_) rfl rfl (by kernel_rfl) (fun _ _ _ h => h) (Or.inl ⟨by rfl, ?_⟩) ?_ ?_
      rotate_left; (· intro w'; go_simp; with_reducible rfl); rotate_left; (· simp only [Act.put, List.setIfInBounds_toArray, List.set_cons_zero, List.set_cons_succ, i64_w, i32_w]; rfl)
      refine pureS_ (i := 8) (N := some 111) (v := ?_) (a' := ?_) rfl rfl (by kernel_rfl) (fun _ _ _ h => h) (Or.inl ⟨by rfl, ?_⟩) ?_ ?_
      rotate_left; (· intro w'; go_simp; with_reducible rfl); rotate_left; (· simp only [Act.put, List.setIfInBounds_toArray, List.set_cons_zero, List.set_cons_succ, i64_w, i32_w]; rfl)
      refine pureS_ (i := 9) (N := some 112) (v := ?_) (a' := ?_) rfl rfl (by kernel_rfl) (fun _ _ _ h => h) (Or.inl ⟨by rfl, ?_⟩) ?_ ?_
      rotate_left; (· intro w'; go_simp; with_reducible rfl); rotate_left; (· simp only [Act.put, List.setIfInBounds_toArray, List.set_cons_zero, List.set_cons_succ, i64_w, i32_w]; rfl)
      refine pureS_ (i := 10) (N := some 113) (v := ?_) (a' := ?_) rfl rfl (by kernel_rfl) (fun _ _ _ h => h) (Or.inl ⟨by rfl, ?_⟩) ?_ ?_
      rotate_left; (· intro w'; go_simp; with_reducible rfl); rotate_left; (· simp only [Act.put, List.setIfInBounds_toArray, List.set_cons_zero, List.set_cons_succ, i64_w, i32_w]; rfl)
      refine pureS_ (i := 13) (N := some 116) (v := ?_) (a' := ?_) rfl rfl (by kernel_rfl) (fun _ _ _ h => h) (Or.inl ⟨by rfl, ?_⟩) ?_ ?_
      rotate_left; (· intro w'; go_simp; with_reducible rfl); rotate_left; (· simp only [Act.put, List.setIfInBounds_toArray, List.set_cons_zero, List.set_cons_succ, i64_w, i32_w]; rfl)
      refine pureS_ (i := 14) (N := some 117) (v := ?_) (a' := ?_) rfl rfl (by kernel_rfl) (fun _ _ _ h => h) (Or.inl ⟨by rfl, ?_⟩) ?_ ?_
      rotate_left; (· intro w'; go_simp; with_reducible rfl); rotate_left; (· simp only [Act.put, List.setIfInBounds_toArray, List.set_cons_zero, List.set_cons_succ, i64_w, i32_w]; rfl)
      refine pureS_ (i := 15) (N := some 118) (v := ?_) (a' := ?_) rfl rfl (by kernel_rfl) (fun _ _ _ h => h) (Or.inl ⟨by rfl, ?_⟩) ?_ ?_
      rotate_left; (· intro w'; go_simp; with_reducible rfl); rotate_left; (· simp only [Act.put, List.setIfInBounds_toArray, List.set_cons_zero, List.set_cons_succ, i64_w, i32_w]; rfl)
      refine pureS_ (i := 16) (N := some 119) (v := ?_) (a' := ?_) rfl rfl (by kernel_rfl) (fun _ _ _ h => h) (Or.inl ⟨by rfl, ?_⟩) ?_ ?_
      rotate_left; (· intro w'; go_simp; with_reducible rfl); rotate_left; (· simp only [Act.put, List.setIfInBounds_toArray, List.set_cons_zero, List.set_cons_succ, i64_w, i32_w]; rfl)
      refine takeS_ (i := 1) (N := some 104) (v := ?_) (a' := ?_) rfl rfl (by kernel_rfl) (fun _ _ _ h => h) (Or.inl ⟨by rfl, ?_⟩) hHeld ?_ ?_
      rotate_left; (· rintro w' ⟨s0, s1, s2, s3⟩; go_simp; with_reducible rfl); rotate_left; (· simp only [Act.put, List.setIfInBounds_toArray, List.set_cons_zero, List.set_cons_succ, i64_w, i32_w]; rfl)
      refine takeS_ (i := 5) (N := some 108) (v := ?_) (a' := ?_) rfl rfl (by kernel_rfl) (fun _ _ _ h => h) (Or.inl ⟨by rfl, ?_⟩) hHeld ?_ ?_
      rotate_left; (· rintro w' ⟨s0, s1, s2, s3⟩; go_simp; with_reducible rfl); rotate_left; (· simp only [Act.put, List.setIfInBounds_toArray, List.set_cons_zero, List.set_cons_succ, i64_w, i32_w]; rfl)
      refine pureS_ (i := 6) (N := some 109) (v := ?_) (a' := ?_) rfl rfl (by kernel_rfl) (fun _ _ _ h => h) (Or.inl ⟨by rfl, ?_⟩) ?_ ?_
      rotate_left; (· intro w'; go_simp; with_reducible rfl); rotate_left; (· simp only [Act.put, List.setIfInBounds_toArray, List.set_cons_zero, List.set_cons_succ, i64_w, i32_w]; rfl)
      refine takeS_ (i := 11) (N := some 114) (v := ?_) (a' := ?_) rfl rfl (by kernel_rfl) (fun _ _ _ h => h) (Or.inl ⟨by rfl, ?_⟩) hHeld ?_ ?_
      rotate_left; (· rintro w' ⟨s0, s1, s2, s3⟩; go_simp; with_reducible rfl); rotate_left; (· simp only [Act.put, List.setIfInBounds_toArray, List.set_cons_zero, List.set_cons_succ, i64_w, i32_w]; rfl)
      refine pureS_ (i := 12) (N := some 115) (v := ?_) (a' := ?_) rfl rfl (by kernel_rfl) (fun _ _ _ h => h) (Or.inl ⟨by rfl, ?_⟩) ?_ ?_
      rotate_left; (· intro w'; go_simp; with_reducible rfl); rotate_left; (· simp only [Act.put, List.setIfInBounds_toArray, List.set_cons_zero, List.set_cons_succ, i64_w, i32_w]; rfl)
      refine takeS_ (i := 17) (N := some 120) (v := ?_) (a' := ?_) rfl rfl (by kernel_rfl) (fun _ _ _ h => h) (Or.inl ⟨by rfl, ?_⟩) hHeld ?_ ?_
      rotate_left; (· rintro w' ⟨s0, s1, s2, s3⟩; go_simp; with_reducible rfl); rotate_left; (· simp only [Act.put, List.setIfInBounds_toArray, List.set_cons_zero, List.set_cons_succ, i64_w, i32_w]; rfl)
      refine pureS_ (i := 18) (N := some 121) (v := ?_) (a' := ?_) rfl rfl (by kernel_rfl) (fun _ _ _ h => h) (Or.inl ⟨by rfl, ?_⟩) ?_ ?_
      rotate_left; (· intro w'; go_simp; with_reducible rfl); rotate_left; (· simp only [Act.put, List.setIfInBounds_toArray, List.set_cons_zero, List.set_cons_succ, i64_w, i32_w]; rfl)
      refine pureS_ (i := 19) (N := some 122) (v := ?_) (a' := ?_) rfl rfl (by kernel_rfl) (fun _ _ _ h => h) (Or.inl ⟨by rfl, ?_⟩) ?_ ?_
      rotate_left; (· intro w'; go_simp; with_reducible rfl); rotate_left; (· simp only [Act.put, List.setIfInBounds_toArray, List.set_cons_zero, List.set_cons_succ, i64_w, i32_w]; rfl)
      refine oneS_ (i := 20) (N := some 123) rfl rfl (by kernel_rfl) (by decide) (fun K hK => ?_)
      refine value_ (w1 := ?_) (v := ?_) (by rfl) rfl ?_ ?_
      rotate_left 2
      ·go_simp
       constructor
       ·rfl
       ·rfl
      refine hK.out _ _ ⟨((World.cell?_alloc_some _ _ _ (by first | (rw [hHeld.1]; rfl) | (rw [hP4]; rfl))).trans hHeld.1), ((World.cell?_alloc_some _ _ _ (by first | (rw [hHeld.2.1]; rfl) | (rw [v3]; rfl))).trans hHeld.2.1), ((World.cell?_alloc_some _ _ _ (by first | (rw [hHeld.2.2.1]; rfl) | (rw [v4]; rfl))).trans hHeld.2.2.1), ((World.cell?_alloc_some _ _ _ (by first | (rw [hHeld.2.2.2]; rfl) | (rw [v5]; rfl))).trans hHeld.2.2.2)⟩ (fun hHeld => ?_)
      clear hK K
      refine norm_ (a' := ?_) ?_ ?_
      rotate_left
      ·show Act.put _ (some 123) _ = _
       simp only [Act.put, List.setIfInBounds_toArray, List.set_cons_zero, List.set_cons_succ, i64_w, i32_w]
       rfl
      refine lastS_ (i := 21) (N := some 124) rfl rfl (by kernel_rfl) (by decide) (fun K hK => ?_)
      clear hHeld
      have HSa := Aside0.mk HS6.out
      refine Kd.R_append_step k49 (w0 := w) (W := wr.drew) w.heap.size (by rfl) (.tmp 104) (.tmp 123) 23 49 (.agg #[.int .i64 0, .int .i64 0, .int .i64 0]) 24 (by rfl) Try.underlying23 info49x rfl (by decide) (by decide) vS (recStN b n) ⟨(gB b (3 + recNp b + 3 * n)), (gB b (3 + recNp b + 3 * n + 1)), (gB b (3 + recNp b + 3 * n + 2))⟩ [.int .i64 (gB b (3 + recNp b + 3 * n)), .int .i64 (gB b (3 + recNp b + 3 * n + 1)), .int .i64 (gB b (3 + recNp b + 3 * n + 2))] (fun k_ => w.heap.size + 1 < k_) (fun _ => False) rfl rfl ?_ (fun _ h => h.elim) ?_ ?_ ?_ ?_ ?_ ?_
      ·exact k49_mkM _ _ _ _
      ·intro k_ hk_; have hl_ := blk_lt HSa.out.bx; omega
      ·exact HT6.out
      ·exact HSa.out.bl
      ·exact HSa.out.bl.size
      ·simp [recPlN, recStN]; omega
      intro v1 w1 HV1 hb1 hg1 hat1
      have HS7 := Aside0.mk (HSa.out.grown hg1 (fun k hk => HT6.out.1 k hk))
      have HP7 := Aside0.mk (Kd.R_over' HP6.out (Kd.R_typed HT6.out) (by intro q hq; simp [Kd.int, Kd.scalar] at hq; omega) hg1)
      have c3 : w1.cell? ⟨w.heap.size + 1, 4, none⟩ = some vS := HS7.out.cell 4
      have f3 := HS7.out.frozen 4
      obtain ⟨A1_, c1_, rfl⟩ := Kd.R_slice HV1
      simp only [List.length_append, List.length_singleton] at HV1
      replace HV1 := Aside0.mk HV1
      clear hb1 hg1 hat1
      refine hK.out _ _ ?_
      clear hK K
      refine norm_ (a' := ?_) ?_ ?_
      rotate_left
      ·show Act.put _ (some 124) _ = _
       simp only [Act.put, List.setIfInBounds_toArray, List.set_cons_zero, List.set_cons_succ, i64_w, i32_w]
       rfl
      refine pureS_ (i := 22) (N := some 125) (v := ?_) (a' := ?_) rfl rfl (by kernel_rfl) (fun _ _ _ h => h) (Or.inl ⟨by rfl, ?_⟩) ?_ ?_
      rotate_left; (· intro w'; go_simp; with_reducible rfl); rotate_left; (· simp only [Act.put, List.setIfInBounds_toArray, List.set_cons_zero, List.set_cons_succ, i64_w, i32_w]; rfl)
      refine lastS_ (i := 23) (N := none) rfl rfl (by kernel_rfl) (by decide) (fun K hK => ?_)
      refine skip_ (w1 := ?_) (by rfl) rfl ?_ ?_
      rotate_left
      ·go_simp
       rfl
      refine hK.out _ _ ?_
      clear hK K
      refine done_ (by kernel_rfl) ?_
      go_wp2_with fail
      go_roundw
      case rel => exact ⟨n + 1, i + 3, _, ⟨by have := hn.out; have := hL3.out; omega⟩, by go_num, ⟨by simpa using HS7.out.set 4 _⟩, ⟨Kd.R_far (p := ⟨w.heap.size + 1, 4, none⟩) HP7.out (fun k hk => by show k ≠ w.heap.size + 1; omega) _⟩, ⟨by rw [hTn.out]; exact Kd.R_far (p := ⟨w.heap.size + 1, 4, none⟩) HV1.out (fun k hk => by show k ≠ w.heap.size + 1; omega) _⟩⟩
      case measure => simp [intOf]; omega
     ·have hn' : n = recNs b ∧ i = L2 := by have := hn.out; have := hL3.out; omega
      obtain ⟨rfl, rfl⟩ := hn'
      clear hlt hn
      obtain ⟨A3, c3, rfl, hc3, HC3⟩ := Kd.R_reads HP6.out
      obtain ⟨A4, c4, rfl, hc4, HC4⟩ := Kd.R_reads HT6.out
      replace HC3 := Aside0.mk HC3
      replace HC4 := Aside0.mk HC4
      have z0 : wr.cell? ⟨w.heap.size + 1, 0, none⟩ = some (.int .i64 1) := HS6.out.cell 0
      have z1 : wr.cell? ⟨w.heap.size + 1, 1, none⟩ = some (.int .i64 0) := HS6.out.cell 1
      have z2 : wr.cell? ⟨w.heap.size + 1, 2, none⟩ = some (.int .i64 0) := HS6.out.cell 2
      have z3 : wr.cell? ⟨w.heap.size + 1, 3, none⟩ = some (.slice A3 (recPlN b (recNp b)).length c3) := HS6.out.cell 3
      have z4 : wr.cell? ⟨w.heap.size + 1, 4, none⟩ = some (.slice A4 (recStN b (recNs b)).length c4) := HS6.out.cell 4
      obtain ⟨rr, hrr⟩ : ∃ rr, Aside0 ((if okRec 1 0 0 (recPlN b (recNp b)) (recStN b (recNs b)) = true then (0 : Int) else 2) = rr) := ⟨_, ⟨rfl⟩⟩
      have hz : w.heap.size + 1 < wr.drew.heap.size := blk_lt HS6.out.bx
      have hks : ∀ (W : World) (i j : Nat) (v : Value), (W.setCell ⟨w.heap.size, i, none⟩ v).cell? ⟨w.heap.size + 1, j, none⟩ = W.cell? ⟨w.heap.size + 1, j, none⟩ := fun W i j v => (Only.set W _ i v).cell (by omega)
      have g0 := HS6.out.frozen0 0
      have g1 := HS6.out.frozen0 1
      have g2 := HS6.out.frozen0 2
      have g3 := HS6.out.frozen0 3
      have g4 := HS6.out.frozen0 4
      go_wp2_with fail
      go_region_held3 (fun w' => w'.cell? ⟨w.heap.size + 1, 0, none⟩ = some (.int .i64 1) ∧ w'.cell? ⟨w.heap.size + 1, 1, none⟩ = some (.int .i64 0) ∧ w'.cell? ⟨w.heap.size + 1, 2, none⟩ = some (.int .i64 0) ∧ w'.cell? ⟨w.heap.size + 1, 3, none⟩ = some (.slice A3 (recPlN b (recNp b)).length c3) ∧ w'.cell? ⟨w.heap.size + 1, 4, none⟩ = some (.slice A4 (recStN b (recNs b)).length c4))
       (first | go_keep | (refine ⟨?_, ?_, ?_, ?_, ?_⟩ <;> rw [hb3.cell hz] <;> simp [*]))
       (first | (go_at_call 13; refine (rcheck_calls 1 0 0 A3 c3 (recPlN b (recNp b)) A4 c4 (recStN b (recNs b)) rr _ (Kd.C_drew HC3.out) hc3 (Kd.C_drew HC4.out) hc4 hrr.out).mono ?_; rintro e W3 ⟨rfl, hb3⟩; have HS3 := Aside0.mk ((HS6.out.below (below_drew (Below.refl _ _))).below hb3); have HP3 := Aside0.mk (Kd.R_below (Kd.R_drew HP6.out) hb3); have HT3 := Aside0.mk (Kd.R_below (Kd.R_drew HT6.out) hb3); have g0 := HS3.out.frozen0 0; have g1 := HS3.out.frozen0 1; have g2 := HS3.out.frozen0 2; have g3 := HS3.out.frozen0 3; have g4 := HS3.out.frozen0 4; have k0 := blk_cell HS3.out.b0 0; have k1 := blk_cell HS3.out.b0 1; have k2 := blk_cell HS3.out.b0 2; have k3 := blk_cell HS3.out.b0 3; have k4 := blk_cell HS3.out.b0 4; simp at k0 k1 k2 k3 k4))
      obtain ⟨W9, hW9, hbx, ho, hb9⟩ := ParSt.fin HS3.out
      have K3 := Aside0.mk (Kd.R_mono (Kd.R_step HP3.out (fun k hk _ => ho.block k (by omega))) (fun _ _ => trivial))
      have K4 := Aside0.mk (Kd.R_mono (Kd.R_step HT3.out (fun k hk _ => ho.block k (by omega))) (fun _ _ => trivial))
      have hI : (rr == 0) = recIs b := by
       have e := hrr.out
       have e2 := hL.out
       unfold recIs recN recM recPl recSt recJ
       simp only [if_pos hk]
       rw [decide_eq_true e2, Bool.true_and, hk]
       rw [← e]
       cases okRec 1 0 0 (recPlN b (recNp b)) (recStN b (recNs b)) <;> rfl
      clear hb3 HS3 HS6 hrr HP3 HT3
      go_wp2_with fail
      rw [← hW9]
      clear hW9
      have y0 : W9.cell? ⟨w.heap.size, 0, none⟩ = some (.int .i64 1) := (blk_cell hbx 0).trans rfl
      have y1 : W9.cell? ⟨w.heap.size, 1, none⟩ = some (.int .i64 0) := (blk_cell hbx 1).trans rfl
      have y2 : W9.cell? ⟨w.heap.size, 2, none⟩ = some (.int .i64 0) := (blk_cell hbx 2).trans rfl
      have y3 : W9.cell? ⟨w.heap.size, 3, none⟩ = some (.slice A3 (recPlN b (recNp b)).length c3) := (blk_cell hbx 3).trans rfl
      have y4 : W9.cell? ⟨w.heap.size, 4, none⟩ = some (.slice A4 (recStN b (recNs b)).length c4) := (blk_cell hbx 4).trans rfl
      refine bodyPost_ret (v := .tuple #[.agg #[.int .i64 1, .int .i64 0, .int .i64 0, .slice A3 (recPlN b (recNp b)).length c3, .slice A4 (recStN b (recNs b)).length c4], .bool (recIs b)]) ?_ rfl ?_
      ·simp [results, Try.results45, go_sem, y0, y1, y2, y3, y4, hI]
      ·refine ⟨_, _, _, _, _, rfl, fun _ => ⟨hk.symm, ?_, ?_, ?_, ?_⟩, hb9, ⟨_, _, _, rfl⟩, ⟨_, _, _, rfl⟩⟩
       ·unfold recN; rw [if_pos hk]
       ·unfold recM; rw [if_pos hk]
       ·unfold recPl; rw [if_pos hk]; exact K3.out
       ·unfold recSt; rw [if_pos hk]; exact K4.out
   ·have hL2 : (((b.length - 1 - (1 + recNp b) : Nat) : Int) != 1 + 3 * (recNs b : Int)) = true := by rw [bne_iff_ne]; omega
    have hI : recIs b = false := recIs_len (by unfold recJ; rw [if_pos hk]; exact hL)
    obtain ⟨A3, c3, rfl⟩ := Kd.R_slice HP.out
    have z0 : wr.cell? ⟨w.heap.size + 1, 0, none⟩ = some (.int .i64 1) := HS4.out.cell 0
    have z1 : wr.cell? ⟨w.heap.size + 1, 1, none⟩ = some (.int .i64 0) := HS4.out.cell 1
    have z2 : wr.cell? ⟨w.heap.size + 1, 2, none⟩ = some (.int .i64 0) := HS4.out.cell 2
    have z3 : wr.cell? ⟨w.heap.size + 1, 3, none⟩ = some (.slice A3 (recPlN b (recNp b)).length c3) := HS4.out.cell 3
    have z4 : wr.cell? ⟨w.heap.size + 1, 4, none⟩ = some (.slice none 0 0) := HS4.out.cell 4
    have g0 := HS4.out.frozen0 0
    have g1 := HS4.out.frozen0 1
    have g2 := HS4.out.frozen0 2
    have g3 := HS4.out.frozen0 3
    have g4 := HS4.out.frozen0 4
    have k0 := blk_cell HS4.out.b0 0
    have k1 := blk_cell HS4.out.b0 1
    have k2 := blk_cell HS4.out.b0 2
    have k3 := blk_cell HS4.out.b0 3
    have k4 := blk_cell HS4.out.b0 4
    simp at k0 k1 k2 k3 k4
    obtain ⟨W9, hW9, hbx, ho, hb9⟩ := ParSt.fin HS4.out
    go_wp2_with fail
    rw [← hW9]
    clear hW9
    have y0 : W9.cell? ⟨w.heap.size, 0, none⟩ = some (.int .i64 1) := (blk_cell hbx 0).trans rfl
    have y1 : W9.cell? ⟨w.heap.size, 1, none⟩ = some (.int .i64 0) := (blk_cell hbx 1).trans rfl
    have y2 : W9.cell? ⟨w.heap.size, 2, none⟩ = some (.int .i64 0) := (blk_cell hbx 2).trans rfl
    have y3 : W9.cell? ⟨w.heap.size, 3, none⟩ = some (.slice A3 (recPlN b (recNp b)).length c3) := (blk_cell hbx 3).trans rfl
    have y4 : W9.cell? ⟨w.heap.size, 4, none⟩ = some (.slice none 0 0) := (blk_cell hbx 4).trans rfl
    refine bodyPost_ret (v := .tuple #[.agg #[.int .i64 1, .int .i64 0, .int .i64 0, .slice A3 (recPlN b (recNp b)).length c3, .slice none 0 0], .bool false]) ?_ rfl ?_
    ·simp [results, Try.results45, go_sem, y0, y1, y2, y3, y4]
    ·exact ⟨1, 0, 0, _, _, (by rw [hI]), (fun h => (by rw [hI] at h; cases h)), hb9, ⟨_, _, _, rfl⟩, ⟨_, _, _, rfl⟩⟩
theorem parse_calls (A : Option Addr) (c : Nat) (b : List Int) (w : World) (hr : Kd.C (Kd.int .u8) w A b.length b) (hc : b.length ≤ c) (hb : ∀ x ∈ b, isByte x) (h2 : 2 ≤ b.length) (hm : b.length ≤ 140737488355328) :
  Calls Try.prog 45 #[.slice A b.length c] w (ParseOut w b) := by
 by_cases hk : gB b 0 = 1
 ·by_cases hs : recNp b + 3 ≤ b.length
  ·exact parse_plan A c b w hr hc hb hm hk hs
  ·exact parse_short A c b w hr hc hb h2 hm hk (by omega)
 ·by_cases h5 : b.length = 5
  ·exact parse_pair5 A c b w hr hc hb h5 hk
  ·exact parse_odd A c b w hr hc hb h2 hm h5 hk
end Go.Proofs.Ytagkgddkpnbfoaa.P
