import Derived.Test.YtagkgddkpnbfoaaHone
import Derived.Test.YtagkgddkpnbfoaaHcheck
import Derived.Test.YtagkgddkpnbfoaaHbytes
namespace Go.Proofs.Ytagkgddkpnbfoaa.P
set_option linter.unusedVariables false
set_option linter.unusedSimpArgs false
open Go.RowKit Go.Proofs.YtagkgddkpnbfoaaW.PrintWords Go.Proofs.YtagkgddkpnbfoaaW.PrintLast Go.Proofs.YtagkgddkpnbfoaaW.PrintMore

def recNp (b : List Int) : Nat := (gB b 1).toNat
def recPlN (b : List Int) (i : Nat) : List Int := (List.range i).map fun q => gB b (2 + q) - 1
def recNs (b : List Int) : Nat := (gB b (2 + recNp b)).toNat
def recStN (b : List Int) (i : Nat) : List S49 := (List.range i).map fun q => ⟨gB b (3 + recNp b + 3 * q), gB b (3 + recNp b + 3 * q + 1), gB b (3 + recNp b + 3 * q + 2)⟩
def recPl (b : List Int) : List Int := if gB b 0 = 1 then recPlN b (recNp b) else []
def recSt (b : List Int) : List S49 := if gB b 0 = 1 then recStN b (recNs b) else []
def recN (b : List Int) : Int := if gB b 0 = 1 then 0 else gT b 1
def recM (b : List Int) : Int := if gB b 0 = 1 then 0 else gT b 3
def recJ (b : List Int) : Nat := if gB b 0 = 1 then 3 + recNp b + 3 * recNs b else 5
def recIs (b : List Int) : Bool := decide (b.length = recJ b) && okRec (gB b 0) (recN b) (recM b) (recPl b) (recSt b)

structure RecSt (w : World) (b : List Int) (W : World) (cs : Array Value) (j : Nat) : Prop where
 bx : W.heap[w.heap.size]? = some (.cells cs 25 (0, 0))
 rd : RdrAt W w.heap.size (w.heap.size + 1) b j
 bl : Below w.heap.size w W
section
variable {w W W' : World} {b : List Int} {cs : Array Value} {j j' : Nat}
theorem RecSt.only (h : RecSt w b W cs j) (hr : RdrAt W' w.heap.size (w.heap.size + 1) b j') (ho : Only (w.heap.size + 1) W W') : RecSt w b W' cs j' :=
 ⟨(ho.block _ (by omega)).trans h.bx, hr, h.bl.trans (ho.below (by omega))⟩
theorem RecSt.set (h : RecSt w b W cs j) (i : Nat) (v : Value) : RecSt w b (W.setCell ⟨w.heap.size, i, none⟩ v) (cs.setIfInBounds i v) j :=
 ⟨blk_set h.bx i v, h.rd.far (by omega) (Nat.le_refl _) i v, h.bl.setCell (Nat.le_refl _) v⟩
theorem RecSt.below (h : RecSt w b W cs j) (hb : Below W.heap.size W W') : RecSt w b W' cs j :=
 ⟨(hb.block _ (blk_lt h.bx)).trans h.bx, h.rd.below hb, below_then h.bl h.bl.size hb⟩
theorem RecSt.grown (h : RecSt w b W cs j) {row : Option Nat} (hg : W.grownBy W' row) (hr : ∀ k, row = some k → w.heap.size + 1 < k) : RecSt w b W' cs j :=
 ⟨blk_grown h.bx hg (fun e => by have := hr _ e.symm; omega), h.rd.grown hg hr, pw_below_grown h.bl row h.bl.size hg (fun k hk => by have := hr k hk; omega)⟩
theorem RecSt.cell (h : RecSt w b W cs j) (i : Nat) : W.cell? ⟨w.heap.size, i, none⟩ = cs[i]? := blk_cell h.bx i
theorem RecSt.frozen (h : RecSt w b W cs j) (i : Nat) : W.frozen? ⟨w.heap.size, i, none⟩ = false := blk_frozen h.bx i
end
theorem info3x : (Try.prog.info? 3).map (fun i => (i.zero, i.size, i.bytes)) = some (some (.int .i64 0), 1, 8) := by kernel_rfl
theorem info49x : (Try.prog.info? 49).map (fun i => (i.zero, i.size, i.bytes)) = some (some (.agg #[.int .i64 0, .int .i64 0, .int .i64 0]), 3, 24) := by kernel_rfl
theorem rec_start (A : Option Addr) (c : Nat) (b : List Int) (w : World) (cs : Array Value) (hr : Kd.C (Kd.int .u8) w A b.length b) (hc : b.length ≤ c) :
  RecSt w b ((w.alloc (.cells cs 25)).alloc (.cells #[.slice A b.length c, .bool false] 74)) cs 0 := by
 have hb : Below w.heap.size w ((w.alloc (.cells cs 25)).alloc (.cells #[.slice A b.length c, .bool false] 74)) := below_alloc (below_alloc (Below.refl _ _) _) _
 refine ⟨((below_alloc (Below.refl _ (w.alloc (.cells cs 25))) _).block _ (by simp)).trans (heap_alloc_new w _), ⟨by omega, A, c, (by simpa using heap_alloc_new (w.alloc (.cells cs 25)) (.cells #[.slice A b.length c, .bool false] 74)), by simpa using hc, by simpa using Kd.C_below hr hb, ?_⟩, hb⟩
 intro ad ha hn
 subst ha
 exact Kd.C_lt hr (by simpa using hn) (by decide)

theorem rec_end {w W : World} {b : List Int} {c0 c1 c2 v3 v4 : Value} {j : Nat} {pl : List Int} {st : List S49} (h : RecSt w b W #[c0, c1, c2, v3, v4] j)
  (h3 : Kd.R (Kd.int .i64) 3 W w.heap.size (fun k => w.heap.size + 1 < k) v3 pl) (h4 : Kd.R k49 49 W w.heap.size (fun k => w.heap.size + 1 < k) v4 st) :
  ∃ W', W' = (((((W.setCell ⟨w.heap.size, 0, none⟩ c0).setCell ⟨w.heap.size, 1, none⟩ c1).setCell ⟨w.heap.size, 2, none⟩ c2).setCell ⟨w.heap.size, 3, none⟩ v3).setCell ⟨w.heap.size, 4, none⟩ v4) ∧
   W'.heap[w.heap.size]? = some (.cells #[c0, c1, c2, v3, v4] 25 (0, 0)) ∧ Kd.R (Kd.int .i64) 3 W' w.heap.size (fun _ => True) v3 pl ∧ Kd.R k49 49 W' w.heap.size (fun _ => True) v4 st ∧ Below w.heap.size w W' := by
 have hs := ((((h.set 0 c0).set 1 c1).set 2 c2).set 3 v3).set 4 v4
 have hk : ∀ k, w.heap.size + 1 < k → k ≠ w.heap.size := fun k hk => by omega
 refine ⟨_, rfl, by simpa using hs.bx, ?_, ?_, hs.bl⟩
 ·exact Kd.R_mono (Kd.R_far (p := ⟨w.heap.size, 4, none⟩) (Kd.R_far (p := ⟨w.heap.size, 3, none⟩) (Kd.R_far (p := ⟨w.heap.size, 2, none⟩) (Kd.R_far (p := ⟨w.heap.size, 1, none⟩) (Kd.R_far (p := ⟨w.heap.size, 0, none⟩) h3 hk _) hk _) hk _) hk _) hk _) (fun _ _ => trivial)
 ·exact Kd.R_mono (Kd.R_far (p := ⟨w.heap.size, 4, none⟩) (Kd.R_far (p := ⟨w.heap.size, 3, none⟩) (Kd.R_far (p := ⟨w.heap.size, 2, none⟩) (Kd.R_far (p := ⟨w.heap.size, 1, none⟩) (Kd.R_far (p := ⟨w.heap.size, 0, none⟩) h4 hk _) hk _) hk _) hk _) hk _) (fun _ _ => trivial)
set_option maxRecDepth 100000 in
set_option maxHeartbeats 3200000 in
theorem record_calls (A : Option Addr) (c : Nat) (b : List Int) (w : World) (hr : Kd.C (Kd.int .u8) w A b.length b) (hc : b.length ≤ c) (hb : ∀ x ∈ b, isByte x) (hm : b.length ≤ 140737488355328) :
  Calls Try.prog 44 #[.slice A b.length c] w fun e w' => ∃ v3 v4 : Value, e = .returned (.tuple #[.agg #[.int .i64 (gB b 0), .int .i64 (recN b), .int .i64 (recM b), v3, v4], .bool (recIs b)]) ∧
   Kd.R (Kd.int .i64) 3 w' w.heap.size (fun _ => True) v3 (recPl b) ∧ Kd.R k49 49 w' w.heap.size (fun _ => True) v4 (recSt b) ∧ Below w.heap.size w w' := by
 have HX := Aside0.mk hb
 have HS0 := Aside0.mk (rec_start A c b w #[.int .i64 0, .int .i64 0, .int .i64 0, .slice none 0 0, .slice none 0 0] hr hc)
 clear hr hb
 go_enter Try.func44, Try.ntmps44
 go_wp2_with fail
 generalize (w.alloc (.cells #[.int .i64 0, .int .i64 0, .int .i64 0, .slice none 0 0, .slice none 0 0] 25)).alloc (.cells #[.slice A b.length c, .bool false] 74) = W0 at *
 refine (one_calls w.heap.size (w.heap.size + 1) b 0 _ HX.out HS0.out.rd).mono ?_
 rintro e W1 ⟨rfl, hr1, ho1⟩
 have HS1 := Aside0.mk (HS0.out.only hr1 ho1)
 clear HS0 hr1 ho1
 have c0 : W1.cell? ⟨w.heap.size, 0, none⟩ = some (.int .i64 0) := HS1.out.cell 0
 have f0 := HS1.out.frozen 0
 go_upto_if 13 with (fail)
 have HS2 := Aside0.mk (HS1.out.set 0 (.int .i64 (gB b 0)))
 generalize W1.setCell ⟨w.heap.size, 0, none⟩ (.int .i64 (gB b 0)) = W2 at *
 clear HS1 c0 f0
 go_cut [] (fun wc => ∃ v3 v4 : Value, Aside0 (RecSt w b wc #[.int .i64 (gB b 0), .int .i64 (recN b), .int .i64 (recM b), v3, v4] (recJ b)) ∧
  Aside0 (Kd.R (Kd.int .i64) 3 wc w.heap.size (fun k => w.heap.size + 1 < k) v3 (recPl b)) ∧ Aside0 (Kd.R k49 49 wc w.heap.size (fun k => w.heap.size + 1 < k) v4 (recSt b)))
 case first =>
  by_cases hk : gB b 0 = 1
  ·have h1 : (gB b 0 != 1) = false := by rw [hk]; rfl
   have hq1 := gB_byte HX.out 1
   have hNp : Aside0 (gB b 1 = (recNp b : Int)) := ⟨by unfold recNp; have := hq1.1; omega⟩
   have hNpl : recNp b ≤ 255 := by have := hq1.1; have := hq1.2; unfold recNp; omega
   have HK := Aside0.mk hk
   clear hk
   go_wp2_with fail
   refine (one_calls w.heap.size (w.heap.size + 1) b 1 _ HX.out HS2.out.rd).mono ?_
   rintro e W3 ⟨rfl, hr3, ho3⟩
   have HS3 := Aside0.mk (HS2.out.only hr3 ho3)
   clear HS2 hr3 ho3
   rw [hNp.out]
   go_wp2_with fail
   go_loopw [22] (fun i W => ∃ (n : Nat) (vP : Value), n ≤ recNp b ∧ i = .int .i64 n ∧ Aside0 (RecSt w b W #[.int .i64 (gB b 0), .int .i64 0, .int .i64 0, vP, .slice none 0 0] (2 + n)) ∧
    Aside0 (Kd.R (Kd.int .i64) 3 W w.heap.size (fun k => w.heap.size + 1 < k) vP (recPlN b n))) (fun i _ => recNp b - (intOf i).toNat)
   case atStart => exact ⟨0, .slice none 0 0, Nat.zero_le _, rfl, HS3, ⟨Kd.R_nil _ _ _ _ _⟩⟩
   case round =>
    obtain ⟨n, vP, hn, rfl, HS4, HP⟩ := hrel
    clear HS3
    by_cases hlt : n < recNp b
    ·go_wp2_with fail
     have hP3 : wr.cell? ⟨w.heap.size, 3, none⟩ = some vP := HS4.out.cell 3
     have hq := gB_byte HX.out (2 + n)
     have hq0 := hq.1
     have hq2 := hq.2
     replace HS4 := Aside0.mk (HS4.out.below (below_drew (Below.refl wr.heap.size wr)))
     replace HP := Aside0.mk (Kd.R_drew HP.out)
     refine start_ (n := 9) (S := fun w' => w'.cell? ⟨w.heap.size, 3, none⟩ = some vP) (ds := [6, 8]) #[false, false, false, false, false, false, false, false, false] (by kernel_rfl) rfl rfl (hP3) (fun hHeld => ?_)
     refine pureS_ (i := 0) (N := some 24) (v := ?_) (a' := ?_) rfl rfl (by kernel_rfl) (fun _ _ _ h => h) (Or.inl ⟨by rfl, ?_⟩) ?_ ?_
     rotate_left; (· intro w'; go_simp; with_reducible rfl); rotate_left; (· simp only [Act.put, List.setIfInBounds_toArray, List.set_cons_zero, List.set_cons_succ, i64_w, i32_w]; rfl)
     refine pureS_ (i := 2) (N := some 26) (v := ?_) (a' := ?_) rfl rfl (by kernel_rfl) (fun _ _ _ h => h) (Or.inl ⟨by rfl, ?_⟩) ?_ ?_
     rotate_left; (· intro w'; go_simp; with_reducible rfl); rotate_left; (· simp only [Act.put, List.setIfInBounds_toArray, List.set_cons_zero, List.set_cons_succ, i64_w, i32_w]; rfl)
     refine takeS_ (i := 1) (N := some 25) (v := ?_) (a' := ?_) rfl rfl (by kernel_rfl) (fun _ _ _ h => h) (Or.inl ⟨by rfl, ?_⟩) hHeld ?_ ?_
     rotate_left; (· intro w' s0; go_simp; with_reducible rfl); rotate_left; (· simp only [Act.put, List.setIfInBounds_toArray, List.set_cons_zero, List.set_cons_succ, i64_w, i32_w]; rfl)
     refine oneS_ (i := 3) (N := some 27) rfl rfl (by kernel_rfl) (by decide) (fun K hK => ?_)
     refine goes_ Try.func49 (by kernel_rfl) rfl #[.pointer (some ⟨w.heap.size + 1, 0, none⟩)] (by rfl) rfl rfl (by simp only [List.map_toArray, List.map_cons, List.map_nil]; rfl) ?_
     with_reducible refine (one_calls w.heap.size (w.heap.size + 1) b (2 + n) _ HX.out HS4.out.rd).mono ?_
     rintro e w3 ⟨rfl, hrw3, how3⟩
     refine ⟨_, rfl, ?_⟩
     refine hK.out _ _ (((how3.cell (by omega)).trans hHeld)) (fun hHeld => ?_)
     clear hK K
     refine norm_ (a' := ?_) ?_ ?_
     rotate_left
     ·show Act.put _ (some 27) _ = _
      simp only [Act.put, List.setIfInBounds_toArray, List.set_cons_zero, List.set_cons_succ, i64_w, i32_w]
      rfl
     refine pureS_ (i := 4) (N := some 28) (v := ?_) (a' := ?_) rfl rfl (by kernel_rfl) (fun _ _ _ h => h) (Or.inl ⟨by rfl, ?_⟩) ?_ ?_
     rotate_left; (· intro w'; go_simp; with_reducible rfl); rotate_left; (· simp only [Act.put, List.setIfInBounds_toArray, List.set_cons_zero, List.set_cons_succ, i64_w, i32_w]; rfl)
     refine oneS_ (i := 5) (N := some 29) rfl rfl (by kernel_rfl) (by decide) (fun K hK => ?_)
     refine value_ (w1 := ?_) (v := ?_) (by rfl) rfl ?_ ?_
     rotate_left 2
     ·go_simp
      constructor
      ·rfl
      ·rfl
     refine hK.out _ _ (((World.cell?_alloc_some _ _ _ (by rw [hHeld]; rfl)).trans hHeld)) (fun hHeld => ?_)
     clear hK K
     refine norm_ (a' := ?_) ?_ ?_
     rotate_left
     ·show Act.put _ (some 29) _ = _
      simp only [Act.put, List.setIfInBounds_toArray, List.set_cons_zero, List.set_cons_succ, i64_w, i32_w]
      rfl
     refine lastS_ (i := 6) (N := some 30) rfl rfl (by kernel_rfl) (by decide) (fun K hK => ?_)
     clear hHeld
     have HSa := Aside0.mk (HS4.out.only hrw3 how3)
     refine Kd.R_append_step (Kd.int .i64) (w0 := w) w.heap.size (by rfl) (.tmp 25) (.tmp 29) 22 3 (.int .i64 0) 8 (by rfl) Try.underlying22 info3x rfl (by decide) (by decide) vP (recPlN b n) (wrap64 (gB b (2 + n) - 1)) [.int .i64 (wrap64 (gB b (2 + n) - 1))] (fun k_ => w.heap.size + 1 < k_) (fun _ => False) rfl rfl ?_ (fun _ h => h.elim) ?_ ?_ ?_ ?_ ?_ ?_
     ·exact rfl
     ·intro k_ hk_; have hl_ := HSa.out.rd.lt; omega
     ·exact Kd.R_step HP.out (fun k hk _ => how3.block k (by omega))
     ·exact HSa.out.bl
     ·exact HSa.out.bl.size
     ·simp [recPlN, recStN]; omega
     intro v1 w1 HV1 hb1 hg1 hat1
     have HS7 := Aside0.mk (HSa.out.grown hg1 (fun k hk => HP.out.1 k hk))
     have c3 : w1.cell? ⟨w.heap.size, 3, none⟩ = some vP := HS7.out.cell 3
     have f3 := HS7.out.frozen 3
     have hPn : Aside0 (recPlN b (n + 1) = recPlN b n ++ [wrap64 (gB b (2 + n) - 1)]) := ⟨by rw [wrap_id (by omega) (by omega)]; simp [recPlN, List.range_succ]⟩
     obtain ⟨A1_, c1_, rfl⟩ := Kd.R_slice HV1
     simp only [List.length_append, List.length_singleton] at HV1
     replace HV1 := Aside0.mk HV1
     clear hb1 hg1 hat1
     refine hK.out _ _ ?_
     clear hK K
     refine norm_ (a' := ?_) ?_ ?_
     rotate_left
     ·show Act.put _ (some 30) _ = _
      simp only [Act.put, List.setIfInBounds_toArray, List.set_cons_zero, List.set_cons_succ, i64_w, i32_w]
      rfl
     refine pureS_ (i := 7) (N := some 31) (v := ?_) (a' := ?_) rfl rfl (by kernel_rfl) (fun _ _ _ h => h) (Or.inl ⟨by rfl, ?_⟩) ?_ ?_
     rotate_left; (· intro w'; go_simp; with_reducible rfl); rotate_left; (· simp only [Act.put, List.setIfInBounds_toArray, List.set_cons_zero, List.set_cons_succ, i64_w, i32_w]; rfl)
     refine lastS_ (i := 8) (N := none) rfl rfl (by kernel_rfl) (by decide) (fun K hK => ?_)
     refine skip_ (w1 := ?_) (by rfl) rfl ?_ ?_
     rotate_left
     ·go_simp
      rfl
     refine hK.out _ _ ?_
     clear hK K
     refine done_ (by kernel_rfl) ?_
     go_wp2_with fail
     go_roundw
     case rel => exact ⟨n + 1, _, by omega, by go_num, ⟨by simpa [Nat.add_assoc] using HS7.out.set 3 _⟩, ⟨by rw [hPn.out]; exact Kd.R_far (p := ⟨w.heap.size, 3, none⟩) HV1.out (fun k hk => by show k ≠ w.heap.size; omega) _⟩⟩
     case measure => simp [intOf]; omega
    ·have hn' : n = recNp b := by omega
     subst hn'
     clear hlt hn
     go_wp2_with fail
     refine (one_calls w.heap.size (w.heap.size + 1) b (2 + recNp b) _ HX.out HS4.out.rd).mono ?_
     rintro e W5 ⟨rfl, hr5, ho5⟩
     have HS5 := Aside0.mk (HS4.out.only hr5 ho5)
     have HP5 := Aside0.mk (Kd.R_step HP.out (w1 := W5) (fun k hk _ => ho5.block k (by omega)))
     clear HS4 HP hr5 ho5
     have hq2 := gB_byte HX.out (2 + recNp b)
     have hNs : Aside0 (gB b (2 + recNp b) = (recNs b : Int)) := ⟨by unfold recNs; have := hq2.1; omega⟩
     have hNsl : recNs b ≤ 255 := by have := hq2.1; have := hq2.2; unfold recNs; omega
     rw [hNs.out]
     go_wp2_with fail
     go_loopw [35] (fun i W => ∃ (n : Nat) (vS : Value), n ≤ recNs b ∧ i = .int .i64 n ∧ Aside0 (RecSt w b W #[.int .i64 (gB b 0), .int .i64 0, .int .i64 0, vP, vS] (3 + recNp b + 3 * n)) ∧
      Aside0 (Kd.R (Kd.int .i64) 3 W w.heap.size (fun k => w.heap.size + 1 < k) vP (recPlN b (recNp b))) ∧
      Aside0 (Kd.R k49 49 W w.heap.size (fun k => w.heap.size + 1 < k) vS (recStN b n))) (fun i _ => recNs b - (intOf i).toNat)
     case atStart => exact ⟨0, .slice none 0 0, Nat.zero_le _, rfl, ⟨by have := HS5.out; rw [show 3 + recNp b + 3 * 0 = 2 + recNp b + 1 by omega]; exact this⟩, HP5, ⟨Kd.R_nil _ _ _ _ _⟩⟩
     case round =>
      obtain ⟨n, vS, hn, rfl, HS6, HP6, HT6⟩ := hrel
      clear HS5 HP5
      by_cases hlt : n < recNs b
      ·go_wp2_with fail
       have hP4 : wr.cell? ⟨w.heap.size, 4, none⟩ = some vS := HS6.out.cell 4
       have hq3 := gB_byte HX.out (3 + recNp b + 3 * n)
       have hq4 := gB_byte HX.out (3 + recNp b + 3 * n + 1)
       have hq5 := gB_byte HX.out (3 + recNp b + 3 * n + 1 + 1)
       replace HS6 := Aside0.mk (HS6.out.below (below_drew (Below.refl wr.heap.size wr)))
       replace HP6 := Aside0.mk (Kd.R_drew HP6.out)
       replace HT6 := Aside0.mk (Kd.R_drew HT6.out)
       refine start_ (n := 13) (S := fun w' => w'.cell? ⟨w.heap.size, 4, none⟩ = some vS) (ds := [10, 12]) #[false, false, false, false, false, false, false, false, false, false, false, false, false] (by kernel_rfl) rfl rfl (hP4) (fun hHeld => ?_)
       refine pureS_ (i := 0) (N := some 37) (v := ?_) (a' := ?_) rfl rfl (by kernel_rfl) (fun _ _ _ h => h) (Or.inl ⟨by rfl, ?_⟩) ?_ ?_
       rotate_left; (· intro w'; go_simp; with_reducible rfl); rotate_left; (· simp only [Act.put, List.setIfInBounds_toArray, List.set_cons_zero, List.set_cons_succ, i64_w, i32_w]; rfl)
       refine pureS_ (i := 2) (N := some 39) (v := ?_) (a' := ?_) rfl rfl (by kernel_rfl) (fun _ _ _ h => h) (Or.inl ⟨by rfl, ?_⟩) ?_ ?_
       rotate_left; (· intro w'; go_simp; with_reducible rfl); rotate_left; (· simp only [Act.put, List.setIfInBounds_toArray, List.set_cons_zero, List.set_cons_succ, i64_w, i32_w]; rfl)
       refine pureS_ (i := 4) (N := some 41) (v := ?_) (a' := ?_) rfl rfl (by kernel_rfl) (fun _ _ _ h => h) (Or.inl ⟨by rfl, ?_⟩) ?_ ?_
       rotate_left; (· intro w'; go_simp; with_reducible rfl); rotate_left; (· simp only [Act.put, List.setIfInBounds_toArray, List.set_cons_zero, List.set_cons_succ, i64_w, i32_w]; rfl)
       refine pureS_ (i := 6) (N := some 43) (v := ?_) (a' := ?_) rfl rfl (by kernel_rfl) (fun _ _ _ h => h) (Or.inl ⟨by rfl, ?_⟩) ?_ ?_
       rotate_left; (· intro w'; go_simp; with_reducible rfl); rotate_left; (· simp only [Act.put, List.setIfInBounds_toArray, List.set_cons_zero, List.set_cons_succ, i64_w, i32_w]; rfl)
       refine takeS_ (i := 1) (N := some 38) (v := ?_) (a' := ?_) rfl rfl (by kernel_rfl) (fun _ _ _ h => h) (Or.inl ⟨by rfl, ?_⟩) hHeld ?_ ?_
       rotate_left; (· intro w' s0; go_simp; with_reducible rfl); rotate_left; (· simp only [Act.put, List.setIfInBounds_toArray, List.set_cons_zero, List.set_cons_succ, i64_w, i32_w]; rfl)
       refine oneS_ (i := 3) (N := some 40) rfl rfl (by kernel_rfl) (by decide) (fun K hK => ?_)
       refine goes_ Try.func49 (by kernel_rfl) rfl #[.pointer (some ⟨w.heap.size + 1, 0, none⟩)] (by rfl) rfl rfl (by simp only [List.map_toArray, List.map_cons, List.map_nil]; rfl) ?_
       with_reducible refine (one_calls w.heap.size (w.heap.size + 1) b (3 + recNp b + 3 * n) _ HX.out HS6.out.rd).mono ?_
       rintro e w3 ⟨rfl, hrw3, how3⟩
       refine ⟨_, rfl, ?_⟩
       refine hK.out _ _ (((how3.cell (by omega)).trans hHeld)) (fun hHeld => ?_)
       clear hK K
       refine norm_ (a' := ?_) ?_ ?_
       rotate_left
       ·show Act.put _ (some 40) _ = _
        simp only [Act.put, List.setIfInBounds_toArray, List.set_cons_zero, List.set_cons_succ, i64_w, i32_w]
        rfl
       refine oneS_ (i := 5) (N := some 42) rfl rfl (by kernel_rfl) (by decide) (fun K hK => ?_)
       refine goes_ Try.func49 (by kernel_rfl) rfl #[.pointer (some ⟨w.heap.size + 1, 0, none⟩)] (by rfl) rfl rfl (by simp only [List.map_toArray, List.map_cons, List.map_nil]; rfl) ?_
       with_reducible refine (one_calls w.heap.size (w.heap.size + 1) b (3 + recNp b + 3 * n + 1) _ HX.out hrw3).mono ?_
       rintro e w4 ⟨rfl, hrw4, how4⟩
       refine ⟨_, rfl, ?_⟩
       refine hK.out _ _ (((how4.cell (by omega)).trans hHeld)) (fun hHeld => ?_)
       clear hK K
       refine norm_ (a' := ?_) ?_ ?_
       rotate_left
       ·show Act.put _ (some 42) _ = _
        simp only [Act.put, List.setIfInBounds_toArray, List.set_cons_zero, List.set_cons_succ, i64_w, i32_w]
        rfl
       refine oneS_ (i := 7) (N := some 44) rfl rfl (by kernel_rfl) (by decide) (fun K hK => ?_)
       refine goes_ Try.func49 (by kernel_rfl) rfl #[.pointer (some ⟨w.heap.size + 1, 0, none⟩)] (by rfl) rfl rfl (by simp only [List.map_toArray, List.map_cons, List.map_nil]; rfl) ?_
       with_reducible refine (one_calls w.heap.size (w.heap.size + 1) b (3 + recNp b + 3 * n + 1 + 1) _ HX.out hrw4).mono ?_
       rintro e w5 ⟨rfl, hrw5, how5⟩
       refine ⟨_, rfl, ?_⟩
       refine hK.out _ _ (((how5.cell (by omega)).trans hHeld)) (fun hHeld => ?_)
       clear hK K
       refine norm_ (a' := ?_) ?_ ?_
       rotate_left
       ·show Act.put _ (some 44) _ = _
        simp only [Act.put, List.setIfInBounds_toArray, List.set_cons_zero, List.set_cons_succ, i64_w, i32_w]
        rfl
       refine pureS_ (i := 8) (N := some 45) (v := ?_) (a' := ?_) rfl rfl (by kernel_rfl) (fun _ _ _ h => h) (Or.inl ⟨by rfl, ?_⟩) ?_ ?_
       rotate_left; (· intro w'; go_simp; with_reducible rfl); rotate_left; (· simp only [Act.put, List.setIfInBounds_toArray, List.set_cons_zero, List.set_cons_succ, i64_w, i32_w]; rfl)
       refine oneS_ (i := 9) (N := some 46) rfl rfl (by kernel_rfl) (by decide) (fun K hK => ?_)
       refine value_ (w1 := ?_) (v := ?_) (by rfl) rfl ?_ ?_
       rotate_left 2
       ·go_simp
        constructor
        ·rfl
        ·rfl
       refine hK.out _ _ (((World.cell?_alloc_some _ _ _ (by rw [hHeld]; rfl)).trans hHeld)) (fun hHeld => ?_)
       clear hK K
       refine norm_ (a' := ?_) ?_ ?_
       rotate_left
       ·show Act.put _ (some 46) _ = _
        simp only [Act.put, List.setIfInBounds_toArray, List.set_cons_zero, List.set_cons_succ, i64_w, i32_w]
        rfl
       refine lastS_ (i := 10) (N := some 47) rfl rfl (by kernel_rfl) (by decide) (fun K hK => ?_)
       clear hHeld
       have ho35 := (how3.trans how4).trans how5
       have HSa := Aside0.mk (HS6.out.only hrw5 ho35)
       refine Kd.R_append_step k49 (w0 := w) w.heap.size (by rfl) (.tmp 38) (.tmp 46) 23 49 (.agg #[.int .i64 0, .int .i64 0, .int .i64 0]) 24 (by rfl) Try.underlying23 info49x rfl (by decide) (by decide) vS (recStN b n) ⟨gB b (3 + recNp b + 3 * n), gB b (3 + recNp b + 3 * n + 1), gB b (3 + recNp b + 3 * n + 1 + 1)⟩ [.int .i64 (gB b (3 + recNp b + 3 * n)), .int .i64 (gB b (3 + recNp b + 3 * n + 1)), .int .i64 (gB b (3 + recNp b + 3 * n + 1 + 1))] (fun k_ => w.heap.size + 1 < k_) (fun _ => False) rfl rfl ?_ (fun _ h => h.elim) ?_ ?_ ?_ ?_ ?_ ?_
       ·exact k49_mkM _ _ _ _
       ·intro k_ hk_; have hl_ := HSa.out.rd.lt; omega
       ·exact Kd.R_step HT6.out (fun k hk _ => ho35.block k (by omega))
       ·exact HSa.out.bl
       ·exact HSa.out.bl.size
       ·simp [recPlN, recStN]; omega
       intro v1 w1 HV1 hb1 hg1 hat1
       have HS7 := Aside0.mk (HSa.out.grown hg1 (fun k hk => HT6.out.1 k hk))
       have HP7 := Aside0.mk (Kd.R_over' (Kd.R_step HP6.out (w1 := w5) (fun k hk _ => ho35.block k (by omega))) (Kd.R_typed (Kd.R_step HT6.out (w1 := w5) (fun k hk _ => ho35.block k (by omega)))) (by intro q hq; simp [Kd.int, Kd.scalar] at hq; omega) hg1)
       have c3 : w1.cell? ⟨w.heap.size, 4, none⟩ = some vS := HS7.out.cell 4
       have f3 := HS7.out.frozen 4
       have hTn : Aside0 (recStN b (n + 1) = recStN b n ++ [⟨gB b (3 + recNp b + 3 * n), gB b (3 + recNp b + 3 * n + 1), gB b (3 + recNp b + 3 * n + 1 + 1)⟩]) := ⟨by simp [recStN, List.range_succ]⟩
       obtain ⟨A1_, c1_, rfl⟩ := Kd.R_slice HV1
       simp only [List.length_append, List.length_singleton] at HV1
       replace HV1 := Aside0.mk HV1
       clear hb1 hg1 hat1
       refine hK.out _ _ ?_
       clear hK K
       refine norm_ (a' := ?_) ?_ ?_
       rotate_left
       ·show Act.put _ (some 47) _ = _
        simp only [Act.put, List.setIfInBounds_toArray, List.set_cons_zero, List.set_cons_succ, i64_w, i32_w]
        rfl
       refine pureS_ (i := 11) (N := some 48) (v := ?_) (a' := ?_) rfl rfl (by kernel_rfl) (fun _ _ _ h => h) (Or.inl ⟨by rfl, ?_⟩) ?_ ?_
       rotate_left; (· intro w'; go_simp; with_reducible rfl); rotate_left; (· simp only [Act.put, List.setIfInBounds_toArray, List.set_cons_zero, List.set_cons_succ, i64_w, i32_w]; rfl)
       refine lastS_ (i := 12) (N := none) rfl rfl (by kernel_rfl) (by decide) (fun K hK => ?_)
       refine skip_ (w1 := ?_) (by rfl) rfl ?_ ?_
       rotate_left
       ·go_simp
        rfl
       refine hK.out _ _ ?_
       clear hK K
       refine done_ (by kernel_rfl) ?_
       go_wp2_with fail
       go_roundw
       case rel => exact ⟨n + 1, _, by omega, by go_num, ⟨by rw [show 3 + recNp b + 3 * (n + 1) = 3 + recNp b + 3 * n + 1 + 1 + 1 by omega]; simpa using HS7.out.set 4 _⟩, ⟨Kd.R_far (p := ⟨w.heap.size, 4, none⟩) HP7.out (fun k hk => by show k ≠ w.heap.size; omega) _⟩, ⟨by rw [hTn.out]; exact Kd.R_far (p := ⟨w.heap.size, 4, none⟩) HV1.out (fun k hk => by show k ≠ w.heap.size; omega) _⟩⟩
       case measure => simp [intOf]; omega
      ·have hn' : n = recNs b := by omega
       subst hn'
       go_wp2_with fail
       go_meet
       case rel => exact ⟨vP, vS, ⟨by simpa [recN, recM, recJ, HK.out] using HS6.out⟩, ⟨by simpa [recPl, HK.out] using HP6.out⟩, ⟨by simpa [recSt, HK.out] using HT6.out⟩⟩
  ·have h1 : (gB b 0 != 1) = true := by rw [bne_iff_ne]; exact hk
   go_wp2_with fail
   refine (two_calls w.heap.size (w.heap.size + 1) b 1 _ HX.out HS2.out.rd).mono ?_
   rintro e W3 ⟨rfl, hr3, ho3⟩
   have HS3 := Aside0.mk (HS2.out.only hr3 ho3)
   clear HS2 hr3 ho3
   have c1 : W3.cell? ⟨w.heap.size, 1, none⟩ = some (.int .i64 0) := HS3.out.cell 1
   have f1 := HS3.out.frozen 1
   go_wp2_with fail
   have HS4 := Aside0.mk (HS3.out.set 1 (.int .i64 (gT b 1)))
   generalize W3.setCell ⟨w.heap.size, 1, none⟩ (.int .i64 (gT b 1)) = W4 at *
   clear HS3 c1 f1
   refine (two_calls w.heap.size (w.heap.size + 1) b 3 _ HX.out HS4.out.rd).mono ?_
   rintro e W5 ⟨rfl, hr5, ho5⟩
   have HS5 := Aside0.mk (HS4.out.only hr5 ho5)
   clear HS4 hr5 ho5
   have c2 : W5.cell? ⟨w.heap.size, 2, none⟩ = some (.int .i64 0) := HS5.out.cell 2
   have f2 := HS5.out.frozen 2
   go_wp2_with fail
   have HS6 := Aside0.mk (HS5.out.set 2 (.int .i64 (gT b 3)))
   go_meet
   case rel => exact ⟨.slice none 0 0, .slice none 0 0, ⟨by simpa [recN, recM, recJ, hk] using HS6.out⟩, ⟨by simpa [recPl, hk] using Kd.R_nil _ _ _ _ _⟩, ⟨by simpa [recSt, hk] using Kd.R_nil _ _ _ _ _⟩⟩
 case rest =>
  obtain ⟨v3, v4, HS, H3, H4⟩ := hcut
  clear HS2
  obtain ⟨A3, c3, rfl, hc3, HC3⟩ := Kd.R_reads H3.out
  obtain ⟨A4, c4, rfl, hc4, HC4⟩ := Kd.R_reads H4.out
  replace HC3 := Aside0.mk HC3
  replace HC4 := Aside0.mk HC4
  have x0 : wc.cell? ⟨w.heap.size, 0, none⟩ = some (.int .i64 (gB b 0)) := HS.out.cell 0
  have x1 : wc.cell? ⟨w.heap.size, 1, none⟩ = some (.int .i64 (recN b)) := HS.out.cell 1
  have x2 : wc.cell? ⟨w.heap.size, 2, none⟩ = some (.int .i64 (recM b)) := HS.out.cell 2
  have x3 : wc.cell? ⟨w.heap.size, 3, none⟩ = some (.slice A3 (recPl b).length c3) := HS.out.cell 3
  have x4 : wc.cell? ⟨w.heap.size, 4, none⟩ = some (.slice A4 (recSt b).length c4) := HS.out.cell 4
  obtain ⟨_, Ar, cr, hrb, hcr, hrr, _⟩ := HS.out.rd
  have r0 : wc.cell? ⟨w.heap.size + 1, 0, none⟩ = some (.slice Ar (b.drop (recJ b)).length cr) := (blk_cell hrb 0).trans rfl
  have r1 : wc.cell? ⟨w.heap.size + 1, 1, none⟩ = some (.bool (decide (b.length < recJ b))) := (blk_cell hrb 1).trans rfl
  have hlr := hrr.2.1
  obtain ⟨q, hq⟩ : ∃ q, (b.drop (recJ b)).length = q := ⟨_, rfl⟩
  rw [hq] at r0 hlr
  have hq2 : q = b.length - recJ b := by rw [← hq, List.length_drop]
  replace hq := Aside0.mk hq2
  clear hrb hrr hcr hq2
  by_cases hod : b.length < recJ b
  ·have hI : Aside0 (recIs b = false) := ⟨by unfold recIs; rw [decide_eq_false (by omega)]; rfl⟩
   rw [decide_eq_true hod] at r1
   go_wp2_with fail
   refine start_ (n := 21) (S := fun w' => w'.cell? ⟨w.heap.size, 0, none⟩ = some (.int .i64 (gB b 0)) ∧ w'.cell? ⟨w.heap.size, 1, none⟩ = some (.int .i64 (recN b)) ∧ w'.cell? ⟨w.heap.size, 2, none⟩ = some (.int .i64 (recM b)) ∧ w'.cell? ⟨w.heap.size, 3, none⟩ = some (.slice A3 (recPl b).length c3) ∧ w'.cell? ⟨w.heap.size, 4, none⟩ = some (.slice A4 (recSt b).length c4) ∧ w'.cell? ⟨w.heap.size + 1, 0, none⟩ = some (.slice Ar q cr) ∧ w'.cell? ⟨w.heap.size + 1, 1, none⟩ = some (.bool true)) (ds := [19]) #[false, false, false, false, false, false, false, false, false, false, false, false, false, false, false, false, false, false, false, false, false] (by kernel_rfl) rfl rfl ⟨x0, x1, x2, x3, x4, r0, r1⟩ (fun hHeld => ?_)
   refine pureS_ (i := 1) (N := some 51) (v := ?_) (a' := ?_) rfl rfl (by kernel_rfl) (fun _ _ _ h => h) (Or.inl ⟨by rfl, ?_⟩) ?_ ?_
   rotate_left; (· intro w'; go_simp; with_reducible rfl); rotate_left; (· simp only [Act.put, List.setIfInBounds_toArray, List.set_cons_zero, List.set_cons_succ, i64_w, i32_w]; rfl)
   refine pureS_ (i := 2) (N := some 52) (v := ?_) (a' := ?_) rfl rfl (by kernel_rfl) (fun _ _ _ h => h) (Or.inl ⟨by rfl, ?_⟩) ?_ ?_
   rotate_left; (· intro w'; go_simp; with_reducible rfl); rotate_left; (· simp only [Act.put, List.setIfInBounds_toArray, List.set_cons_zero, List.set_cons_succ, i64_w, i32_w]; rfl)
   refine pureS_ (i := 3) (N := some 53) (v := ?_) (a' := ?_) rfl rfl (by kernel_rfl) (fun _ _ _ h => h) (Or.inl ⟨by rfl, ?_⟩) ?_ ?_
   rotate_left; (· intro w'; go_simp; with_reducible rfl); rotate_left; (· simp only [Act.put, List.setIfInBounds_toArray, List.set_cons_zero, List.set_cons_succ, i64_w, i32_w]; rfl)
   refine takeS_ (i := 0) (N := some 50) (v := ?_) (a' := ?_) rfl rfl (by kernel_rfl) (fun _ _ _ h => h) (Or.inl ⟨by rfl, ?_⟩) hHeld ?_ ?_
   rotate_left; (· rintro w' ⟨s0, s1, s2, s3, s4, s5, s6⟩; go_simp; with_reducible rfl); rotate_left; (· simp only [Act.put, List.setIfInBounds_toArray, List.set_cons_zero, List.set_cons_succ, i64_w, i32_w]; rfl)
   refine takeS_ (i := 4) (N := some 54) (v := ?_) (a' := ?_) rfl rfl (by kernel_rfl) (fun _ _ _ h => h) (Or.inl ⟨by rfl, ?_⟩) hHeld ?_ ?_
   rotate_left; (· rintro w' ⟨s0, s1, s2, s3, s4, s5, s6⟩; go_simp; with_reducible rfl); rotate_left; (· simp only [Act.put, List.setIfInBounds_toArray, List.set_cons_zero, List.set_cons_succ, i64_w, i32_w]; rfl)
   refine pureS_ (i := 5) (N := some 55) (v := ?_) (a' := ?_) rfl rfl (by kernel_rfl) (fun _ _ _ h => h) (Or.inl ⟨by rfl, ?_⟩) ?_ ?_
   rotate_left; (· intro w'; go_simp; with_reducible rfl); rotate_left; (· simp only [Act.put, List.setIfInBounds_toArray, List.set_cons_zero, List.set_cons_succ, i64_w, i32_w]; rfl)
   refine pureS_ (i := 6) (N := some 56) (v := ?_) (a' := ?_) rfl rfl (by kernel_rfl) (fun _ _ _ h => h) (Or.inl ⟨by rfl, ?_⟩) ?_ ?_
   rotate_left; (· intro w'; go_simp; with_reducible rfl); rotate_left; (· simp only [Act.put, List.setIfInBounds_toArray, List.set_cons_zero, List.set_cons_succ, i64_w, i32_w]; rfl)
   refine pureS_ (i := 7) (N := some 57) (v := undef) (a' := ?_) rfl rfl (by kernel_rfl) (fun _ _ _ h => h) (Or.inr ⟨by rfl, rfl⟩) ?_ ?_
   rotate_left
   ·simp only [Act.put, List.setIfInBounds_toArray, List.set_cons_zero, List.set_cons_succ, i64_w, i32_w]
    rfl
   refine pureS_ (i := 8) (N := some 58) (v := undef) (a' := ?_) rfl rfl (by kernel_rfl) (fun _ _ _ h => h) (Or.inr ⟨by rfl, rfl⟩) ?_ ?_
   rotate_left
   ·simp only [Act.put, List.setIfInBounds_toArray, List.set_cons_zero, List.set_cons_succ, i64_w, i32_w]
    rfl
   refine pureS_ (i := 9) (N := some 59) (v := undef) (a' := ?_) rfl rfl (by kernel_rfl) (fun _ _ _ h => h) (Or.inr ⟨by rfl, rfl⟩) ?_ ?_
   rotate_left
   ·simp only [Act.put, List.setIfInBounds_toArray, List.set_cons_zero, List.set_cons_succ, i64_w, i32_w]
    rfl
   refine pureS_ (i := 10) (N := some 60) (v := undef) (a' := ?_) rfl rfl (by kernel_rfl) (fun _ _ _ h => h) (Or.inr ⟨by rfl, rfl⟩) ?_ ?_
   rotate_left
   ·simp only [Act.put, List.setIfInBounds_toArray, List.set_cons_zero, List.set_cons_succ, i64_w, i32_w]
    rfl
   refine pureS_ (i := 11) (N := some 61) (v := undef) (a' := ?_) rfl rfl (by kernel_rfl) (fun _ _ _ h => h) (Or.inr ⟨by rfl, rfl⟩) ?_ ?_
   rotate_left
   ·simp only [Act.put, List.setIfInBounds_toArray, List.set_cons_zero, List.set_cons_succ, i64_w, i32_w]
    rfl
   refine pureS_ (i := 12) (N := some 62) (v := undef) (a' := ?_) rfl rfl (by kernel_rfl) (fun _ _ _ h => h) (Or.inr ⟨by rfl, rfl⟩) ?_ ?_
   rotate_left
   ·simp only [Act.put, List.setIfInBounds_toArray, List.set_cons_zero, List.set_cons_succ, i64_w, i32_w]
    rfl
   refine pureS_ (i := 13) (N := some 63) (v := ?_) (a' := ?_) rfl rfl (by kernel_rfl) (fun _ _ _ h => h) (Or.inl ⟨by rfl, ?_⟩) ?_ ?_
   rotate_left; (· intro w'; go_simp; with_reducible rfl); rotate_left; (· simp only [Act.put, List.setIfInBounds_toArray, List.set_cons_zero, List.set_cons_succ, i64_w, i32_w]; rfl)
   refine pureS_ (i := 14) (N := some 64) (v := ?_) (a' := ?_) rfl rfl (by kernel_rfl) (fun _ _ _ h => h) (Or.inl ⟨by rfl, ?_⟩) ?_ ?_
   rotate_left; (· intro w'; go_simp; with_reducible rfl); rotate_left; (· simp only [Act.put, List.setIfInBounds_toArray, List.set_cons_zero, List.set_cons_succ, i64_w, i32_w]; rfl)
   refine pureS_ (i := 15) (N := some 65) (v := undef) (a' := ?_) rfl rfl (by kernel_rfl) (fun _ _ _ h => h) (Or.inr ⟨by rfl, rfl⟩) ?_ ?_
   rotate_left
   ·simp only [Act.put, List.setIfInBounds_toArray, List.set_cons_zero, List.set_cons_succ, i64_w, i32_w]
    rfl
   refine pureS_ (i := 16) (N := some 66) (v := undef) (a' := ?_) rfl rfl (by kernel_rfl) (fun _ _ _ h => h) (Or.inr ⟨by rfl, rfl⟩) ?_ ?_
   rotate_left
   ·simp only [Act.put, List.setIfInBounds_toArray, List.set_cons_zero, List.set_cons_succ, i64_w, i32_w]
    rfl
   refine pureS_ (i := 17) (N := some 67) (v := undef) (a' := ?_) rfl rfl (by kernel_rfl) (fun _ _ _ h => h) (Or.inr ⟨by rfl, rfl⟩) ?_ ?_
   rotate_left
   ·simp only [Act.put, List.setIfInBounds_toArray, List.set_cons_zero, List.set_cons_succ, i64_w, i32_w]
    rfl
   refine pureS_ (i := 18) (N := some 68) (v := ?_) (a' := ?_) rfl rfl (by kernel_rfl) (fun _ _ _ h => h) (Or.inl ⟨by rfl, ?_⟩) ?_ ?_
   rotate_left; (· intro w'; go_simp; with_reducible rfl); rotate_left; (· simp only [Act.put, List.setIfInBounds_toArray, List.set_cons_zero, List.set_cons_succ, i64_w, i32_w]; rfl)
   refine lastS_ (i := 19) (N := none) rfl rfl (by kernel_rfl) (by decide) (fun K hK => ?_)
   have f0 := HS.out.frozen 0
   have f1 := HS.out.frozen 1
   have f2 := HS.out.frozen 2
   have f3 := HS.out.frozen 3
   have f4 := HS.out.frozen 4
   obtain ⟨x0, x1, x2, x3, x4, _, _⟩ := hHeld
   refine skip_ (w1 := ?_) (by rfl) rfl ?_ ?_
   rotate_left
   ·go_simp
    rfl
   refine hK.out _ _ ?_
   clear hK K
   refine pureS_ (i := 20) (N := some 3) (v := ?_) (a' := ?_) rfl rfl (by kernel_rfl) (fun _ _ _ h => h) (Or.inl ⟨by rfl, ?_⟩) ?_ ?_
   rotate_left; (· intro w'; go_simp; with_reducible rfl); rotate_left; (· simp only [Act.put, List.setIfInBounds_toArray, List.set_cons_zero, List.set_cons_succ, i64_w, i32_w]; rfl)
   refine done_ (by kernel_rfl) ?_
   obtain ⟨W9, hW9, hbx, k3, k4, hb9⟩ := rec_end HS.out H3.out H4.out
   go_wp2_with fail
   rw [← hW9]
   clear hW9
   have y0 : W9.cell? ⟨w.heap.size, 0, none⟩ = some (.int .i64 (gB b 0)) := (blk_cell hbx 0).trans rfl
   have y1 : W9.cell? ⟨w.heap.size, 1, none⟩ = some (.int .i64 (recN b)) := (blk_cell hbx 1).trans rfl
   have y2 : W9.cell? ⟨w.heap.size, 2, none⟩ = some (.int .i64 (recM b)) := (blk_cell hbx 2).trans rfl
   have y3 : W9.cell? ⟨w.heap.size, 3, none⟩ = some (.slice A3 (recPl b).length c3) := (blk_cell hbx 3).trans rfl
   have y4 : W9.cell? ⟨w.heap.size, 4, none⟩ = some (.slice A4 (recSt b).length c4) := (blk_cell hbx 4).trans rfl
   refine bodyPost_ret (v := .tuple #[.agg #[.int .i64 (gB b 0), .int .i64 (recN b), .int .i64 (recM b), .slice A3 (recPl b).length c3, .slice A4 (recSt b).length c4], .bool (recIs b)]) ?_ rfl ?_
   ·simp [results, Try.results44, go_sem, y0, y1, y2, y3, y4, hI.out]
   ·exact ⟨_, _, rfl, Kd.R_drew k3, Kd.R_drew k4, below_drew hb9⟩
  ·rw [decide_eq_false hod] at r1
   by_cases hl0 : b.length = recJ b
   ·have hl2 : ((q : Int) == 0) = true := by have := hq.out; rw [beq_iff_eq]; omega
    obtain ⟨rr, hrr⟩ : ∃ rr : Int, (if okRec (gB b 0) (recN b) (recM b) (recPl b) (recSt b) = true then 0 else 2) = rr := ⟨_, rfl⟩
    have hI : Aside0 (recIs b = (rr == 0)) := ⟨by unfold recIs; rw [decide_eq_true hl0, ← hrr]; cases okRec (gB b 0) (recN b) (recM b) (recPl b) (recSt b) <;> rfl⟩
    have hck : Aside0 (journal_Check.f (gB b 0) (recN b) (recM b) (recPl b) (recSt b) = some rr) := ⟨by unfold journal_Check.f; rw [hrr]⟩
    clear hrr
    go_wp2_with fail
    refine start_ (n := 21) (S := fun w' => w'.cell? ⟨w.heap.size, 0, none⟩ = some (.int .i64 (gB b 0)) ∧ w'.cell? ⟨w.heap.size, 1, none⟩ = some (.int .i64 (recN b)) ∧ w'.cell? ⟨w.heap.size, 2, none⟩ = some (.int .i64 (recM b)) ∧ w'.cell? ⟨w.heap.size, 3, none⟩ = some (.slice A3 (recPl b).length c3) ∧ w'.cell? ⟨w.heap.size, 4, none⟩ = some (.slice A4 (recSt b).length c4) ∧ w'.cell? ⟨w.heap.size + 1, 0, none⟩ = some (.slice Ar q cr) ∧ w'.cell? ⟨w.heap.size + 1, 1, none⟩ = some (.bool false)) (ds := [19]) #[false, false, false, false, false, false, false, false, false, false, false, false, false, false, false, false, false, false, false, false, false] (by kernel_rfl) rfl rfl ⟨x0, x1, x2, x3, x4, r0, r1⟩ (fun hHeld => ?_)
    refine pureS_ (i := 1) (N := some 51) (v := ?_) (a' := ?_) rfl rfl (by kernel_rfl) (fun _ _ _ h => h) (Or.inl ⟨by rfl, ?_⟩) ?_ ?_
    rotate_left; (· intro w'; go_simp; with_reducible rfl); rotate_left; (· simp only [Act.put, List.setIfInBounds_toArray, List.set_cons_zero, List.set_cons_succ, i64_w, i32_w]; rfl)
    refine pureS_ (i := 2) (N := some 52) (v := ?_) (a' := ?_) rfl rfl (by kernel_rfl) (fun _ _ _ h => h) (Or.inl ⟨by rfl, ?_⟩) ?_ ?_
    rotate_left; (· intro w'; go_simp; with_reducible rfl); rotate_left; (· simp only [Act.put, List.setIfInBounds_toArray, List.set_cons_zero, List.set_cons_succ, i64_w, i32_w]; rfl)
    refine pureS_ (i := 3) (N := some 53) (v := ?_) (a' := ?_) rfl rfl (by kernel_rfl) (fun _ _ _ h => h) (Or.inl ⟨by rfl, ?_⟩) ?_ ?_
    rotate_left; (· intro w'; go_simp; with_reducible rfl); rotate_left; (· simp only [Act.put, List.setIfInBounds_toArray, List.set_cons_zero, List.set_cons_succ, i64_w, i32_w]; rfl)
    refine takeS_ (i := 0) (N := some 50) (v := ?_) (a' := ?_) rfl rfl (by kernel_rfl) (fun _ _ _ h => h) (Or.inl ⟨by rfl, ?_⟩) hHeld ?_ ?_
    rotate_left; (· rintro w' ⟨s0, s1, s2, s3, s4, s5, s6⟩; go_simp; with_reducible rfl); rotate_left; (· simp only [Act.put, List.setIfInBounds_toArray, List.set_cons_zero, List.set_cons_succ, i64_w, i32_w]; rfl)
    refine takeS_ (i := 4) (N := some 54) (v := ?_) (a' := ?_) rfl rfl (by kernel_rfl) (fun _ _ _ h => h) (Or.inl ⟨by rfl, ?_⟩) hHeld ?_ ?_
    rotate_left; (· rintro w' ⟨s0, s1, s2, s3, s4, s5, s6⟩; go_simp; with_reducible rfl); rotate_left; (· simp only [Act.put, List.setIfInBounds_toArray, List.set_cons_zero, List.set_cons_succ, i64_w, i32_w]; rfl)
    refine pureS_ (i := 5) (N := some 55) (v := ?_) (a' := ?_) rfl rfl (by kernel_rfl) (fun _ _ _ h => h) (Or.inl ⟨by rfl, ?_⟩) ?_ ?_
    rotate_left; (· intro w'; go_simp; with_reducible rfl); rotate_left; (· simp only [Act.put, List.setIfInBounds_toArray, List.set_cons_zero, List.set_cons_succ, i64_w, i32_w]; rfl)
    refine pureS_ (i := 6) (N := some 56) (v := ?_) (a' := ?_) rfl rfl (by kernel_rfl) (fun _ _ _ h => h) (Or.inl ⟨by rfl, ?_⟩) ?_ ?_
    rotate_left; (· intro w'; go_simp; with_reducible rfl); rotate_left; (· simp only [Act.put, List.setIfInBounds_toArray, List.set_cons_zero, List.set_cons_succ, i64_w, i32_w]; rfl)
    refine pureS_ (i := 7) (N := some 57) (v := ?_) (a' := ?_) rfl rfl (by kernel_rfl) (fun _ _ _ h => h) (Or.inl ⟨by rfl, ?_⟩) ?_ ?_
    rotate_left; (· intro w'; go_simp; with_reducible rfl); rotate_left; (· simp only [Act.put, List.setIfInBounds_toArray, List.set_cons_zero, List.set_cons_succ, i64_w, i32_w]; rfl)
    refine pureS_ (i := 8) (N := some 58) (v := ?_) (a' := ?_) rfl rfl (by kernel_rfl) (fun _ _ _ h => h) (Or.inl ⟨by rfl, ?_⟩) ?_ ?_
    rotate_left; (· intro w'; go_simp; with_reducible rfl); rotate_left; (· simp only [Act.put, List.setIfInBounds_toArray, List.set_cons_zero, List.set_cons_succ, i64_w, i32_w]; rfl)
    refine pureS_ (i := 9) (N := some 59) (v := ?_) (a' := ?_) rfl rfl (by kernel_rfl) (fun _ _ _ h => h) (Or.inl ⟨by rfl, ?_⟩) ?_ ?_
    rotate_left; (· intro w'; go_simp; with_reducible rfl); rotate_left; (· simp only [Act.put, List.setIfInBounds_toArray, List.set_cons_zero, List.set_cons_succ, i64_w, i32_w]; rfl)
    refine takeS_ (i := 10) (N := some 60) (v := ?_) (a' := ?_) rfl rfl (by kernel_rfl) (fun _ _ _ h => h) (Or.inl ⟨by rfl, ?_⟩) hHeld ?_ ?_
    rotate_left; (· rintro w' ⟨s0, s1, s2, s3, s4, s5, s6⟩; go_simp; with_reducible rfl); rotate_left; (· simp only [Act.put, List.setIfInBounds_toArray, List.set_cons_zero, List.set_cons_succ, i64_w, i32_w]; rfl)
    refine pureS_ (i := 11) (N := some 61) (v := ?_) (a' := ?_) rfl rfl (by kernel_rfl) (fun _ _ _ h => h) (Or.inl ⟨by rfl, ?_⟩) ?_ ?_
    rotate_left; (· intro w'; go_simp; with_reducible rfl); rotate_left; (· simp only [Act.put, List.setIfInBounds_toArray, List.set_cons_zero, List.set_cons_succ, i64_w, i32_w]; rfl)
    refine pureS_ (i := 12) (N := some 62) (v := ?_) (a' := ?_) rfl rfl (by kernel_rfl) (fun _ _ _ h => h) (Or.inl ⟨by rfl, ?_⟩) ?_ ?_
    rotate_left; (· intro w'; go_simp; with_reducible rfl); rotate_left; (· simp only [Act.put, List.setIfInBounds_toArray, List.set_cons_zero, List.set_cons_succ, i64_w, i32_w]; rfl)
    refine pureS_ (i := 13) (N := some 63) (v := ?_) (a' := ?_) rfl rfl (by kernel_rfl) (fun _ _ _ h => h) (Or.inl ⟨by rfl, ?_⟩) ?_ ?_
    rotate_left; (· intro w'; go_simp; with_reducible rfl); rotate_left; (· simp only [Act.put, List.setIfInBounds_toArray, List.set_cons_zero, List.set_cons_succ, i64_w, i32_w]; rfl)
    refine pureS_ (i := 14) (N := some 64) (v := ?_) (a' := ?_) rfl rfl (by kernel_rfl) (fun _ _ _ h => h) (Or.inl ⟨by rfl, ?_⟩) ?_ ?_
    rotate_left; (· intro w'; go_simp; with_reducible rfl); rotate_left; (· simp only [Act.put, List.setIfInBounds_toArray, List.set_cons_zero, List.set_cons_succ, i64_w, i32_w]; rfl)
    refine takeS_ (i := 15) (N := some 65) (v := ?_) (a' := ?_) rfl rfl (by kernel_rfl) (fun _ _ _ h => h) (Or.inl ⟨by rfl, ?_⟩) hHeld ?_ ?_
    rotate_left; (· rintro w' ⟨s0, s1, s2, s3, s4, s5, s6⟩; go_simp; with_reducible rfl); rotate_left; (· simp only [Act.put, List.setIfInBounds_toArray, List.set_cons_zero, List.set_cons_succ, i64_w, i32_w]; rfl)
    refine oneS_ (i := 16) (N := some 66) rfl rfl (by kernel_rfl) (by decide) (fun K hK => ?_)
    refine goes_ Try.func12 (by kernel_rfl) rfl #[.agg #[.int .i64 (gB b 0), .int .i64 (recN b), .int .i64 (recM b), .slice A3 (recPl b).length c3, .slice A4 (recSt b).length c4]] (by rfl) rfl rfl (by simp only [List.map_toArray, List.map_cons, List.map_nil]; rfl) ?_
    with_reducible refine (journal_Check.calls (gB b 0) (recN b) (recM b) A3 c3 (recPl b) A4 c4 (recSt b) rr _ (Kd.C_drew HC3.out) hc3 (Kd.C_drew HC4.out) hc4 hck.out).mono ?_
    rintro e w3 ⟨rfl, hb3⟩
    refine ⟨_, rfl, ?_⟩
    refine hK.out _ _ ⟨(pw_cell_below hb3 hHeld.1), (pw_cell_below hb3 hHeld.2.1), (pw_cell_below hb3 hHeld.2.2.1), (pw_cell_below hb3 hHeld.2.2.2.1), (pw_cell_below hb3 hHeld.2.2.2.2.1), (pw_cell_below hb3 hHeld.2.2.2.2.2.1), (pw_cell_below hb3 hHeld.2.2.2.2.2.2)⟩ (fun hHeld => ?_)
    clear hK K
    refine norm_ (a' := ?_) ?_ ?_
    rotate_left
    ·show Act.put _ (some 66) _ = _
     simp only [Act.put, List.setIfInBounds_toArray, List.set_cons_zero, List.set_cons_succ, i64_w, i32_w]
     rfl
    refine pureS_ (i := 17) (N := some 67) (v := ?_) (a' := ?_) rfl rfl (by kernel_rfl) (fun _ _ _ h => h) (Or.inl ⟨by rfl, ?_⟩) ?_ ?_
    rotate_left; (· intro w'; go_simp; with_reducible rfl); rotate_left; (· simp only [Act.put, List.setIfInBounds_toArray, List.set_cons_zero, List.set_cons_succ, i64_w, i32_w]; rfl)
    refine pureS_ (i := 18) (N := some 68) (v := ?_) (a' := ?_) rfl rfl (by kernel_rfl) (fun _ _ _ h => h) (Or.inl ⟨by rfl, ?_⟩) ?_ ?_
    rotate_left; (· intro w'; go_simp; with_reducible rfl); rotate_left; (· simp only [Act.put, List.setIfInBounds_toArray, List.set_cons_zero, List.set_cons_succ, i64_w, i32_w]; rfl)
    refine lastS_ (i := 19) (N := none) rfl rfl (by kernel_rfl) (by decide) (fun K hK => ?_)
    have HSd := Aside0.mk ((HS.out.below (below_drew (Below.refl wc.heap.size wc))).below hb3)
    have f0 := HSd.out.frozen 0
    have f1 := HSd.out.frozen 1
    have f2 := HSd.out.frozen 2
    have f3 := HSd.out.frozen 3
    have f4 := HSd.out.frozen 4
    obtain ⟨x0, x1, x2, x3, x4, _, _⟩ := hHeld
    refine skip_ (w1 := ?_) (by rfl) rfl ?_ ?_
    rotate_left
    ·go_simp
     rfl
    refine hK.out _ _ ?_
    clear hK K
    refine pureS_ (i := 20) (N := some 3) (v := ?_) (a' := ?_) rfl rfl (by kernel_rfl) (fun _ _ _ h => h) (Or.inl ⟨by rfl, ?_⟩) ?_ ?_
    rotate_left; (· intro w'; go_simp; with_reducible rfl); rotate_left; (· simp only [Act.put, List.setIfInBounds_toArray, List.set_cons_zero, List.set_cons_succ, i64_w, i32_w]; rfl)
    refine done_ (by kernel_rfl) ?_
    obtain ⟨W9, hW9, hbx, k3, k4, hb9⟩ := rec_end HSd.out (Kd.R_below H3.out (below_then (below_drew (Below.refl _ _)) (Nat.le_refl _) hb3)) (Kd.R_below H4.out (below_then (below_drew (Below.refl _ _)) (Nat.le_refl _) hb3))
    go_wp2_with fail
    rw [← hW9]
    clear hW9
    have y0 : W9.cell? ⟨w.heap.size, 0, none⟩ = some (.int .i64 (gB b 0)) := (blk_cell hbx 0).trans rfl
    have y1 : W9.cell? ⟨w.heap.size, 1, none⟩ = some (.int .i64 (recN b)) := (blk_cell hbx 1).trans rfl
    have y2 : W9.cell? ⟨w.heap.size, 2, none⟩ = some (.int .i64 (recM b)) := (blk_cell hbx 2).trans rfl
    have y3 : W9.cell? ⟨w.heap.size, 3, none⟩ = some (.slice A3 (recPl b).length c3) := (blk_cell hbx 3).trans rfl
    have y4 : W9.cell? ⟨w.heap.size, 4, none⟩ = some (.slice A4 (recSt b).length c4) := (blk_cell hbx 4).trans rfl
    refine bodyPost_ret (v := .tuple #[.agg #[.int .i64 (gB b 0), .int .i64 (recN b), .int .i64 (recM b), .slice A3 (recPl b).length c3, .slice A4 (recSt b).length c4], .bool (recIs b)]) ?_ rfl ?_
    ·simp [results, Try.results44, go_sem, y0, y1, y2, y3, y4, hI.out]
    ·exact ⟨_, _, rfl, k3, k4, hb9⟩
   ·have hI : Aside0 (recIs b = false) := ⟨by unfold recIs; rw [decide_eq_false hl0]; rfl⟩
    have hl1 : ((q : Int) == 0) = false := by have := hq.out; rw [beq_eq_false_iff_ne]; omega
    go_wp2_with fail
    refine start_ (n := 21) (S := fun w' => w'.cell? ⟨w.heap.size, 0, none⟩ = some (.int .i64 (gB b 0)) ∧ w'.cell? ⟨w.heap.size, 1, none⟩ = some (.int .i64 (recN b)) ∧ w'.cell? ⟨w.heap.size, 2, none⟩ = some (.int .i64 (recM b)) ∧ w'.cell? ⟨w.heap.size, 3, none⟩ = some (.slice A3 (recPl b).length c3) ∧ w'.cell? ⟨w.heap.size, 4, none⟩ = some (.slice A4 (recSt b).length c4) ∧ w'.cell? ⟨w.heap.size + 1, 0, none⟩ = some (.slice Ar q cr) ∧ w'.cell? ⟨w.heap.size + 1, 1, none⟩ = some (.bool false)) (ds := [19]) #[false, false, false, false, false, false, false, false, false, false, false, false, false, false, false, false, false, false, false, false, false] (by kernel_rfl) rfl rfl ⟨x0, x1, x2, x3, x4, r0, r1⟩ (fun hHeld => ?_)
    refine pureS_ (i := 1) (N := some 51) (v := ?_) (a' := ?_) rfl rfl (by kernel_rfl) (fun _ _ _ h => h) (Or.inl ⟨by rfl, ?_⟩) ?_ ?_
    rotate_left; (· intro w'; go_simp; with_reducible rfl); rotate_left; (· simp only [Act.put, List.setIfInBounds_toArray, List.set_cons_zero, List.set_cons_succ, i64_w, i32_w]; rfl)
    refine pureS_ (i := 2) (N := some 52) (v := ?_) (a' := ?_) rfl rfl (by kernel_rfl) (fun _ _ _ h => h) (Or.inl ⟨by rfl, ?_⟩) ?_ ?_
    rotate_left; (· intro w'; go_simp; with_reducible rfl); rotate_left; (· simp only [Act.put, List.setIfInBounds_toArray, List.set_cons_zero, List.set_cons_succ, i64_w, i32_w]; rfl)
    refine pureS_ (i := 3) (N := some 53) (v := ?_) (a' := ?_) rfl rfl (by kernel_rfl) (fun _ _ _ h => h) (Or.inl ⟨by rfl, ?_⟩) ?_ ?_
    rotate_left; (· intro w'; go_simp; with_reducible rfl); rotate_left; (· simp only [Act.put, List.setIfInBounds_toArray, List.set_cons_zero, List.set_cons_succ, i64_w, i32_w]; rfl)
    refine takeS_ (i := 0) (N := some 50) (v := ?_) (a' := ?_) rfl rfl (by kernel_rfl) (fun _ _ _ h => h) (Or.inl ⟨by rfl, ?_⟩) hHeld ?_ ?_
    rotate_left; (· rintro w' ⟨s0, s1, s2, s3, s4, s5, s6⟩; go_simp; with_reducible rfl); rotate_left; (· simp only [Act.put, List.setIfInBounds_toArray, List.set_cons_zero, List.set_cons_succ, i64_w, i32_w]; rfl)
    refine takeS_ (i := 4) (N := some 54) (v := ?_) (a' := ?_) rfl rfl (by kernel_rfl) (fun _ _ _ h => h) (Or.inl ⟨by rfl, ?_⟩) hHeld ?_ ?_
    rotate_left; (· rintro w' ⟨s0, s1, s2, s3, s4, s5, s6⟩; go_simp; with_reducible rfl); rotate_left; (· simp only [Act.put, List.setIfInBounds_toArray, List.set_cons_zero, List.set_cons_succ, i64_w, i32_w]; rfl)
    refine pureS_ (i := 5) (N := some 55) (v := ?_) (a' := ?_) rfl rfl (by kernel_rfl) (fun _ _ _ h => h) (Or.inl ⟨by rfl, ?_⟩) ?_ ?_
    rotate_left; (· intro w'; go_simp; with_reducible rfl); rotate_left; (· simp only [Act.put, List.setIfInBounds_toArray, List.set_cons_zero, List.set_cons_succ, i64_w, i32_w]; rfl)
    refine pureS_ (i := 6) (N := some 56) (v := ?_) (a' := ?_) rfl rfl (by kernel_rfl) (fun _ _ _ h => h) (Or.inl ⟨by rfl, ?_⟩) ?_ ?_
    rotate_left; (· intro w'; go_simp; with_reducible rfl); rotate_left; (· simp only [Act.put, List.setIfInBounds_toArray, List.set_cons_zero, List.set_cons_succ, i64_w, i32_w]; rfl)
    refine pureS_ (i := 7) (N := some 57) (v := ?_) (a' := ?_) rfl rfl (by kernel_rfl) (fun _ _ _ h => h) (Or.inl ⟨by rfl, ?_⟩) ?_ ?_
    rotate_left; (· intro w'; go_simp; with_reducible rfl); rotate_left; (· simp only [Act.put, List.setIfInBounds_toArray, List.set_cons_zero, List.set_cons_succ, i64_w, i32_w]; rfl)
    refine pureS_ (i := 8) (N := some 58) (v := ?_) (a' := ?_) rfl rfl (by kernel_rfl) (fun _ _ _ h => h) (Or.inl ⟨by rfl, ?_⟩) ?_ ?_
    rotate_left; (· intro w'; go_simp; with_reducible rfl); rotate_left; (· simp only [Act.put, List.setIfInBounds_toArray, List.set_cons_zero, List.set_cons_succ, i64_w, i32_w]; rfl)
    refine pureS_ (i := 9) (N := some 59) (v := ?_) (a' := ?_) rfl rfl (by kernel_rfl) (fun _ _ _ h => h) (Or.inl ⟨by rfl, ?_⟩) ?_ ?_
    rotate_left; (· intro w'; go_simp; with_reducible rfl); rotate_left; (· simp only [Act.put, List.setIfInBounds_toArray, List.set_cons_zero, List.set_cons_succ, i64_w, i32_w]; rfl)
    refine takeS_ (i := 10) (N := some 60) (v := ?_) (a' := ?_) rfl rfl (by kernel_rfl) (fun _ _ _ h => h) (Or.inl ⟨by rfl, ?_⟩) hHeld ?_ ?_
    rotate_left; (· rintro w' ⟨s0, s1, s2, s3, s4, s5, s6⟩; go_simp; with_reducible rfl); rotate_left; (· simp only [Act.put, List.setIfInBounds_toArray, List.set_cons_zero, List.set_cons_succ, i64_w, i32_w]; rfl)
    refine pureS_ (i := 11) (N := some 61) (v := ?_) (a' := ?_) rfl rfl (by kernel_rfl) (fun _ _ _ h => h) (Or.inl ⟨by rfl, ?_⟩) ?_ ?_
    rotate_left; (· intro w'; go_simp; with_reducible rfl); rotate_left; (· simp only [Act.put, List.setIfInBounds_toArray, List.set_cons_zero, List.set_cons_succ, i64_w, i32_w]; rfl)
    refine pureS_ (i := 12) (N := some 62) (v := ?_) (a' := ?_) rfl rfl (by kernel_rfl) (fun _ _ _ h => h) (Or.inl ⟨by rfl, ?_⟩) ?_ ?_
    rotate_left; (· intro w'; go_simp; with_reducible rfl); rotate_left; (· simp only [Act.put, List.setIfInBounds_toArray, List.set_cons_zero, List.set_cons_succ, i64_w, i32_w]; rfl)
    refine pureS_ (i := 13) (N := some 63) (v := ?_) (a' := ?_) rfl rfl (by kernel_rfl) (fun _ _ _ h => h) (Or.inl ⟨by rfl, ?_⟩) ?_ ?_
    rotate_left; (· intro w'; go_simp; with_reducible rfl); rotate_left; (· simp only [Act.put, List.setIfInBounds_toArray, List.set_cons_zero, List.set_cons_succ, i64_w, i32_w]; rfl)
    refine pureS_ (i := 14) (N := some 64) (v := ?_) (a' := ?_) rfl rfl (by kernel_rfl) (fun _ _ _ h => h) (Or.inl ⟨by rfl, ?_⟩) ?_ ?_
    rotate_left; (· intro w'; go_simp; with_reducible rfl); rotate_left; (· simp only [Act.put, List.setIfInBounds_toArray, List.set_cons_zero, List.set_cons_succ, i64_w, i32_w]; rfl)
    refine pureS_ (i := 15) (N := some 65) (v := undef) (a' := ?_) rfl rfl (by kernel_rfl) (fun _ _ _ h => h) (Or.inr ⟨by rfl, rfl⟩) ?_ ?_
    rotate_left
    ·simp only [Act.put, List.setIfInBounds_toArray, List.set_cons_zero, List.set_cons_succ, i64_w, i32_w]
     rfl
    refine pureS_ (i := 16) (N := some 66) (v := undef) (a' := ?_) rfl rfl (by kernel_rfl) (fun _ _ _ h => h) (Or.inr ⟨by rfl, rfl⟩) ?_ ?_
    rotate_left
    ·simp only [Act.put, List.setIfInBounds_toArray, List.set_cons_zero, List.set_cons_succ, i64_w, i32_w]
     rfl
    refine pureS_ (i := 17) (N := some 67) (v := undef) (a' := ?_) rfl rfl (by kernel_rfl) (fun _ _ _ h => h) (Or.inr ⟨by rfl, rfl⟩) ?_ ?_
    rotate_left
    ·simp only [Act.put, List.setIfInBounds_toArray, List.set_cons_zero, List.set_cons_succ, i64_w, i32_w]
     rfl
    refine pureS_ (i := 18) (N := some 68) (v := ?_) (a' := ?_) rfl rfl (by kernel_rfl) (fun _ _ _ h => h) (Or.inl ⟨by rfl, ?_⟩) ?_ ?_
    rotate_left; (· intro w'; go_simp; with_reducible rfl); rotate_left; (· simp only [Act.put, List.setIfInBounds_toArray, List.set_cons_zero, List.set_cons_succ, i64_w, i32_w]; rfl)
    refine lastS_ (i := 19) (N := none) rfl rfl (by kernel_rfl) (by decide) (fun K hK => ?_)
    have f0 := HS.out.frozen 0
    have f1 := HS.out.frozen 1
    have f2 := HS.out.frozen 2
    have f3 := HS.out.frozen 3
    have f4 := HS.out.frozen 4
    obtain ⟨x0, x1, x2, x3, x4, _, _⟩ := hHeld
    refine skip_ (w1 := ?_) (by rfl) rfl ?_ ?_
    rotate_left
    ·go_simp
     rfl
    refine hK.out _ _ ?_
    clear hK K
    refine pureS_ (i := 20) (N := some 3) (v := ?_) (a' := ?_) rfl rfl (by kernel_rfl) (fun _ _ _ h => h) (Or.inl ⟨by rfl, ?_⟩) ?_ ?_
    rotate_left; (· intro w'; go_simp; with_reducible rfl); rotate_left; (· simp only [Act.put, List.setIfInBounds_toArray, List.set_cons_zero, List.set_cons_succ, i64_w, i32_w]; rfl)
    refine done_ (by kernel_rfl) ?_
    obtain ⟨W9, hW9, hbx, k3, k4, hb9⟩ := rec_end HS.out H3.out H4.out
    go_wp2_with fail
    rw [← hW9]
    clear hW9
    have y0 : W9.cell? ⟨w.heap.size, 0, none⟩ = some (.int .i64 (gB b 0)) := (blk_cell hbx 0).trans rfl
    have y1 : W9.cell? ⟨w.heap.size, 1, none⟩ = some (.int .i64 (recN b)) := (blk_cell hbx 1).trans rfl
    have y2 : W9.cell? ⟨w.heap.size, 2, none⟩ = some (.int .i64 (recM b)) := (blk_cell hbx 2).trans rfl
    have y3 : W9.cell? ⟨w.heap.size, 3, none⟩ = some (.slice A3 (recPl b).length c3) := (blk_cell hbx 3).trans rfl
    have y4 : W9.cell? ⟨w.heap.size, 4, none⟩ = some (.slice A4 (recSt b).length c4) := (blk_cell hbx 4).trans rfl
    refine bodyPost_ret (v := .tuple #[.agg #[.int .i64 (gB b 0), .int .i64 (recN b), .int .i64 (recM b), .slice A3 (recPl b).length c3, .slice A4 (recSt b).length c4], .bool (recIs b)]) ?_ rfl ?_
    ·simp [results, Try.results44, go_sem, y0, y1, y2, y3, y4, hI.out]
    ·exact ⟨_, _, rfl, Kd.R_drew k3, Kd.R_drew k4, below_drew hb9⟩
end Go.Proofs.Ytagkgddkpnbfoaa.P
