import Derived.Test.YtceepgleeelohaaDoorHv6
/- Plus of rows. -/
namespace Go.Proofs.YtceepgleeelohaaDoor.P
set_option linter.unusedVariables false
set_option linter.unusedSimpArgs false
open Go.RowKit Go.Proofs.YtceepgleeelohaaDoorW.PrintWords Go.Proofs.YtceepgleeelohaaDoorW.PrintLast Go.Proofs.YtceepgleeelohaaDoorW.PrintMore
/-- a list of rows lies in a slice -/
structure Rws (w : World) (b o : Nat) (vs : List V) : Prop where mk :: (out : b < w.heap.size ∧ ∀ (k : Nat) (hk : k < vs.length) (j : Nat), j < 5 → w.cell? ⟨b, o + k * 5 + j, none⟩ = some (.int .i64 (V.get vs[k] j)))
theorem Rws.below {w W : World} {b o : Nat} {vs : List V} (h : Rws w b o vs) (hb : Below w.heap.size w W) : Rws W b o vs := ⟨Nat.lt_of_lt_of_le h.out.1 hb.size, fun k hk j hj => (hb.cell h.out.1).trans (h.out.2 k hk j hj)⟩
theorem run_mk (n : Nat) (hn : n ≤ 1000) (w : World) : (Instr.makeSlice 51 (.int .i64 0) (.int .i64 (n : Int))).run Tryd.prog w = .ok (.slice (some ⟨w.heap.size, 0, none⟩) 0 n) (w.alloc (.cells (madeCells #[.int .i64 0] n) 3)) := by
  obtain ⟨i, hi, hz⟩ := Option.map_eq_some_iff.1 info3
  simp only [Prod.mk.injEq] at hz
  have h := run_make (P := Tryd.prog) w 51 3 i (.int .i64 0) Tryd.underlying51 hi hz.1 .i64 .i64 0 (n : Int) (by omega) (by omega) (by rw [hz.2.2]; omega) (by omega)
  rw [hz.2.1] at h
  simpa [Value.cells] using h
theorem made_R (W : World) (n : Nat) (hn : n ≤ 1000) : Kd.R (Kd.int .i64) 3 (W.alloc (.cells (madeCells #[.int .i64 0] n) 3)) W.heap.size (fun _ => True) (.slice (some ⟨W.heap.size, 0, none⟩) 0 n) [] := by
  have h2 := World.ownsRow_lit (base := W.heap.size) (e := 3) (size := 1) W (madeCells #[.int .i64 0] n) n (Nat.le_refl _) (by unfold maxLen; omega) (by simp [size_madeCells])
  have h3 := own_take h2 (m := 0) (Nat.zero_le _)
  exact Kd.R_of_own (by simpa [encs] using h3) (fun _ _ => trivial)
theorem take_on {α : Type} (vs : List α) (k : Nat) (h : k < vs.length) : vs.take (k + 1) = vs.take k ++ [vs[k]] := by rw [List.take_add_one, List.getElem?_eq_getElem h]; rfl
set_option maxRecDepth 100000 in
set_option maxHeartbeats 4000000 in
theorem plus1_c (g1 b o cap i : Nat) (A : Option Addr) (vs : List V) (w : World) (hi : i < 5) (hl : vs.length ≤ 30) (hc : vs.length ≤ cap) (l1 : g1 < w.heap.size) (h1 : w.cell? ⟨g1, 0, none⟩ = some (.slice A vs.length cap)) (hA : vs ≠ [] → A = some ⟨b, o, none⟩ ∧ Rws w b o vs) :
    Calls Tryd.prog 31 #[.int .i64 (i : Int), .pointer (some ⟨g1, 0, none⟩)] w fun e_ w' => e_ = .returned (.tuple #[.int .i64 (sumS (vs.map fun v => v.get i)).1, .int .i64 (sumS (vs.map fun v => v.get i)).2]) ∧ Below w.heap.size w w' := by
  have hmk := run_mk vs.length (by omega)
  obtain ⟨gw, hgw⟩ : ∃ g, w.heap.size = g := ⟨_, rfl⟩
  obtain ⟨W0, hW0⟩ : ∃ W, w.alloc (.cells (madeCells #[.int .i64 0] vs.length) 3) = W := ⟨_, rfl⟩
  have HR0 : Aside0 (Kd.R (Kd.int .i64) 3 W0 gw (fun _ => True) (.slice (some ⟨gw, 0, none⟩) 0 vs.length) ((vs.take 0).map fun v => v.get i)) := ⟨by rw [← hW0, ← hgw]; exact made_R w vs.length (by omega)⟩
  have HB0 : Aside0 (Below gw w W0) := ⟨by rw [← hW0, ← hgw]; exact below_alloc (Below.refl _ _) _⟩
  have h1' : W0.cell? ⟨g1, 0, none⟩ = some (.slice A vs.length cap) := by rw [← hW0]; exact ((below_alloc (Below.refl _ _) _ : Below w.heap.size w _).cell l1).trans h1
  have HA := Aside0.mk hA
  have HI := Aside0.mk hi
  have i0 : (0 : Int) ≤ (i : Int) := by omega
  have i5 : (i : Int) < 5 := by omega
  obtain ⟨⟨r1, r2⟩, hsum⟩ : ∃ r, sumS (vs.map fun v => v.get i) = r := ⟨_, rfl⟩
  rw [hsum]
  have HS := Aside0.mk hsum
  clear hA hi hsum
  go_enter Tryd.func31, Tryd.ntmps31
  go_wp2_with fail
  clear hmk h1 h1'
  go_loopw [5, 13] (fun v u wr => ∃ k : Nat, k ≤ vs.length ∧ u = .int .i64 k ∧ Aside0 (Kd.R (Kd.int .i64) 3 wr gw (fun _ => True) v ((vs.take k).map fun v => v.get i)) ∧ Aside0 (Below gw w wr)) (fun _ u _ => vs.length - (intOf u).toNat)
  case atStart => exact ⟨0, Nat.zero_le _, rfl, HR0, HB0⟩
  case round =>
    obtain ⟨k, hk, rfl, HO, HB⟩ := hrel
    by_cases hlt : k < vs.length
    · obtain ⟨rfl, hrw⟩ := HA.out (by intro h; rw [h] at hlt; exact absurd hlt (Nat.not_lt_zero _))
      have hR := hrw.below (hgw ▸ HB.out)
      obtain ⟨x, hx⟩ : ∃ x, vs[k] = x := ⟨_, rfl⟩
      have hcell := fun j hj => hR.out.2 k hlt j hj
      rw [hx] at hcell
      obtain ⟨x0, x1, x2, x3, x4⟩ := x
      have c0_ : wr.cell? ⟨b, o + k * 5, none⟩ = some (.int .i64 x0) := hcell 0 (by decide)
      have c1_ : wr.cell? ⟨b, o + k * 5 + 1, none⟩ = some (.int .i64 x1) := hcell 1 (by decide)
      have c2_ : wr.cell? ⟨b, o + k * 5 + 2, none⟩ = some (.int .i64 x2) := hcell 2 (by decide)
      have c3_ : wr.cell? ⟨b, o + k * 5 + 3, none⟩ = some (.int .i64 x3) := hcell 3 (by decide)
      have c4_ : wr.cell? ⟨b, o + k * 5 + 4, none⟩ = some (.int .i64 x4) := hcell 4 (by decide)
      obtain ⟨h, hh⟩ : ∃ h, wr.heap.size = h := ⟨_, rfl⟩
      obtain ⟨W1, hW1⟩ : ∃ W, wr.alloc (.cells #[.int .i64 0, .int .i64 0, .int .i64 0, .int .i64 0, .int .i64 0] 23) = W := ⟨_, rfl⟩
      have z1_ : At W1 h 0 0 0 0 0 := by rw [← hW1, ← hh]; exact At.new _ _ _ _ _ _
      obtain ⟨W2, hW2⟩ : ∃ W, (((((W1).setCell ⟨h, 0, none⟩ (.int .i64 x0)).setCell ⟨h, 1, none⟩ (.int .i64 x1)).setCell ⟨h, 2, none⟩ (.int .i64 x2)).setCell ⟨h, 3, none⟩ (.int .i64 x3)).setCell ⟨h, 4, none⟩ (.int .i64 x4) = W := ⟨_, rfl⟩
      have z2_ : At W2 h x0 x1 x2 x3 x4 := by rw [← hW2]; exact z1_.five _ _ _ _ _
      have q2_ : Below wr.heap.size wr W2 := by rw [← hW2, ← hW1]; exact below_five (below_alloc (Below.refl _ _) _) (Nat.le_of_eq hh) _ _ _ _ _
      have y_ := z2_.at_ i HI.out
      obtain ⟨y, hy⟩ : ∃ y, V.get ⟨x0, x1, x2, x3, x4⟩ i = y := ⟨_, rfl⟩
      rw [hy] at y_
      obtain ⟨A6, c6, e6⟩ := Kd.R_slice HO.out
      have hl6 : ((vs.take k).map fun v => v.get i).length = k := by simp; omega
      have HT : Aside0 ((vs.take (k + 1)).map (fun v => v.get i) = ((vs.take k).map fun v => v.get i) ++ [y]) := ⟨by rw [take_on vs k hlt, List.map_append, List.map_cons, List.map_nil, hx, hy]⟩
      rw [hl6] at e6
      subst e6
      have HO2 := Aside0.mk (Kd.R_below HO.out q2_)
      have HB2 := Aside0.mk (bk HB.out (hgw ▸ HB.out.size) q2_)
      have hz : gw ≤ W2.heap.size := hgw ▸ HB2.out.size
      have HL : Aside0 (((vs.take k).map fun v => v.get i).length + 1 ≤ 31) := ⟨by rw [hl6]; omega⟩
      have f0_ := z1_.fz 0
      have k0_ := z1_.cell_0
      have f1_ := z1_.fz 1
      have k1_ := z1_.cell_1
      have f2_ := z1_.fz 2
      have k2_ := z1_.cell_2
      have f3_ := z1_.fz 3
      have k3_ := z1_.cell_3
      have f4_ := z1_.fz 4
      have k4_ := z1_.cell_4
      clear hcell hR hrw hx hy hl6 HO HB z1_ z2_ q2_
      go_wp2_with ((at_builtin; refine Kd.R_append (Kd.int .i64) (w0 := w) gw rfl (.tmp 17) (.tmp 21) 51 3 (.int .i64 0) 8 rfl Tryd.underlying51 info3 rfl (by decide) (by decide) (.slice A6 k c6) ((vs.take k).map fun v => v.get i) y [.int .i64 y] (fun _ => True) (fun _ => False) ?aE rfl rfl (fun _ h => h.elim) (fun _ _ => trivial) HO2.out HB2.out hz (by have := HL.out; omega) ?_; (case aE => first | rfl | (go_simp; done) | (simp; done)); intro v7 W7 HV7 HB7 hg7 hat7))
      have HO7 : Aside0 (Kd.R (Kd.int .i64) 3 W7 gw (fun _ => True) v7 ((vs.take (k + 1)).map fun v => v.get i)) := ⟨by rw [HT.out]; exact HV7⟩
      have HB8 := Aside0.mk HB7
      clear HV7 HB7 hg7 hat7 HB2 HO2 HT hz HL
      go_roundw
      case rel => exact ⟨k + 1, by omega, by go_num, HO7, HB8⟩
      case measure => simp [intOf]; omega
    · have hq : k = vs.length := by omega
      subst hq
      obtain ⟨A6, c6, e6⟩ := Kd.R_slice HO.out
      have hl6 : ((vs.take vs.length).map fun v => v.get i).length = vs.length := by simp
      have hC := Kd.R_reads' (by rw [e6] at HO; exact HO.out)
      rw [hl6] at e6
      subst e6
      have hLL : (vs.take vs.length).map (fun v => v.get i) = vs.map fun v => v.get i := by rw [List.take_length]
      have QA := quant_Add.calls 40 A6 c6 ((vs.take vs.length).map fun v => v.get i) r1 r2 wr hC.2.2 (by have := hC.2.1; omega) (by rw [hLL, Add_f _ (by rw [List.length_map]; exact hl) 40 (Nat.le_refl _), HS.out])
      rw [hl6] at QA
      have HQ := Aside0.mk QA
      clear QA hC hLL hl6 HO
      go_wp2_with fail
      refine HQ.out.mono ?_
      rintro _ W2 ⟨rfl, hb⟩
      have HB2 := Aside0.mk (bk HB.out (hgw ▸ HB.out.size) hb)
      clear hb HQ HB
      go_wp2_with fail
      go_ret2
      exact ⟨rfl, by first | exact HB2.out | exact below_is hgw HB2.out⟩
def V.plus (vs : List V) : V × Int := eachS fun i => sumS (vs.map fun v => v.get i)
set_option maxRecDepth 100000 in
set_option maxHeartbeats 4000000 in
theorem plus_c (b o cap : Nat) (A : Option Addr) (vs : List V) (w : World) (hl : vs.length ≤ 30) (hc : vs.length ≤ cap) (hA : vs ≠ [] → A = some ⟨b, o, none⟩ ∧ Rws w b o vs) :
    Calls Tryd.prog 12 #[.slice A vs.length cap] w fun e_ w' => e_ = .returned (.tuple #[(V.plus vs).1.val, .int .i64 (V.plus vs).2]) ∧ Below w.heap.size w w' := by
  obtain ⟨g, hg⟩ : ∃ g, w.heap.size = g := ⟨_, rfl⟩
  obtain ⟨W0, hW0⟩ : ∃ W, (w.alloc (.cells #[.slice A vs.length cap] 45)).alloc (.cells #[.int .i64 0, .int .i64 0, .int .i64 0, .int .i64 0, .int .i64 0] 23) = W := ⟨_, rfl⟩
  have s0_ : W0.heap[g]? = some (.cells #[.slice A vs.length cap] 45 (0, 0)) := by rw [← hW0, ← hg]; exact blk_alloc (heap_alloc_new w _) _
  have z0_ : At W0 (g + 1) 0 0 0 0 0 := by rw [← hW0, ← hg]; simpa using At.new (w.alloc (.cells #[.slice A vs.length cap] 45)) 0 0 0 0 0
  have b0_ : Below g w W0 := by rw [← hW0, ← hg]; exact below_alloc (below_alloc (Below.refl _ _) _) _
  have hz_ : W0.heap.size = g + 2 := by rw [← hW0, ← hg]; simp
  have C := each31_c g (fun i => sumS (vs.map fun v => v.get i)) W0 (fun i hi W hb => plus1_c g b o cap i A vs W hi hl hc (Nat.lt_of_lt_of_le (show g < W0.heap.size by omega) hb.size) ((blk_cell ((hb.block g (by omega)).trans s0_) 0).trans rfl) (fun h => ⟨(hA h).1, (hA h).2.below (hg ▸ (bk b0_ (by omega) hb))⟩))
  obtain ⟨R, hR⟩ : ∃ R, V.plus vs = R := ⟨_, rfl⟩
  have hR' := hR
  unfold V.plus at hR'
  rw [hR'] at C
  rw [hR]
  clear hR hR'
  obtain ⟨⟨x0, x1, x2, x3, x4⟩, er⟩ := R
  dsimp only at C ⊢
  have CC := Aside0.mk C
  clear C s0_ hA
  go_enter Tryd.func12, Tryd.ntmps12
  go_wp2_with fail
  refine CC.out.mono ?_
  rintro _ V ⟨rfl, hb⟩
  have f0_ := (z0_.below hb).fz 0
  have k0_ := (z0_.below hb).cell_0
  have f1_ := (z0_.below hb).fz 1
  have k1_ := (z0_.below hb).cell_1
  have f2_ := (z0_.below hb).fz 2
  have k2_ := (z0_.below hb).cell_2
  have f3_ := (z0_.below hb).fz 3
  have k3_ := (z0_.below hb).cell_3
  have f4_ := (z0_.below hb).fz 4
  have k4_ := (z0_.below hb).cell_4
  have z1_ := z0_.below hb
  have b1_ := bk b0_ (by omega) hb
  clear hb z0_ b0_
  go_wp2_with fail
  (try simp only [Exit.inBlock, Exit.then])
  exact bodyPost_ret (results_vt rfl _ _ (g + 1) rfl (z1_.five _ _ _ _ _)) rfl ⟨rfl, by first | exact below_five b1_ (by omega) _ _ _ _ _ | exact below_is hg (below_five b1_ (by omega) _ _ _ _ _)⟩
end Go.Proofs.YtceepgleeelohaaDoor.P
