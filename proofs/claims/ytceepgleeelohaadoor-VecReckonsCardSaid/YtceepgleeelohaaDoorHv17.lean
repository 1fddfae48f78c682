import Derived.Test.YtceepgleeelohaaDoorHv16
/- The document's Plus of rows. -/
namespace Go.Proofs.YtceepgleeelohaaDoor.P
set_option linter.unusedVariables false
set_option linter.unusedSimpArgs false
open Go.RowKit Go.Proofs.YtceepgleeelohaaDoorW.PrintWords Go.Proofs.YtceepgleeelohaaDoorW.PrintLast Go.Proofs.YtceepgleeelohaaDoorW.PrintMore
theorem refAdd_c (A : Option Addr) (c : Nat) (l : List Int) (n e : Int) (W : World) (hr : Kd.C (Kd.int .i64) W A l.length l) (hc : l.length ≤ c) (hl : l.length ≤ 30) (hw : ∀ x ∈ l, x ≤ 9223372036854775807) (h : sumS l = (n, e)) :
    Calls Tryd.prog 47 #[.slice A l.length c] W fun e_ w' => e_ = .returned (.tuple #[.int .i64 n, .int .i64 e]) ∧ Below W.heap.size W w' :=
  (drayageref01_Add.calls 80 A c l n e W hr hc ((refAdd_f l hl hw 80 (Nat.le_refl _)).trans (congrArg some h))).mono fun _ _ h => ⟨h.1, h.2.below⟩
set_option maxRecDepth 100000 in
set_option maxHeartbeats 4000000 in
theorem rplus_c (b o cap : Nat) (A : Option Addr) (vs : List V) (w : World) (hl : vs.length ≤ 30) (hc : vs.length ≤ cap) (hA : vs ≠ [] → A = some ⟨b, o, none⟩ ∧ Rws w b o vs) (hw : ∀ v ∈ vs, ∀ i, V.get v i ≤ 9223372036854775807) :
    Calls Tryd.prog 21 #[.slice A vs.length cap] w fun e_ w' => e_ = .returned (.tuple #[(V.plus vs).1.val, .int .i64 (V.plus vs).2]) ∧ Below w.heap.size w w' := by
  obtain ⟨g, hg⟩ : ∃ g, w.heap.size = g := ⟨_, rfl⟩
  obtain ⟨W0, hW0⟩ : ∃ W, (w.alloc (.cells #[.int .i64 0, .int .i64 0, .int .i64 0, .int .i64 0, .int .i64 0] 23)).alloc (.cells #[.int .i64 0, .int .i64 0, .int .i64 0, .int .i64 0, .int .i64 0] 23) = W := ⟨_, rfl⟩
  have z0_ : At W0 g 0 0 0 0 0 := by rw [← hW0, ← hg]; exact (At.new _ _ _ _ _ _).alloc _
  have a0_ : At W0 (g + 1) 0 0 0 0 0 := by rw [← hW0, ← hg]; simpa using At.new (w.alloc (.cells #[.int .i64 0, .int .i64 0, .int .i64 0, .int .i64 0, .int .i64 0] 23)) 0 0 0 0 0
  have b0_ : Below g w W0 := by rw [← hW0, ← hg]; exact below_alloc (below_alloc (Below.refl _ _) _) _
  obtain ⟨R, hR⟩ : ∃ R, V.plus vs = R := ⟨_, rfl⟩
  rw [hR]
  unfold V.plus eachS at hR
  replace hR : ((if (sumS (vs.map fun v => v.get 0)).2 ≠ 0 then (⟨0, 0, 0, 0, 0⟩, (sumS (vs.map fun v => v.get 0)).2) else (if (sumS (vs.map fun v => v.get 1)).2 ≠ 0 then (⟨0, 0, 0, 0, 0⟩, (sumS (vs.map fun v => v.get 1)).2) else (if (sumS (vs.map fun v => v.get 2)).2 ≠ 0 then (⟨0, 0, 0, 0, 0⟩, (sumS (vs.map fun v => v.get 2)).2) else (if (sumS (vs.map fun v => v.get 3)).2 ≠ 0 then (⟨0, 0, 0, 0, 0⟩, (sumS (vs.map fun v => v.get 3)).2) else (if (sumS (vs.map fun v => v.get 4)).2 ≠ 0 then (⟨0, 0, 0, 0, 0⟩, (sumS (vs.map fun v => v.get 4)).2) else (⟨(sumS (vs.map fun v => v.get 0)).1, (sumS (vs.map fun v => v.get 1)).1, (sumS (vs.map fun v => v.get 2)).1, (sumS (vs.map fun v => v.get 3)).1, (sumS (vs.map fun v => v.get 4)).1⟩, 0)))))) : V × Int) = R := hR
  obtain ⟨n0, e0, q0⟩ : ∃ n_ q_, sumS (vs.map fun v => v.get 0) = (n_, q_) := ⟨_, _, rfl⟩
  rw [q0] at hR
  have Q0 := Aside0.mk q0
  clear q0
  obtain ⟨n1, e1, q1⟩ : ∃ n_ q_, sumS (vs.map fun v => v.get 1) = (n_, q_) := ⟨_, _, rfl⟩
  rw [q1] at hR
  have Q1 := Aside0.mk q1
  clear q1
  obtain ⟨n2, e2, q2⟩ : ∃ n_ q_, sumS (vs.map fun v => v.get 2) = (n_, q_) := ⟨_, _, rfl⟩
  rw [q2] at hR
  have Q2 := Aside0.mk q2
  clear q2
  obtain ⟨n3, e3, q3⟩ : ∃ n_ q_, sumS (vs.map fun v => v.get 3) = (n_, q_) := ⟨_, _, rfl⟩
  rw [q3] at hR
  have Q3 := Aside0.mk q3
  clear q3
  obtain ⟨n4, e4, q4⟩ : ∃ n_ q_, sumS (vs.map fun v => v.get 4) = (n_, q_) := ⟨_, _, rfl⟩
  rw [q4] at hR
  have Q4 := Aside0.mk q4
  clear q4
  dsimp only at hR
  have R0 := Aside0.mk hR
  have HA := Aside0.mk hA
  have HW := Aside0.mk (And.intro hw (And.intro hl hc))
  clear hR hA hw hc
  go_enter Tryd.func21, Tryd.ntmps21
  go_wp2_with fail
  refine wp_loop_rounds 6 ?_
  rw [rounds_succ]
  go_wp2_with fail
  go_loopw [6, 7] (fun v u wr => ∃ k : Nat, k ≤ vs.length ∧ u = .int .i64 k ∧ Aside0 (Kd.R (Kd.int .i64) 3 wr W0.heap.size (fun _ => True) v ((vs.take k).map fun v => v.get 0)) ∧ Aside0 (Below W0.heap.size W0 wr)) (fun _ u _ => vs.length - (intOf u).toNat)
  case atStart => exact ⟨0, Nat.zero_le _, rfl, ⟨by simpa using Kd.R_nil _ _ _ _ _⟩, ⟨Below.refl _ _⟩⟩
  obtain ⟨k, hk, rfl, HO, HB⟩ := hrel
  by_cases hlt : k < vs.length
  · obtain ⟨rfl, hrw⟩ := HA.out (by intro h; rw [h] at hlt; exact absurd hlt (Nat.not_lt_zero _))
    have hR := (hrw.below (hg ▸ b0_)).below HB.out
    have c_ : wr.cell? ⟨b, o + k * 5, none⟩ = some (.int .i64 (V.get vs[k] 0)) := hR.out.2 k hlt 0 (by decide)
    obtain ⟨y, hy⟩ : ∃ y, V.get vs[k] 0 = y := ⟨_, rfl⟩
    rw [hy] at c_
    obtain ⟨A6, c6, e6⟩ := Kd.R_slice HO.out
    have hl6 : ((vs.take k).map fun v => v.get 0).length = k := by simp; omega
    have HT : Aside0 ((vs.take (k + 1)).map (fun v => v.get 0) = ((vs.take k).map fun v => v.get 0) ++ [y]) := ⟨by rw [take_on vs k hlt, List.map_append, List.map_cons, List.map_nil, hy]⟩
    rw [hl6] at e6
    subst e6
    have HL : Aside0 (((vs.take k).map fun v => v.get 0).length + 1 ≤ 31) := ⟨by rw [hl6]; omega⟩
    have hz : W0.heap.size ≤ wr.heap.size := HB.out.size
    have k0 : (0 : Int) ≤ (k : Int) := by omega
    clear hR hrw hy hl6
    go_wp2_with ((at_builtin; refine Kd.R_append (Kd.int .i64) (w0 := W0) W0.heap.size rfl (.tmp 20) (.tmp 27) 51 3 (.int .i64 0) 8 rfl Tryd.underlying51 info3 rfl (by decide) (by decide) (.slice A6 k c6) ((vs.take k).map fun v => v.get 0) y [.int .i64 y] (fun _ => True) (fun _ => False) ?aE rfl rfl (fun _ h => h.elim) (fun _ _ => trivial) HO.out HB.out hz (by have := HL.out; omega) ?_; (case aE => first | rfl | (go_simp; done) | (simp; done)); intro v7 W7 HV7 HB7 hg7 hat7))
    have HO7 : Aside0 (Kd.R (Kd.int .i64) 3 W7 W0.heap.size (fun _ => True) v7 ((vs.take (k + 1)).map fun v => v.get 0)) := ⟨by rw [HT.out]; exact HV7⟩
    have HB8 := Aside0.mk HB7
    clear HV7 HB7 hg7 hat7 HB HO HT hz HL
    go_roundw
    case rel => exact ⟨k + 1, by omega, by go_num, HO7, HB8⟩
    case measure => simp [intOf]; omega
  have hq : k = vs.length := by omega
  subst hq
  obtain ⟨A6, c6, e6⟩ := Kd.R_slice HO.out
  have hl6 : ((vs.take vs.length).map fun v => v.get 0).length = vs.length := by simp
  have hC := Kd.R_reads' (by rw [e6] at HO; exact HO.out)
  rw [hl6] at e6
  subst e6
  have hLL : (vs.take vs.length).map (fun v => v.get 0) = vs.map fun v => v.get 0 := by rw [List.take_length]
  have QA := refAdd_c A6 c6 ((vs.take vs.length).map fun v => v.get 0) n0 e0 wr hC.2.2 (by have := hC.2.1; omega) (by rw [hl6]; exact HW.out.2.1) (by
    rw [hLL]
    intro x hx
    obtain ⟨v, hv, rfl⟩ := List.mem_map.1 hx
    exact HW.out.1 v hv _) (by rw [hLL]; exact Q0.out)
  rw [hl6] at QA
  have HQ := Aside0.mk QA
  clear QA hC hLL hl6 HO
  go_wp2_with fail
  refine HQ.out.mono ?_
  rintro _ V0 ⟨rfl, hb0⟩
  have hb : Below W0.heap.size W0 V0 := HB.out.trans (hb0.mono HB.out.size)
  clear hb0 HQ HB
  have k_ := (a0_.below hb).cell_0
  have f_ := (a0_.below hb).fz 0
  by_cases h0 : e0 ≠ 0
  · have hr := R0.out
    rw [if_pos h0] at hr
    subst hr
    clear R0
    have h0b : (e0 != 0) = true := bne_iff_ne.mpr h0
    clear h0
    have z1_ := z0_.below hb
    have b1_ := bk b0_ (Nat.le_of_lt z0_.lt) hb
    clear a0_ z0_ b0_ hb
    have f0_ := z1_.fz 0
    have k0_ := z1_.cell_0
    have f1_ := z1_.fz 1
    have k1_ := z1_.cell_1
    have f2_ := z1_.fz 2
    have k2_ := z1_.cell_2
    have f3_ := z1_.fz 3
    have k3_ := z1_.cell_3
    have f4_ := z1_.fz 4
    have k4_ := z1_.cell_4
    go_wp2_with fail
    (try simp only [Exit.inBlock, Exit.then])
    exact bodyPost_ret (results_vt rfl _ _ g rfl (z1_.five _ _ _ _ _)) rfl ⟨rfl, by first | exact below_five b1_ (Nat.le_refl _) _ _ _ _ _ | exact below_is hg (below_five b1_ (Nat.le_refl _) _ _ _ _ _)⟩
  have R1 := Aside0.mk ((if_neg h0).symm.trans R0.out)
  clear R0
  have h0b : (e0 != 0) = false := by simpa using h0
  clear h0
  obtain ⟨W1, hX1⟩ : ∃ W, V0.setCell ⟨g + 1, 0, none⟩ (.int .i64 n0) = W := ⟨_, rfl⟩
  have a1_ : At W1 (g + 1) n0 0 0 0 0 := by rw [← hX1]; exact (a0_.below hb).set_0 _
  have z1_ : At W1 g 0 0 0 0 0 := by rw [← hX1]; exact (z0_.below hb).other _ _ (by omega)
  have b1_ : Below g w W1 := by rw [← hX1]; exact (bk b0_ (Nat.le_of_lt z0_.lt) hb).setCell (Nat.le_succ g) _
  clear a0_ z0_ b0_ hb
  go_wp2_with fail
  clear k_ f_ h0b
  rw [rounds_succ]
  go_wp2_with fail
  clear hX1
  go_loopw [6, 7] (fun v u wr => ∃ k : Nat, k ≤ vs.length ∧ u = .int .i64 k ∧ Aside0 (Kd.R (Kd.int .i64) 3 wr W1.heap.size (fun _ => True) v ((vs.take k).map fun v => v.get 1)) ∧ Aside0 (Below W1.heap.size W1 wr)) (fun _ u _ => vs.length - (intOf u).toNat)
  case atStart => exact ⟨0, Nat.zero_le _, rfl, ⟨by simpa using Kd.R_nil _ _ _ _ _⟩, ⟨Below.refl _ _⟩⟩
  obtain ⟨k, hk, rfl, HO, HB⟩ := hrel
  by_cases hlt : k < vs.length
  · obtain ⟨rfl, hrw⟩ := HA.out (by intro h; rw [h] at hlt; exact absurd hlt (Nat.not_lt_zero _))
    have hR := (hrw.below (hg ▸ b1_)).below HB.out
    have c_ : wr.cell? ⟨b, o + k * 5 + 1, none⟩ = some (.int .i64 (V.get vs[k] 1)) := hR.out.2 k hlt 1 (by decide)
    obtain ⟨y, hy⟩ : ∃ y, V.get vs[k] 1 = y := ⟨_, rfl⟩
    rw [hy] at c_
    obtain ⟨A6, c6, e6⟩ := Kd.R_slice HO.out
    have hl6 : ((vs.take k).map fun v => v.get 1).length = k := by simp; omega
    have HT : Aside0 ((vs.take (k + 1)).map (fun v => v.get 1) = ((vs.take k).map fun v => v.get 1) ++ [y]) := ⟨by rw [take_on vs k hlt, List.map_append, List.map_cons, List.map_nil, hy]⟩
    rw [hl6] at e6
    subst e6
    have HL : Aside0 (((vs.take k).map fun v => v.get 1).length + 1 ≤ 31) := ⟨by rw [hl6]; omega⟩
    have hz : W1.heap.size ≤ wr.heap.size := HB.out.size
    have k0 : (0 : Int) ≤ (k : Int) := by omega
    clear hR hrw hy hl6
    go_wp2_with ((at_builtin; refine Kd.R_append (Kd.int .i64) (w0 := W1) W1.heap.size rfl (.tmp 20) (.tmp 27) 51 3 (.int .i64 0) 8 rfl Tryd.underlying51 info3 rfl (by decide) (by decide) (.slice A6 k c6) ((vs.take k).map fun v => v.get 1) y [.int .i64 y] (fun _ => True) (fun _ => False) ?aE rfl rfl (fun _ h => h.elim) (fun _ _ => trivial) HO.out HB.out hz (by have := HL.out; omega) ?_; (case aE => first | rfl | (go_simp; done) | (simp; done)); intro v7 W7 HV7 HB7 hg7 hat7))
    have HO7 : Aside0 (Kd.R (Kd.int .i64) 3 W7 W1.heap.size (fun _ => True) v7 ((vs.take (k + 1)).map fun v => v.get 1)) := ⟨by rw [HT.out]; exact HV7⟩
    have HB8 := Aside0.mk HB7
    clear HV7 HB7 hg7 hat7 HB HO HT hz HL
    go_roundw
    case rel => exact ⟨k + 1, by omega, by go_num, HO7, HB8⟩
    case measure => simp [intOf]; omega
  have hq : k = vs.length := by omega
  subst hq
  obtain ⟨A6, c6, e6⟩ := Kd.R_slice HO.out
  have hl6 : ((vs.take vs.length).map fun v => v.get 1).length = vs.length := by simp
  have hC := Kd.R_reads' (by rw [e6] at HO; exact HO.out)
  rw [hl6] at e6
  subst e6
  have hLL : (vs.take vs.length).map (fun v => v.get 1) = vs.map fun v => v.get 1 := by rw [List.take_length]
  have QA := refAdd_c A6 c6 ((vs.take vs.length).map fun v => v.get 1) n1 e1 wr hC.2.2 (by have := hC.2.1; omega) (by rw [hl6]; exact HW.out.2.1) (by
    rw [hLL]
    intro x hx
    obtain ⟨v, hv, rfl⟩ := List.mem_map.1 hx
    exact HW.out.1 v hv _) (by rw [hLL]; exact Q1.out)
  rw [hl6] at QA
  have HQ := Aside0.mk QA
  clear QA hC hLL hl6 HO
  go_wp2_with fail
  refine HQ.out.mono ?_
  rintro _ V1 ⟨rfl, hb0⟩
  have hb : Below W1.heap.size W1 V1 := HB.out.trans (hb0.mono HB.out.size)
  clear hb0 HQ HB
  have k_ := (a1_.below hb).cell_1
  have f_ := (a1_.below hb).fz 1
  by_cases h1 : e1 ≠ 0
  · have hr := R1.out
    rw [if_pos h1] at hr
    subst hr
    clear R1
    have h1b : (e1 != 0) = true := bne_iff_ne.mpr h1
    clear h1
    have z2_ := z1_.below hb
    have b2_ := bk b1_ (Nat.le_of_lt z1_.lt) hb
    clear a1_ z1_ b1_ hb
    have f0_ := z2_.fz 0
    have k0_ := z2_.cell_0
    have f1_ := z2_.fz 1
    have k1_ := z2_.cell_1
    have f2_ := z2_.fz 2
    have k2_ := z2_.cell_2
    have f3_ := z2_.fz 3
    have k3_ := z2_.cell_3
    have f4_ := z2_.fz 4
    have k4_ := z2_.cell_4
    go_wp2_with fail
    (try simp only [Exit.inBlock, Exit.then])
    exact bodyPost_ret (results_vt rfl _ _ g rfl (z2_.five _ _ _ _ _)) rfl ⟨rfl, by first | exact below_five b2_ (Nat.le_refl _) _ _ _ _ _ | exact below_is hg (below_five b2_ (Nat.le_refl _) _ _ _ _ _)⟩
  have R2 := Aside0.mk ((if_neg h1).symm.trans R1.out)
  clear R1
  have h1b : (e1 != 0) = false := by simpa using h1
  clear h1
  obtain ⟨W2, hX2⟩ : ∃ W, V1.setCell ⟨g + 1, 1, none⟩ (.int .i64 n1) = W := ⟨_, rfl⟩
  have a2_ : At W2 (g + 1) n0 n1 0 0 0 := by rw [← hX2]; exact (a1_.below hb).set_1 _
  have z2_ : At W2 g 0 0 0 0 0 := by rw [← hX2]; exact (z1_.below hb).other _ _ (by omega)
  have b2_ : Below g w W2 := by rw [← hX2]; exact (bk b1_ (Nat.le_of_lt z1_.lt) hb).setCell (Nat.le_succ g) _
  clear a1_ z1_ b1_ hb
  go_wp2_with fail
  clear k_ f_ h1b
  rw [rounds_succ]
  go_wp2_with fail
  clear hX2
  go_loopw [6, 7] (fun v u wr => ∃ k : Nat, k ≤ vs.length ∧ u = .int .i64 k ∧ Aside0 (Kd.R (Kd.int .i64) 3 wr W2.heap.size (fun _ => True) v ((vs.take k).map fun v => v.get 2)) ∧ Aside0 (Below W2.heap.size W2 wr)) (fun _ u _ => vs.length - (intOf u).toNat)
  case atStart => exact ⟨0, Nat.zero_le _, rfl, ⟨by simpa using Kd.R_nil _ _ _ _ _⟩, ⟨Below.refl _ _⟩⟩
  obtain ⟨k, hk, rfl, HO, HB⟩ := hrel
  by_cases hlt : k < vs.length
  · obtain ⟨rfl, hrw⟩ := HA.out (by intro h; rw [h] at hlt; exact absurd hlt (Nat.not_lt_zero _))
    have hR := (hrw.below (hg ▸ b2_)).below HB.out
    have c_ : wr.cell? ⟨b, o + k * 5 + 2, none⟩ = some (.int .i64 (V.get vs[k] 2)) := hR.out.2 k hlt 2 (by decide)
    obtain ⟨y, hy⟩ : ∃ y, V.get vs[k] 2 = y := ⟨_, rfl⟩
    rw [hy] at c_
    obtain ⟨A6, c6, e6⟩ := Kd.R_slice HO.out
    have hl6 : ((vs.take k).map fun v => v.get 2).length = k := by simp; omega
    have HT : Aside0 ((vs.take (k + 1)).map (fun v => v.get 2) = ((vs.take k).map fun v => v.get 2) ++ [y]) := ⟨by rw [take_on vs k hlt, List.map_append, List.map_cons, List.map_nil, hy]⟩
    rw [hl6] at e6
    subst e6
    have HL : Aside0 (((vs.take k).map fun v => v.get 2).length + 1 ≤ 31) := ⟨by rw [hl6]; omega⟩
    have hz : W2.heap.size ≤ wr.heap.size := HB.out.size
    have k0 : (0 : Int) ≤ (k : Int) := by omega
    clear hR hrw hy hl6
    go_wp2_with ((at_builtin; refine Kd.R_append (Kd.int .i64) (w0 := W2) W2.heap.size rfl (.tmp 20) (.tmp 27) 51 3 (.int .i64 0) 8 rfl Tryd.underlying51 info3 rfl (by decide) (by decide) (.slice A6 k c6) ((vs.take k).map fun v => v.get 2) y [.int .i64 y] (fun _ => True) (fun _ => False) ?aE rfl rfl (fun _ h => h.elim) (fun _ _ => trivial) HO.out HB.out hz (by have := HL.out; omega) ?_; (case aE => first | rfl | (go_simp; done) | (simp; done)); intro v7 W7 HV7 HB7 hg7 hat7))
    have HO7 : Aside0 (Kd.R (Kd.int .i64) 3 W7 W2.heap.size (fun _ => True) v7 ((vs.take (k + 1)).map fun v => v.get 2)) := ⟨by rw [HT.out]; exact HV7⟩
    have HB8 := Aside0.mk HB7
    clear HV7 HB7 hg7 hat7 HB HO HT hz HL
    go_roundw
    case rel => exact ⟨k + 1, by omega, by go_num, HO7, HB8⟩
    case measure => simp [intOf]; omega
  have hq : k = vs.length := by omega
  subst hq
  obtain ⟨A6, c6, e6⟩ := Kd.R_slice HO.out
  have hl6 : ((vs.take vs.length).map fun v => v.get 2).length = vs.length := by simp
  have hC := Kd.R_reads' (by rw [e6] at HO; exact HO.out)
  rw [hl6] at e6
  subst e6
  have hLL : (vs.take vs.length).map (fun v => v.get 2) = vs.map fun v => v.get 2 := by rw [List.take_length]
  have QA := refAdd_c A6 c6 ((vs.take vs.length).map fun v => v.get 2) n2 e2 wr hC.2.2 (by have := hC.2.1; omega) (by rw [hl6]; exact HW.out.2.1) (by
    rw [hLL]
    intro x hx
    obtain ⟨v, hv, rfl⟩ := List.mem_map.1 hx
    exact HW.out.1 v hv _) (by rw [hLL]; exact Q2.out)
  rw [hl6] at QA
  have HQ := Aside0.mk QA
  clear QA hC hLL hl6 HO
  go_wp2_with fail
  refine HQ.out.mono ?_
  rintro _ V2 ⟨rfl, hb0⟩
  have hb : Below W2.heap.size W2 V2 := HB.out.trans (hb0.mono HB.out.size)
  clear hb0 HQ HB
  have k_ := (a2_.below hb).cell_2
  have f_ := (a2_.below hb).fz 2
  by_cases h2 : e2 ≠ 0
  · have hr := R2.out
    rw [if_pos h2] at hr
    subst hr
    clear R2
    have h2b : (e2 != 0) = true := bne_iff_ne.mpr h2
    clear h2
    have z3_ := z2_.below hb
    have b3_ := bk b2_ (Nat.le_of_lt z2_.lt) hb
    clear a2_ z2_ b2_ hb
    have f0_ := z3_.fz 0
    have k0_ := z3_.cell_0
    have f1_ := z3_.fz 1
    have k1_ := z3_.cell_1
    have f2_ := z3_.fz 2
    have k2_ := z3_.cell_2
    have f3_ := z3_.fz 3
    have k3_ := z3_.cell_3
    have f4_ := z3_.fz 4
    have k4_ := z3_.cell_4
    go_wp2_with fail
    (try simp only [Exit.inBlock, Exit.then])
    exact bodyPost_ret (results_vt rfl _ _ g rfl (z3_.five _ _ _ _ _)) rfl ⟨rfl, by first | exact below_five b3_ (Nat.le_refl _) _ _ _ _ _ | exact below_is hg (below_five b3_ (Nat.le_refl _) _ _ _ _ _)⟩
  have R3 := Aside0.mk ((if_neg h2).symm.trans R2.out)
  clear R2
  have h2b : (e2 != 0) = false := by simpa using h2
  clear h2
  obtain ⟨W3, hX3⟩ : ∃ W, V2.setCell ⟨g + 1, 2, none⟩ (.int .i64 n2) = W := ⟨_, rfl⟩
  have a3_ : At W3 (g + 1) n0 n1 n2 0 0 := by rw [← hX3]; exact (a2_.below hb).set_2 _
  have z3_ : At W3 g 0 0 0 0 0 := by rw [← hX3]; exact (z2_.below hb).other _ _ (by omega)
  have b3_ : Below g w W3 := by rw [← hX3]; exact (bk b2_ (Nat.le_of_lt z2_.lt) hb).setCell (Nat.le_succ g) _
  clear a2_ z2_ b2_ hb
  go_wp2_with fail
  clear k_ f_ h2b
  rw [rounds_succ]
  go_wp2_with fail
  clear hX3
  go_loopw [6, 7] (fun v u wr => ∃ k : Nat, k ≤ vs.length ∧ u = .int .i64 k ∧ Aside0 (Kd.R (Kd.int .i64) 3 wr W3.heap.size (fun _ => True) v ((vs.take k).map fun v => v.get 3)) ∧ Aside0 (Below W3.heap.size W3 wr)) (fun _ u _ => vs.length - (intOf u).toNat)
  case atStart => exact ⟨0, Nat.zero_le _, rfl, ⟨by simpa using Kd.R_nil _ _ _ _ _⟩, ⟨Below.refl _ _⟩⟩
  obtain ⟨k, hk, rfl, HO, HB⟩ := hrel
  by_cases hlt : k < vs.length
  · obtain ⟨rfl, hrw⟩ := HA.out (by intro h; rw [h] at hlt; exact absurd hlt (Nat.not_lt_zero _))
    have hR := (hrw.below (hg ▸ b3_)).below HB.out
    have c_ : wr.cell? ⟨b, o + k * 5 + 3, none⟩ = some (.int .i64 (V.get vs[k] 3)) := hR.out.2 k hlt 3 (by decide)
    obtain ⟨y, hy⟩ : ∃ y, V.get vs[k] 3 = y := ⟨_, rfl⟩
    rw [hy] at c_
    obtain ⟨A6, c6, e6⟩ := Kd.R_slice HO.out
    have hl6 : ((vs.take k).map fun v => v.get 3).length = k := by simp; omega
    have HT : Aside0 ((vs.take (k + 1)).map (fun v => v.get 3) = ((vs.take k).map fun v => v.get 3) ++ [y]) := ⟨by rw [take_on vs k hlt, List.map_append, List.map_cons, List.map_nil, hy]⟩
    rw [hl6] at e6
    subst e6
    have HL : Aside0 (((vs.take k).map fun v => v.get 3).length + 1 ≤ 31) := ⟨by rw [hl6]; omega⟩
    have hz : W3.heap.size ≤ wr.heap.size := HB.out.size
    have k0 : (0 : Int) ≤ (k : Int) := by omega
    clear hR hrw hy hl6
    go_wp2_with ((at_builtin; refine Kd.R_append (Kd.int .i64) (w0 := W3) W3.heap.size rfl (.tmp 20) (.tmp 27) 51 3 (.int .i64 0) 8 rfl Tryd.underlying51 info3 rfl (by decide) (by decide) (.slice A6 k c6) ((vs.take k).map fun v => v.get 3) y [.int .i64 y] (fun _ => True) (fun _ => False) ?aE rfl rfl (fun _ h => h.elim) (fun _ _ => trivial) HO.out HB.out hz (by have := HL.out; omega) ?_; (case aE => first | rfl | (go_simp; done) | (simp; done)); intro v7 W7 HV7 HB7 hg7 hat7))
    have HO7 : Aside0 (Kd.R (Kd.int .i64) 3 W7 W3.heap.size (fun _ => True) v7 ((vs.take (k + 1)).map fun v => v.get 3)) := ⟨by rw [HT.out]; exact HV7⟩
    have HB8 := Aside0.mk HB7
    clear HV7 HB7 hg7 hat7 HB HO HT hz HL
    go_roundw
    case rel => exact ⟨k + 1, by omega, by go_num, HO7, HB8⟩
    case measure => simp [intOf]; omega
  have hq : k = vs.length := by omega
  subst hq
  obtain ⟨A6, c6, e6⟩ := Kd.R_slice HO.out
  have hl6 : ((vs.take vs.length).map fun v => v.get 3).length = vs.length := by simp
  have hC := Kd.R_reads' (by rw [e6] at HO; exact HO.out)
  rw [hl6] at e6
  subst e6
  have hLL : (vs.take vs.length).map (fun v => v.get 3) = vs.map fun v => v.get 3 := by rw [List.take_length]
  have QA := refAdd_c A6 c6 ((vs.take vs.length).map fun v => v.get 3) n3 e3 wr hC.2.2 (by have := hC.2.1; omega) (by rw [hl6]; exact HW.out.2.1) (by
    rw [hLL]
    intro x hx
    obtain ⟨v, hv, rfl⟩ := List.mem_map.1 hx
    exact HW.out.1 v hv _) (by rw [hLL]; exact Q3.out)
  rw [hl6] at QA
  have HQ := Aside0.mk QA
  clear QA hC hLL hl6 HO
  go_wp2_with fail
  refine HQ.out.mono ?_
  rintro _ V3 ⟨rfl, hb0⟩
  have hb : Below W3.heap.size W3 V3 := HB.out.trans (hb0.mono HB.out.size)
  clear hb0 HQ HB
  have k_ := (a3_.below hb).cell_3
  have f_ := (a3_.below hb).fz 3
  by_cases h3 : e3 ≠ 0
  · have hr := R3.out
    rw [if_pos h3] at hr
    subst hr
    clear R3
    have h3b : (e3 != 0) = true := bne_iff_ne.mpr h3
    clear h3
    have z4_ := z3_.below hb
    have b4_ := bk b3_ (Nat.le_of_lt z3_.lt) hb
    clear a3_ z3_ b3_ hb
    have f0_ := z4_.fz 0
    have k0_ := z4_.cell_0
    have f1_ := z4_.fz 1
    have k1_ := z4_.cell_1
    have f2_ := z4_.fz 2
    have k2_ := z4_.cell_2
    have f3_ := z4_.fz 3
    have k3_ := z4_.cell_3
    have f4_ := z4_.fz 4
    have k4_ := z4_.cell_4
    go_wp2_with fail
    (try simp only [Exit.inBlock, Exit.then])
    exact bodyPost_ret (results_vt rfl _ _ g rfl (z4_.five _ _ _ _ _)) rfl ⟨rfl, by first | exact below_five b4_ (Nat.le_refl _) _ _ _ _ _ | exact below_is hg (below_five b4_ (Nat.le_refl _) _ _ _ _ _)⟩
  have R4 := Aside0.mk ((if_neg h3).symm.trans R3.out)
  clear R3
  have h3b : (e3 != 0) = false := by simpa using h3
  clear h3
  obtain ⟨W4, hX4⟩ : ∃ W, V3.setCell ⟨g + 1, 3, none⟩ (.int .i64 n3) = W := ⟨_, rfl⟩
  have a4_ : At W4 (g + 1) n0 n1 n2 n3 0 := by rw [← hX4]; exact (a3_.below hb).set_3 _
  have z4_ : At W4 g 0 0 0 0 0 := by rw [← hX4]; exact (z3_.below hb).other _ _ (by omega)
  have b4_ : Below g w W4 := by rw [← hX4]; exact (bk b3_ (Nat.le_of_lt z3_.lt) hb).setCell (Nat.le_succ g) _
  clear a3_ z3_ b3_ hb
  go_wp2_with fail
  clear k_ f_ h3b
  rw [rounds_succ]
  go_wp2_with fail
  clear hX4
  go_loopw [6, 7] (fun v u wr => ∃ k : Nat, k ≤ vs.length ∧ u = .int .i64 k ∧ Aside0 (Kd.R (Kd.int .i64) 3 wr W4.heap.size (fun _ => True) v ((vs.take k).map fun v => v.get 4)) ∧ Aside0 (Below W4.heap.size W4 wr)) (fun _ u _ => vs.length - (intOf u).toNat)
  case atStart => exact ⟨0, Nat.zero_le _, rfl, ⟨by simpa using Kd.R_nil _ _ _ _ _⟩, ⟨Below.refl _ _⟩⟩
  obtain ⟨k, hk, rfl, HO, HB⟩ := hrel
  by_cases hlt : k < vs.length
  · obtain ⟨rfl, hrw⟩ := HA.out (by intro h; rw [h] at hlt; exact absurd hlt (Nat.not_lt_zero _))
    have hR := (hrw.below (hg ▸ b4_)).below HB.out
    have c_ : wr.cell? ⟨b, o + k * 5 + 4, none⟩ = some (.int .i64 (V.get vs[k] 4)) := hR.out.2 k hlt 4 (by decide)
    obtain ⟨y, hy⟩ : ∃ y, V.get vs[k] 4 = y := ⟨_, rfl⟩
    rw [hy] at c_
    obtain ⟨A6, c6, e6⟩ := Kd.R_slice HO.out
    have hl6 : ((vs.take k).map fun v => v.get 4).length = k := by simp; omega
    have HT : Aside0 ((vs.take (k + 1)).map (fun v => v.get 4) = ((vs.take k).map fun v => v.get 4) ++ [y]) := ⟨by rw [take_on vs k hlt, List.map_append, List.map_cons, List.map_nil, hy]⟩
    rw [hl6] at e6
    subst e6
    have HL : Aside0 (((vs.take k).map fun v => v.get 4).length + 1 ≤ 31) := ⟨by rw [hl6]; omega⟩
    have hz : W4.heap.size ≤ wr.heap.size := HB.out.size
    have k0 : (0 : Int) ≤ (k : Int) := by omega
    clear hR hrw hy hl6
    go_wp2_with ((at_builtin; refine Kd.R_append (Kd.int .i64) (w0 := W4) W4.heap.size rfl (.tmp 20) (.tmp 27) 51 3 (.int .i64 0) 8 rfl Tryd.underlying51 info3 rfl (by decide) (by decide) (.slice A6 k c6) ((vs.take k).map fun v => v.get 4) y [.int .i64 y] (fun _ => True) (fun _ => False) ?aE rfl rfl (fun _ h => h.elim) (fun _ _ => trivial) HO.out HB.out hz (by have := HL.out; omega) ?_; (case aE => first | rfl | (go_simp; done) | (simp; done)); intro v7 W7 HV7 HB7 hg7 hat7))
    have HO7 : Aside0 (Kd.R (Kd.int .i64) 3 W7 W4.heap.size (fun _ => True) v7 ((vs.take (k + 1)).map fun v => v.get 4)) := ⟨by rw [HT.out]; exact HV7⟩
    have HB8 := Aside0.mk HB7
    clear HV7 HB7 hg7 hat7 HB HO HT hz HL
    go_roundw
    case rel => exact ⟨k + 1, by omega, by go_num, HO7, HB8⟩
    case measure => simp [intOf]; omega
  have hq : k = vs.length := by omega
  subst hq
  obtain ⟨A6, c6, e6⟩ := Kd.R_slice HO.out
  have hl6 : ((vs.take vs.length).map fun v => v.get 4).length = vs.length := by simp
  have hC := Kd.R_reads' (by rw [e6] at HO; exact HO.out)
  rw [hl6] at e6
  subst e6
  have hLL : (vs.take vs.length).map (fun v => v.get 4) = vs.map fun v => v.get 4 := by rw [List.take_length]
  have QA := refAdd_c A6 c6 ((vs.take vs.length).map fun v => v.get 4) n4 e4 wr hC.2.2 (by have := hC.2.1; omega) (by rw [hl6]; exact HW.out.2.1) (by
    rw [hLL]
    intro x hx
    obtain ⟨v, hv, rfl⟩ := List.mem_map.1 hx
    exact HW.out.1 v hv _) (by rw [hLL]; exact Q4.out)
  rw [hl6] at QA
  have HQ := Aside0.mk QA
  clear QA hC hLL hl6 HO
  go_wp2_with fail
  refine HQ.out.mono ?_
  rintro _ V4 ⟨rfl, hb0⟩
  have hb : Below W4.heap.size W4 V4 := HB.out.trans (hb0.mono HB.out.size)
  clear hb0 HQ HB
  have k_ := (a4_.below hb).cell_4
  have f_ := (a4_.below hb).fz 4
  by_cases h4 : e4 ≠ 0
  · have hr := R4.out
    rw [if_pos h4] at hr
    subst hr
    clear R4
    have h4b : (e4 != 0) = true := bne_iff_ne.mpr h4
    clear h4
    have z5_ := z4_.below hb
    have b5_ := bk b4_ (Nat.le_of_lt z4_.lt) hb
    clear a4_ z4_ b4_ hb
    have f0_ := z5_.fz 0
    have k0_ := z5_.cell_0
    have f1_ := z5_.fz 1
    have k1_ := z5_.cell_1
    have f2_ := z5_.fz 2
    have k2_ := z5_.cell_2
    have f3_ := z5_.fz 3
    have k3_ := z5_.cell_3
    have f4_ := z5_.fz 4
    have k4_ := z5_.cell_4
    go_wp2_with fail
    (try simp only [Exit.inBlock, Exit.then])
    exact bodyPost_ret (results_vt rfl _ _ g rfl (z5_.five _ _ _ _ _)) rfl ⟨rfl, by first | exact below_five b5_ (Nat.le_refl _) _ _ _ _ _ | exact below_is hg (below_five b5_ (Nat.le_refl _) _ _ _ _ _)⟩
  have R5 := Aside0.mk ((if_neg h4).symm.trans R4.out)
  clear R4
  have h4b : (e4 != 0) = false := by simpa using h4
  clear h4
  obtain ⟨W5, hX5⟩ : ∃ W, V4.setCell ⟨g + 1, 4, none⟩ (.int .i64 n4) = W := ⟨_, rfl⟩
  have a5_ : At W5 (g + 1) n0 n1 n2 n3 n4 := by rw [← hX5]; exact (a4_.below hb).set_4 _
  have z5_ : At W5 g 0 0 0 0 0 := by rw [← hX5]; exact (z4_.below hb).other _ _ (by omega)
  have b5_ : Below g w W5 := by rw [← hX5]; exact (bk b4_ (Nat.le_of_lt z4_.lt) hb).setCell (Nat.le_succ g) _
  clear a4_ z4_ b4_ hb
  go_wp2_with fail
  clear k_ f_ h4b
  have f0_ := z5_.fz 0
  have k0_ := z5_.cell_0
  have j0_ := a5_.cell_0
  have f1_ := z5_.fz 1
  have k1_ := z5_.cell_1
  have j1_ := a5_.cell_1
  have f2_ := z5_.fz 2
  have k2_ := z5_.cell_2
  have j2_ := a5_.cell_2
  have f3_ := z5_.fz 3
  have k3_ := z5_.cell_3
  have j3_ := a5_.cell_3
  have f4_ := z5_.fz 4
  have k4_ := z5_.cell_4
  have j4_ := a5_.cell_4
  have hr := R5.out
  subst hr
  clear R5 hX5
  rw [rounds_succ]
  go_wp2_with fail
  (try simp only [Exit.inBlock, Exit.then])
  exact bodyPost_ret (results_vt rfl _ _ g rfl (z5_.five _ _ _ _ _)) rfl ⟨rfl, by first | exact below_five b5_ (Nat.le_refl _) _ _ _ _ _ | exact below_is hg (below_five b5_ (Nat.le_refl _) _ _ _ _ _)⟩
end Go.Proofs.YtceepgleeelohaaDoor.P
