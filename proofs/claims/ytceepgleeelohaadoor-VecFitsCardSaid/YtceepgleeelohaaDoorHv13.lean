import Derived.Test.YtceepgleeelohaaDoorHv0
import Derived.Test.YtceepgleeelohaaDoorHv8
import Derived.Test.YtceepgleeelohaaDoorHv10
import Derived.Test.YtceepgleeelohaaDoorHv12
/- wrong, works. -/
namespace Go.Proofs.YtceepgleeelohaaDoor.P
set_option linter.unusedVariables false
set_option linter.unusedSimpArgs false
open Go.RowKit Go.Proofs.YtceepgleeelohaaDoorW.PrintWords Go.Proofs.YtceepgleeelohaaDoorW.PrintLast Go.Proofs.YtceepgleeelohaaDoorW.PrintMore
attribute [local go_sem] eq23
def isV (v u : V) : Bool := decide (v.a = u.a) && decide (v.b = u.b) && decide (v.c = u.c) && decide (v.d = u.d) && decide (v.e = u.e)
set_option maxRecDepth 100000 in
set_option maxHeartbeats 4000000 in
theorem wrong_c (t : ByteArray) (p e : Int) (w : World) (hN : Nm w) (ht : t.size ≤ 1000000) (h : V.parse t = (V.zero, p, e)) :
    Calls Tryd.prog 35 #[.string t, .int .i64 p, .int .i64 e] w fun e_ w' => e_ = .returned (.bool true) ∧ Below w.heap.size w w' := by
  have C := parse_c t w hN ht
  rw [h] at C
  dsimp only at C
  have CC := Aside0.mk C
  clear C h hN
  go_enter Tryd.func35, Tryd.ntmps35
  go_wp2_with fail
  refine CC.out.mono ?_
  rintro _ V0 ⟨rfl, hb⟩
  obtain ⟨g, hg⟩ : ∃ g, V0.heap.size = g := ⟨_, rfl⟩
  obtain ⟨W1, hW1⟩ : ∃ W, V0.alloc (.cells #[.int .i64 0, .int .i64 0, .int .i64 0, .int .i64 0, .int .i64 0] 23) = W := ⟨_, rfl⟩
  have z1_ : At W1 g 0 0 0 0 0 := by rw [← hW1, ← hg]; exact At.new _ _ _ _ _ _
  have b1_ : Below w.heap.size w W1 := by rw [← hW1]; exact hb.alloc hb.size _
  have hge : w.heap.size ≤ g := by have := hb.size; omega
  clear hb CC
  have f0_ := z1_.fz 0
  have k0_ := z1_.cell_0
  have f1_ := z1_.fz 1
  have k1_ := z1_.cell_1
  have f2_ := z1_.fz 2
  have k2_ := z1_.cell_2
  have f3_ := z1_.fz 3
  have k3_ := z1_.cell_3
  have f4_ := z1_.fz 4
  have k4_ := z1_.cell_4
  have z2_ := z1_.five 0 0 0 0 0
  have b2_ := below_five b1_ hge (.int .i64 0) (.int .i64 0) (.int .i64 0) (.int .i64 0) (.int .i64 0)
  have B2 := Aside0.mk b2_
  clear z1_ b1_ b2_
  go_wp2_with fail
  go_ret
  exact ⟨by first | rfl | (simp; done), B2.out⟩
theorem At.five_other {W : World} {g h : Nat} {a b c d e : Int} (hA : At W g a b c d e) (hk : g ≠ h) (x0 x1 x2 x3 x4 : Value) : At (((((W.setCell ⟨h, 0, none⟩ x0).setCell ⟨h, 1, none⟩ x1).setCell ⟨h, 2, none⟩ x2).setCell ⟨h, 3, none⟩ x3).setCell ⟨h, 4, none⟩ x4) g a b c d e :=
  ((((hA.other 0 x0 hk).other 1 x1 hk).other 2 x2 hk).other 3 x3 hk).other 4 x4 hk
theorem wr_0 : V.parse (⟨#[109, 101, 109, 61, 49, 44, 99, 112, 117, 61, 49]⟩ : ByteArray) = (V.zero, 6, 4) := by kernel_rfl
theorem wr_1 : V.parse (⟨#[99, 112, 117, 61]⟩ : ByteArray) = (V.zero, 4, 3) := by kernel_rfl
theorem wr_2 : V.parse (⟨#[99, 112, 117, 61, 48]⟩ : ByteArray) = (V.zero, 0, 4) := by kernel_rfl
theorem wr_3 : V.parse (⟨#[99, 112, 117, 61, 49, 44]⟩ : ByteArray) = (V.zero, 6, 3) := by kernel_rfl
theorem wo_p : V.print ⟨1500, 1048576, 0, 3, 0⟩ = ((⟨#[99, 112, 117, 61, 49, 53, 48, 48, 109, 44, 109, 101, 109, 61, 49, 77, 105, 44, 115, 108, 111, 116, 115, 61, 51]⟩ : ByteArray), 0) := by kernel_rfl
theorem wo_q : V.parse (⟨#[99, 112, 117, 61, 49, 53, 48, 48, 109, 44, 109, 101, 109, 61, 49, 77, 105, 44, 115, 108, 111, 116, 115, 61, 51]⟩ : ByteArray) = (⟨1500, 1048576, 0, 3, 0⟩, 0, 0) := by kernel_rfl
theorem wo_s : V.shares ⟨1, 2, 0, 0, 0⟩ ⟨4, 4, 0, 0, 0⟩ = (⟨250, 500, 0, 0, 0⟩, 0) := by kernel_rfl
theorem wo_m : V.max ⟨250, 500, 0, 0, 0⟩ = 500 := by kernel_rfl
theorem wo_f : V.fits ⟨1, 2, 0, 0, 0⟩ ⟨1, 3, 0, 0, 0⟩ = true := by kernel_rfl
theorem wo_o : V.overK ⟨5, 1, 0, 0, 0⟩ ⟨3, 3, 0, 0, 0⟩ 5 = 2 := by kernel_rfl
theorem w_share (w : World) : Calls Tryd.prog 19 #[.agg #[.int .i64 1, .int .i64 2, .int .i64 0, .int .i64 0, .int .i64 0], .agg #[.int .i64 4, .int .i64 4, .int .i64 0, .int .i64 0, .int .i64 0]] w fun e_ w' => e_ = .returned (.tuple #[.int .i64 500, .int .i64 0]) ∧ Below w.heap.size w w' := by
  have h := share_c 1 2 0 0 0 4 4 0 0 0 w
  rw [wo_s] at h
  dsimp only at h
  rw [wo_m] at h
  exact h
theorem w_fits (w : World) : Calls Tryd.prog 9 #[.agg #[.int .i64 1, .int .i64 2, .int .i64 0, .int .i64 0, .int .i64 0], .agg #[.int .i64 1, .int .i64 3, .int .i64 0, .int .i64 0, .int .i64 0]] w fun e_ w' => e_ = .returned (.bool true) ∧ Below w.heap.size w w' := by
  have h := fits_c 1 2 0 0 0 1 3 0 0 0 w
  rw [wo_f] at h
  exact h
theorem w_over (w : World) : Calls Tryd.prog 10 #[.agg #[.int .i64 5, .int .i64 1, .int .i64 0, .int .i64 0, .int .i64 0], .agg #[.int .i64 3, .int .i64 3, .int .i64 0, .int .i64 0, .int .i64 0]] w fun e_ w' => e_ = .returned (.int .i64 2) ∧ Below w.heap.size w w' := by
  have h := over_c 5 1 0 0 0 3 3 0 0 0 w
  rw [wo_o] at h
  exact h
set_option maxRecDepth 100000 in
set_option maxHeartbeats 4000000 in
theorem works_c (w : World) (hT : Tb w) (hN : Nm w) :
    Calls Tryd.prog 14 #[] w fun e_ w' => e_ = .returned (.bool true) ∧ Below w.heap.size w w' := by
  have HT := Aside0.mk (And.intro hT hN)
  clear hT hN
  obtain ⟨g, hg⟩ : ∃ g, w.heap.size = g := ⟨_, rfl⟩
  obtain ⟨W0, hW0⟩ : ∃ W, w.alloc (.cells #[.int .i64 0, .int .i64 0, .int .i64 0, .int .i64 0, .int .i64 0] 23) = W := ⟨_, rfl⟩
  have a0_ : At W0 g 0 0 0 0 0 := by rw [← hW0, ← hg]; exact At.new _ _ _ _ _ _
  have b0_ : Below w.heap.size w W0 := by rw [← hW0]; exact below_alloc (Below.refl _ _) _
  have a1_ := a0_.five 1500 1048576 0 3 0
  have b1_ := below_five b0_ (Nat.le_of_eq hg) (.int .i64 1500) (.int .i64 1048576) (.int .i64 0) (.int .i64 3) (.int .i64 0)
  have f0_ := a0_.fz 0
  have k0_ := a0_.cell_0
  have f1_ := a0_.fz 1
  have k1_ := a0_.cell_1
  have f2_ := a0_.fz 2
  have k2_ := a0_.cell_2
  have f3_ := a0_.fz 3
  have k3_ := a0_.cell_3
  have f4_ := a0_.fz 4
  have k4_ := a0_.cell_4
  clear a0_ b0_
  go_enter Tryd.func14, Tryd.ntmps14
  go_wp2_with fail
  have PC := print_c 1500 1048576 0 3 0 _ (HT.out.1.up b1_) (HT.out.2.up b1_) (by intro k; unfold V.get; split <;> exact ⟨by decide, by decide⟩)
  rw [wo_p] at PC
  dsimp only at PC
  refine PC.mono ?_
  rintro _ V1 ⟨rfl, hb⟩
  have a2_ := a1_.below hb
  have b2_ := bk b1_ (Nat.le_trans (Nat.le_of_eq rfl) (Nat.le_of_lt (Nat.lt_of_le_of_lt (Nat.le_of_eq hg) a1_.lt))) hb
  clear f0_ k0_ f1_ k1_ f2_ k2_ f3_ k3_ f4_ k4_ a1_ b1_ hb PC hW0
  go_wp2_with fail
  have QC := parse_c (⟨#[99, 112, 117, 61, 49, 53, 48, 48, 109, 44, 109, 101, 109, 61, 49, 77, 105, 44, 115, 108, 111, 116, 115, 61, 51]⟩ : ByteArray) V1 (HT.out.2.up b2_) (by decide)
  rw [wo_q] at QC
  dsimp only at QC
  refine QC.mono ?_
  rintro _ V2 ⟨rfl, hb⟩
  have a3_ := a2_.below hb
  have b3_ := bk b2_ (Nat.le_of_lt (Nat.lt_of_le_of_lt (Nat.le_of_eq hg) a2_.lt)) hb
  clear a2_ b2_ hb QC
  obtain ⟨h, hh⟩ : ∃ h, V2.heap.size = h := ⟨_, rfl⟩
  obtain ⟨W3, hW3⟩ : ∃ W, V2.alloc (.cells #[.int .i64 0, .int .i64 0, .int .i64 0, .int .i64 0, .int .i64 0] 23) = W := ⟨_, rfl⟩
  have hgh : g ≠ h := by have := a3_.lt; omega
  have z4_ : At W3 h 0 0 0 0 0 := by rw [← hW3, ← hh]; exact At.new _ _ _ _ _ _
  have a4_ : At W3 g 1500 1048576 0 3 0 := by rw [← hW3]; exact a3_.alloc _
  have b4_ : Below w.heap.size w W3 := by rw [← hW3]; exact b3_.alloc b3_.size _
  have hge : w.heap.size ≤ h := by have := b3_.size; omega
  have z5_ := z4_.five 1500 1048576 0 3 0
  have a5_ := a4_.five_other hgh (.int .i64 1500) (.int .i64 1048576) (.int .i64 0) (.int .i64 3) (.int .i64 0)
  have b5_ := below_five b4_ hge (.int .i64 1500) (.int .i64 1048576) (.int .i64 0) (.int .i64 3) (.int .i64 0)
  have f0_ := z4_.fz 0
  have k0_ := z4_.cell_0
  have f1_ := z4_.fz 1
  have k1_ := z4_.cell_1
  have f2_ := z4_.fz 2
  have k2_ := z4_.cell_2
  have f3_ := z4_.fz 3
  have k3_ := z4_.cell_3
  have f4_ := z4_.fz 4
  have k4_ := z4_.cell_4
  clear a3_ b3_
  go_wp2_with fail
  refine (w_share _).mono ?_
  rintro _ V6 ⟨rfl, hb⟩
  have a6_ := a5_.below hb
  have z6_ := z5_.below hb
  have b6_ := bk b5_ (Nat.le_of_lt (Nat.lt_of_le_of_lt hge z5_.lt)) hb
  clear f0_ k0_ f1_ k1_ f2_ k2_ f3_ k3_ f4_ k4_ a4_ z4_ b4_ a5_ z5_ b5_ hb hW3
  have f0a := a6_.fz 0
  have k0a := a6_.cell_0
  have f1a := a6_.fz 1
  have k1a := a6_.cell_1
  have f2a := a6_.fz 2
  have k2a := a6_.cell_2
  have f3a := a6_.fz 3
  have k3a := a6_.cell_3
  have f4a := a6_.fz 4
  have k4a := a6_.cell_4
  have f0z := z6_.fz 0
  have k0z := z6_.cell_0
  have f1z := z6_.fz 1
  have k1z := z6_.cell_1
  have f2z := z6_.fz 2
  have k2z := z6_.cell_2
  have f3z := z6_.fz 3
  have k3z := z6_.cell_3
  have f4z := z6_.fz 4
  have k4z := z6_.cell_4
  go_wp2_with fail
  refine (wrong_c (⟨#[109, 101, 109, 61, 49, 44, 99, 112, 117, 61, 49]⟩ : ByteArray) 6 4 _ (HT.out.2.up b6_) (by decide) wr_0).mono ?_
  rintro _ V7 ⟨rfl, hb⟩
  have b7_ := bk b6_ b6_.size hb
  clear hb
  go_wp2_with fail
  refine (wrong_c (⟨#[99, 112, 117, 61]⟩ : ByteArray) 4 3 _ (HT.out.2.up b7_) (by decide) wr_1).mono ?_
  rintro _ V8 ⟨rfl, hb⟩
  have b8_ := bk b7_ b7_.size hb
  clear hb
  go_wp2_with fail
  refine (wrong_c (⟨#[99, 112, 117, 61, 48]⟩ : ByteArray) 0 4 _ (HT.out.2.up b8_) (by decide) wr_2).mono ?_
  rintro _ V9 ⟨rfl, hb⟩
  have b9_ := bk b8_ b8_.size hb
  clear hb
  go_wp2_with fail
  refine (wrong_c (⟨#[99, 112, 117, 61, 49, 44]⟩ : ByteArray) 6 3 _ (HT.out.2.up b9_) (by decide) wr_3).mono ?_
  rintro _ V10 ⟨rfl, hb⟩
  have b10_ := bk b9_ b9_.size hb
  clear hb
  go_wp2_with fail
  refine (w_fits _).mono ?_
  rintro _ V11 ⟨rfl, hb⟩
  have b11_ := bk b10_ b10_.size hb
  clear hb
  go_wp2_with fail
  refine (w_over _).mono ?_
  rintro _ V12 ⟨rfl, hb⟩
  have b12_ := bk b11_ b11_.size hb
  clear hb
  go_wp2_with fail
  go_ret
  exact ⟨rfl, b12_⟩
end Go.Proofs.YtceepgleeelohaaDoor.P
