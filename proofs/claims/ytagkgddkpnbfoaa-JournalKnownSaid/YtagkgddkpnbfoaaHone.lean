import Derived.Test.YtagkgddkpnbfoaaHput
namespace Go.Proofs.Ytagkgddkpnbfoaa.P
set_option linter.unusedVariables false
set_option linter.unusedSimpArgs false
open Go.RowKit Go.Proofs.YtagkgddkpnbfoaaW.PrintWords Go.Proofs.YtagkgddkpnbfoaaW.PrintLast Go.Proofs.YtagkgddkpnbfoaaW.PrintMore

structure Only (g : Nat) (w w' : World) : Prop where
 os : w'.os = w.os
 tape : w'.tape = w.tape
 output : w'.output = w.output
 size : w'.heap.size = w.heap.size
 block : ∀ i, i ≠ g → w'.heap[i]? = w.heap[i]?
theorem Only.trans {g : Nat} {a b c : World} (h : Only g a b) (k : Only g b c) : Only g a c :=
 ⟨k.os.trans h.os, k.tape.trans h.tape, k.output.trans h.output, k.size.trans h.size, fun i hi => (k.block i hi).trans (h.block i hi)⟩
theorem Only.set (w : World) (g i : Nat) (v : Value) : Only g w (w.setCell ⟨g, i, none⟩ v) :=
 ⟨rfl, rfl, rfl, by simp, fun j hj => Below.heap_setCell w ⟨g, i, none⟩ v j hj⟩
theorem Only.below {g B : Nat} {w w' : World} (h : Only g w w') (hg : B ≤ g) : Below B w w' :=
 ⟨h.os, h.tape, h.output, Nat.le_of_eq h.size.symm, fun k hk => h.block k (by omega)⟩
theorem Only.cell {g b i : Nat} {w w' : World} (h : Only g w w') (hb : b ≠ g) : w'.cell? ⟨b, i, none⟩ = w.cell? ⟨b, i, none⟩ := by
 simp [World.cell?, h.block b hb]
def RdrAt (w : World) (B g : Nat) (b : List Int) (j : Nat) : Prop :=
 B ≤ g ∧ ∃ A c, w.heap[g]? = some (.cells #[.slice A (b.drop j).length c, .bool (decide (b.length < j))] 74 (0, 0)) ∧ (b.drop j).length ≤ c ∧ Kd.C (Kd.int .u8) w A (b.drop j).length (b.drop j) ∧ ∀ ad, A = some ad → 0 < (b.drop j).length → ad.block < B
def gB (b : List Int) (j : Nat) : Int := b.getD j 0
def gT (b : List Int) (j : Nat) : Int := 256 * gB b j + gB b (j + 1)
theorem gB_byte {b : List Int} (hb : ∀ x ∈ b, isByte x) (j : Nat) : isByte (gB b j) := by
 unfold gB
 rw [List.getD_eq_getElem?_getD]
 by_cases h : j < b.length
 ·rw [List.getElem?_eq_getElem h]; exact hb _ (List.getElem_mem h)
 ·rw [List.getElem?_eq_none (by omega)]; exact ⟨by simp, by simp⟩

set_option maxHeartbeats 800000 in
theorem one_calls (B g : Nat) (b : List Int) (j : Nat) (w : World) (hb : ∀ x ∈ b, isByte x) (h : RdrAt w B g b j) :
  Calls Try.prog 49 #[.pointer (some ⟨g, 0, none⟩)] w fun e w' => e = .returned (.int .i64 (gB b j)) ∧ RdrAt w' B g b (j + 1) ∧ Only g w w' := by
 obtain ⟨hBg, A, c, hh, hc, hr, hA⟩ := h
 have h0 : w.cell? ⟨g, 0, none⟩ = some (.slice A (b.drop j).length c) := (blk_cell hh 0).trans rfl
 have h1 : w.cell? ⟨g, 1, none⟩ = some (.bool (decide (b.length < j))) := (blk_cell hh 1).trans rfl
 have f0 : w.frozen? ⟨g, 0, none⟩ = false := blk_frozen hh 0
 have f1 : w.frozen? ⟨g, 1, none⟩ = false := blk_frozen hh 1
 have hm := hr.2.1
 by_cases hl : j < b.length
 ·have hx := gB_byte hb j
  obtain ⟨n, hn⟩ : ∃ n, (b.drop j).length = n + 1 := ⟨b.length - j - 1, by rw [List.length_drop]; omega⟩
  have hn2 : (b.drop (j + 1)).length = n := by rw [List.length_drop] at hn ⊢; omega
  obtain ⟨ad, e, hcell⟩ := Kd.at_int hr 0 (by omega) (by omega)
  subst e
  have hv : rd (b.drop j) 0 = gB b j := by simp [rd, gB, List.getD_eq_getElem?_getD, List.getElem?_drop]
  rw [hv] at hcell
  obtain ⟨hx0, hx1⟩ := hx
  have hcell : w.cell? ad = some (.int .u8 (gB b j)) := hcell
  generalize gB b j = x at *
  have HP : ∀ (A' : Option Addr), (A' = if c = 1 then some ad else some ⟨ad.block, ad.off + 1, none⟩) → Aside0 (RdrAt (w.setCell ⟨g, 0, none⟩ (.slice A' n (c - 1))) B g b (j + 1)) := fun A' hA' => ⟨by
   refine ⟨hBg, A', c - 1, ?_, by omega, ?_, ?_⟩
   ·rw [blk_set hh, hn2]
    simp
    omega
   ·have hd := Kd.C_drop (m := 1) hr (by omega) hc
    have he : (b.drop j).drop 1 = b.drop (j + 1) := by rw [List.drop_drop]
    rw [he] at hd
    have hA2 : A' = if c = 1 then some ad else Option.map (fun x => x.add (1 * (Kd.int .u8).sz)) (some ad) := by rw [hA']; rfl
    rw [hA2]
    refine Kd.C_foot_ne (g := g) (fun h => h) hd ?_ _ ((KeepBut.refl w g none).set_ 0 _)
    intro a' ha _
    have hlt := hA ad rfl (by omega)
    by_cases hc1 : c = 1
    ·rw [if_pos hc1] at ha; cases ha; omega
    ·rw [if_neg hc1] at ha; cases ha; show (Addr.add ad _).block ≠ g; rw [add_block]; omega
   ·intro a' ha _
    have hlt := hA ad rfl (by omega)
    rw [hA'] at ha
    by_cases hc1 : c = 1
    ·rw [if_pos hc1] at ha; cases ha; omega
    ·rw [if_neg hc1] at ha; cases ha; exact hlt⟩
  rw [hn] at h0 hc hm
  clear hh hA hr hn hn2 hv h1 f1 hb
  go_enter Try.func49, Try.ntmps49
  go_wp2
  all_goals
   go_ret
   refine ⟨rfl, ?_, Only.set _ _ _ _⟩
  ·subst h; exact (HP (some ad) rfl).out
  ·exact (HP _ (by rw [if_neg h])).out
 ·have hd : b.drop j = [] := List.drop_of_length_le (by omega)
  have hx : gB b j = 0 := by simp [gB, List.getD_eq_getElem?_getD, List.getElem?_eq_none (show b.length ≤ j by omega)]
  have hd2 : b.drop (j + 1) = [] := List.drop_of_length_le (by omega)
  have HP : Aside0 (RdrAt (w.setCell ⟨g, 1, none⟩ (.bool true)) B g b (j + 1)) := ⟨by
   refine ⟨hBg, A, c, ?_, by rw [hd2]; simp, ?_, ?_⟩
   ·rw [blk_set hh, hd, hd2]
    simp
    omega
   ·rw [hd2]
    exact Kd.C_foot_ne (A := A) (xs := []) (g := g) (fun h => h) (by rw [hd] at hr; exact hr) (fun _ _ h => by simp at h) _ ((KeepBut.refl w g none).set_ 1 _)
   ·rw [hd2]
    intro _ _ h; simp at h⟩
  rw [hd] at h0
  clear hh hA hr hm hc hd hd2 f0
  have hx := Aside0.mk hx
  have h0 : w.cell? ⟨g, 0, none⟩ = some (.slice A 0 c) := h0
  go_enter Try.func49, Try.ntmps49
  go_wp2
  go_ret
  exact ⟨by rw [hx.out]; rfl, HP.out, Only.set _ _ _ _⟩

theorem byte_join {a b : Int} (ha : isByte a) (hb : isByte b) : bits BinOp.or .i64 (wrap64 (a * 256)) b = 256 * a + b := by
 obtain ⟨a0, a1⟩ := ha
 obtain ⟨b0, b1⟩ := hb
 rw [wrap_id (x := a * 256) (by omega) (by omega)]
 have := bits_join .i64 62 (by decide) (fun n h0 h1 => IntWalk.i64_in n (by omega)) 8 (a * 256) b (by omega) (by omega) (by omega) (by omega) (by omega) (by omega)
 omega
set_option maxHeartbeats 800000 in
theorem two_calls (B g : Nat) (b : List Int) (j : Nat) (w : World) (hb : ∀ x ∈ b, isByte x) (h : RdrAt w B g b j) :
  Calls Try.prog 43 #[.pointer (some ⟨g, 0, none⟩)] w fun e w' => e = .returned (.int .i64 (gT b j)) ∧ RdrAt w' B g b (j + 2) ∧ Only g w w' := by
 have HX := Aside0.mk hb
 have h1 := Aside0.mk (gB_byte hb j)
 have h2 := Aside0.mk (gB_byte hb (j + 1))
 have H := Aside0.mk h
 clear hb h
 go_enter Try.func43, Try.ntmps43
 go_wp2_with fail
 refine (one_calls B g b j _ HX.out H.out).mono ?_
 rintro e w1 ⟨rfl, hr1, ho1⟩
 have hr1 := Aside0.mk hr1
 go_wp2_with fail
 refine (one_calls B g b (j + 1) _ HX.out hr1.out).mono ?_
 rintro e w2 ⟨rfl, hr2, ho2⟩
 have hr2 := Aside0.mk hr2
 go_wp2_with fail
 go_ret
 refine ⟨?_, hr2.out, ho1.trans ho2⟩
 have hj := byte_join h1.out h2.out
 exact congrArg (fun z => Ending.returned (Value.int .i64 z)) hj

theorem RdrAt.lt {w : World} {B g j : Nat} {b : List Int} (h : RdrAt w B g b j) : g < w.heap.size := by
 obtain ⟨_, A, c, hh, _⟩ := h
 exact blk_lt hh
theorem RdrAt.same {w w1 : World} {B g j : Nat} {b : List Int} (h : RdrAt w B g b j) (hk : w1.heap[g]? = w.heap[g]?) (hk2 : ∀ i, i < B → w1.heap[i]? = w.heap[i]?) : RdrAt w1 B g b j := by
 obtain ⟨hB, A, c, hh, hc, hr, hA⟩ := h
 refine ⟨hB, A, c, hk.trans hh, hc, ⟨hr.1, hr.2.1, fun hn => ?_⟩, hA⟩
 obtain ⟨ad, he, hcells⟩ := hr.2.2 hn
 refine ⟨ad, he, fun q p hq => ?_⟩
 obtain ⟨cs, k1, k2, k3⟩ := hcells q p hq
 refine ⟨cs, k1, k2, fun i u hu => ?_⟩
 have hb : (ad.add (q * (Kd.int .u8).sz + i)).block < B := by rw [add_block]; exact hA ad he hn
 have := k3 i u hu
 unfold World.cell? at this ⊢
 rw [hk2 _ hb]
 exact this
theorem RdrAt.below {w w1 : World} {B g j : Nat} {b : List Int} (h : RdrAt w B g b j) (hb : Below w.heap.size w w1) : RdrAt w1 B g b j :=
 h.same (hb.block g h.lt) (fun i hi => hb.block i (by have := h.lt; have := h.1; omega))
theorem RdrAt.grown {w w1 : World} {B g j : Nat} {b : List Int} {row : Option Nat} (h : RdrAt w B g b j) (hg : w.grownBy w1 row) (hr : ∀ k, row = some k → g < k) : RdrAt w1 B g b j :=
 h.same (hg.block g h.lt (fun e => by have := hr g e.symm; omega)) (fun i hi => hg.block i (by have := h.lt; have := h.1; omega) (fun e => by have := hr i e.symm; have := h.1; omega))
theorem RdrAt.far {w : World} {B g j gx : Nat} {b : List Int} (h : RdrAt w B g b j) (hg : gx ≠ g) (hB : B ≤ gx) (i : Nat) (v : Value) : RdrAt (w.setCell ⟨gx, i, none⟩ v) B g b j :=
 h.same (Below.heap_setCell w ⟨gx, i, none⟩ v g (Ne.symm hg)) (fun k hk => Below.heap_setCell w ⟨gx, i, none⟩ v k (by show k ≠ gx; omega))
end Go.Proofs.Ytagkgddkpnbfoaa.P
