import Derived.Test.YtfnfjkddlnnolaaHrun
import Derived.Test.YtfnfjkddlnnolaaPf36
namespace Go.Proofs.Ytfnfjkddlnnolaa.P
set_option linter.unusedVariables false
set_option linter.unusedSimpArgs false
open Go.RowKit Go.Proofs.YtfnfjkddlnnolaaW.PrintWords Go.Proofs.YtfnfjkddlnnolaaW.PrintLast Go.Proofs.YtfnfjkddlnnolaaW.PrintMore

abbrev Rr := Option (ByteArray × ByteArray × Int × Int)
def labelF (vf : ByteArray → Int → Int → Rr) (t : ByteArray) (at_ e : Int) : Option (ByteArray × ByteArray × ByteArray × Int × Int) :=
 (label_reader_name.f t at_ e).bind fun x => (label_reader_sign.f x.2.1 x.2.2.1 x.2.2.2 (⟨#[61]⟩ : ByteArray)).bind fun y =>
  (if y.1 = true then some (y.2.1, y.2.2.1, y.2.2.2) else (label_reader_fail.f y.2.1 y.2.2.1 y.2.2.2).bind fun z => some (z.2.1, z.2.2.1, z.2.2.2)).bind fun z =>
   (vf z.1 z.2.1 z.2.2).bind fun v => some (x.1, v.1, v.2.1, v.2.2.1, v.2.2.2)
set_option maxRecDepth 100000 in
set_option maxHeartbeats 1600000 in
theorem label32_calls (g : Nat) (t : ByteArray) (at_ e : Int) (r1 r2 r3 : ByteArray) (r4 r5 : Int) (w0 w : World) (hI : IsS55 w0 w g t at_ e) (hB : Below w0.heap.size w0 w) (h : labelF label_reader_value.f t at_ e = some (r1, r2, r3, r4, r5)) :
  Calls Try.prog 31 #[.pointer (some ⟨g, 0, none⟩), .func (.func 32) #[.pointer (some ⟨g, 0, none⟩)] #[]] w fun e w' => e = .returned (.agg #[.string r1, .string r2]) ∧ IsS55 w0 w' g r3 r4 r5 ∧ Below w0.heap.size w0 w' ∧ KeepBut w w' g none := by
 have hu43 := Try.underlying43
 unfold labelF at h
 obtain ⟨⟨k, t1, at1, e1⟩, a1, h0⟩ := Option.bind_eq_some_iff.mp h
 obtain ⟨⟨is, t2, at2, e2⟩, a2, h1⟩ := Option.bind_eq_some_iff.mp h0
 obtain ⟨⟨t3, at3, e3⟩, a3, h2⟩ := Option.bind_eq_some_iff.mp h1
 obtain ⟨⟨v, t4, at4, e4⟩, a4, h3⟩ := Option.bind_eq_some_iff.mp h2
 clear h h0 h1 h2
 dsimp only at a2 a3 a4 h3
 cases h3
 have A1 := Aside0.mk a1
 have A2 := Aside0.mk a2
 have A3 := Aside0.mk a3
 have A4 := Aside0.mk a4
 clear a1 a2 a3 a4
 obtain ⟨p4, hp4⟩ : ∃ p4, w.heap.size = p4 := ⟨_, rfl⟩
 have hg : g < p4 := by rw [← hp4]; exact hI.lt
 obtain ⟨W1, hW1⟩ : ∃ W1, w.alloc (.cells #[.string ⟨#[]⟩, .string ⟨#[]⟩] 43) = W1 := ⟨_, rfl⟩
 have H1 : Aside0 (IsS55 w0 W1 g t at_ e ∧ Below w0.heap.size w0 W1 ∧ KeepBut w W1 g none ∧ W1.heap[p4]? = some (.cells #[.string ⟨#[]⟩, .string ⟨#[]⟩] 43 (0, 0))) :=
  ⟨by rw [← hW1, ← hp4]; exact ⟨hI.alloc _, below_alloc hB _, keep_alloc (KeepBut.refl _ _ _) _, heap_alloc_new w _⟩⟩
 clear hI hB
 go_enter Try.func31, Try.ntmps31
 go_wp2_with fail
 refine (label_reader_name.calls g t at_ e _ _ _ _ w0 _ H1.out.1 H1.out.2.1 A1.out).mono ?_
 rintro _ W2 ⟨rfl, hI2, hB2, hK2⟩
 have H2 : Aside0 (IsS55 w0 W2 g t1 at1 e1 ∧ Below w0.heap.size w0 W2 ∧ KeepBut w W2 g none ∧ W2.heap[p4]? = some (.cells #[.string ⟨#[]⟩, .string ⟨#[]⟩] 43 (0, 0))) :=
  ⟨hI2, hB2, H1.out.2.2.1.trans hK2 (.inl rfl), hK2.blk H1.out.2.2.2 (by omega) (by simp)⟩
 clear H1 hI2 hB2 hK2 hW1
 obtain ⟨p5, hp5⟩ : ∃ p5, W2.heap.size = p5 := ⟨_, rfl⟩
 have hlt5 : p4 < p5 := by rw [← hp5]; exact blk_lt H2.out.2.2.2
 go_wp2_with fail
 have hb3 : Below W2.heap.size W2 (W2.alloc (.cells #[.string r1, .string ⟨#[]⟩] 43)) := below_alloc (Below.refl _ _) _
 have H3 : Aside0 (IsS55 w0 (W2.alloc (.cells #[.string r1, .string ⟨#[]⟩] 43)) g t1 at1 e1 ∧ Below w0.heap.size w0 (W2.alloc (.cells #[.string r1, .string ⟨#[]⟩] 43)) ∧ KeepBut w (W2.alloc (.cells #[.string r1, .string ⟨#[]⟩] 43)) g none ∧
   (W2.alloc (.cells #[.string r1, .string ⟨#[]⟩] 43)).heap[p4]? = some (.cells #[.string ⟨#[]⟩, .string ⟨#[]⟩] 43 (0, 0)) ∧ (W2.alloc (.cells #[.string r1, .string ⟨#[]⟩] 43)).heap[p5]? = some (.cells #[.string r1, .string ⟨#[]⟩] 43 (0, 0))) :=
  ⟨H2.out.1.below hb3, below_alloc H2.out.2.1 _, keep_alloc H2.out.2.2.1 _, (hb3.block p4 (by omega)).trans H2.out.2.2.2, by rw [← hp5]; exact heap_alloc_new W2 _⟩
 clear H2 hb3 hp5
 generalize W2.alloc (.cells #[.string r1, .string ⟨#[]⟩] 43) = W3 at H3 ⊢
 refine (label_reader_sign.calls g t1 at1 e1 _ is t2 at2 e2 w0 _ H3.out.1 H3.out.2.1 A2.out).mono ?_
 rintro _ W4 ⟨rfl, hI4, hB4, hK4⟩
 have H4 := Aside0.mk (And.intro hI4 (And.intro hB4 (And.intro (H3.out.2.2.1.trans hK4 (.inl rfl)) (And.intro (hK4.blk H3.out.2.2.2.1 (show p4 ≠ g by omega) (by simp)) (hK4.blk H3.out.2.2.2.2 (show p5 ≠ g by omega) (by simp))))))
 clear H3 hI4 hB4 hK4 A2
 cases is with
 | true =>
  have a3 := A3.out
  rw [if_pos rfl] at a3
  cases a3
  have S := H4
  clear H4 A3
  go_wp2_with fail
  refine (label_reader_value.calls g _ _ _ _ _ _ _ w0 _ S.out.1 S.out.2.1 A4.out).mono ?_
  rintro _ W6 ⟨rfl, hI6, hB6, hK6⟩
  have b4 := hK6.blk S.out.2.2.2.1 (show p4 ≠ g by omega) (by simp)
  have b5 := hK6.blk S.out.2.2.2.2 (show p5 ≠ g by omega) (by simp)
  have hk6 := S.out.2.2.1.trans hK6 (.inl rfl)
  have S6 := Aside0.mk (And.intro hI6 (And.intro hB6 hk6))
  have c50 : W6.cell? ⟨p5, 0, none⟩ = some (.string r1) := (blk_cell b5 0).trans rfl
  have c51 : W6.cell? ⟨p5, 1, none⟩ = some (.string ⟨#[]⟩) := (blk_cell b5 1).trans rfl
  have c40 : W6.cell? ⟨p4, 0, none⟩ = some (.string ⟨#[]⟩) := (blk_cell b4 0).trans rfl
  have c41 : W6.cell? ⟨p4, 1, none⟩ = some (.string ⟨#[]⟩) := (blk_cell b4 1).trans rfl
  have f50 := blk_frozen b5 0
  have f51 := blk_frozen b5 1
  have f40 := blk_frozen b4 0
  have f41 := blk_frozen b4 1
  have hne : (p4 == p5) = false := beq_eq_false_iff_ne.mpr (by omega)
  have hne2 : ¬ p4 = p5 := by omega
  have hne3 : ¬ p5 = p4 := by omega
  have B4 := Aside0.mk b4
  have B5 := Aside0.mk b5
  clear S hI6 hB6 hK6 hk6 b4 b5
  go_wp2_with fail
  refine bodyPost_ret (results_cell_row rfl _ _ p4 43 #[.string r1, .string r2] (0, 0) _ rfl (blk_put (cs := #[.string r1, .string ⟨#[]⟩]) (blk_put (cs := #[.string ⟨#[]⟩, .string ⟨#[]⟩]) (blk_far B4.out (p := ⟨p5, 1, none⟩) hne2 _) 0 _ rfl) 1 _ rfl) Try.underlying43 rfl (by kernel_rfl)) rfl ?_
  have hw4 : w0.heap.size ≤ p4 := by have := S6.out.1.2; omega
  have hgp4 : g ≠ p4 := by omega
  have hgp5 : g ≠ p5 := by omega
  exact ⟨rfl, IsS55.far (p := ⟨p4, 1, none⟩) (IsS55.far (p := ⟨p4, 0, none⟩) (IsS55.far (p := ⟨p5, 1, none⟩) S6.out.1 hgp5 _) hgp4 _) hgp4 _, below_set (below_set (below_set S6.out.2.1 (show w0.heap.size ≤ p5 by omega)) hw4) hw4,
   keep_far (p := ⟨p4, 1, none⟩) (keep_far (p := ⟨p4, 0, none⟩) (keep_far (p := ⟨p5, 1, none⟩) S6.out.2.2 (show w.heap.size ≤ p5 by omega) _) (show w.heap.size ≤ p4 by omega) _) (show w.heap.size ≤ p4 by omega) _⟩
 | false =>
  have a3 := A3.out
  rw [if_neg (by simp)] at a3
  obtain ⟨⟨z0, z1, z2, z3⟩, a5, a6⟩ := Option.bind_eq_some_iff.mp a3
  cases a6
  clear a3 A3
  have A5 := Aside0.mk a5
  clear a5
  go_wp2_with fail
  refine (label_reader_fail.calls g t2 at2 e2 _ _ _ _ w0 _ H4.out.1 H4.out.2.1 A5.out).mono ?_
  rintro _ W5 ⟨rfl, hI5, hB5, hK5⟩
  have S := Aside0.mk (And.intro hI5 (And.intro hB5 (And.intro (H4.out.2.2.1.trans hK5 (.inl rfl)) (And.intro (hK5.blk H4.out.2.2.2.1 (show p4 ≠ g by omega) (by simp)) (hK5.blk H4.out.2.2.2.2 (show p5 ≠ g by omega) (by simp))))))
  clear H4 hI5 hB5 hK5 A5
  go_wp2_with fail
  refine (label_reader_value.calls g _ _ _ _ _ _ _ w0 _ S.out.1 S.out.2.1 A4.out).mono ?_
  rintro _ W6 ⟨rfl, hI6, hB6, hK6⟩
  have b4 := hK6.blk S.out.2.2.2.1 (show p4 ≠ g by omega) (by simp)
  have b5 := hK6.blk S.out.2.2.2.2 (show p5 ≠ g by omega) (by simp)
  have hk6 := S.out.2.2.1.trans hK6 (.inl rfl)
  have S6 := Aside0.mk (And.intro hI6 (And.intro hB6 hk6))
  have c50 : W6.cell? ⟨p5, 0, none⟩ = some (.string r1) := (blk_cell b5 0).trans rfl
  have c51 : W6.cell? ⟨p5, 1, none⟩ = some (.string ⟨#[]⟩) := (blk_cell b5 1).trans rfl
  have c40 : W6.cell? ⟨p4, 0, none⟩ = some (.string ⟨#[]⟩) := (blk_cell b4 0).trans rfl
  have c41 : W6.cell? ⟨p4, 1, none⟩ = some (.string ⟨#[]⟩) := (blk_cell b4 1).trans rfl
  have f50 := blk_frozen b5 0
  have f51 := blk_frozen b5 1
  have f40 := blk_frozen b4 0
  have f41 := blk_frozen b4 1
  have hne : (p4 == p5) = false := beq_eq_false_iff_ne.mpr (by omega)
  have hne2 : ¬ p4 = p5 := by omega
  have hne3 : ¬ p5 = p4 := by omega
  have B4 := Aside0.mk b4
  have B5 := Aside0.mk b5
  clear S hI6 hB6 hK6 hk6 b4 b5
  go_wp2_with fail
  refine bodyPost_ret (results_cell_row rfl _ _ p4 43 #[.string r1, .string r2] (0, 0) _ rfl (blk_put (cs := #[.string r1, .string ⟨#[]⟩]) (blk_put (cs := #[.string ⟨#[]⟩, .string ⟨#[]⟩]) (blk_far B4.out (p := ⟨p5, 1, none⟩) hne2 _) 0 _ rfl) 1 _ rfl) Try.underlying43 rfl (by kernel_rfl)) rfl ?_
  have hw4 : w0.heap.size ≤ p4 := by have := S6.out.1.2; omega
  have hgp4 : g ≠ p4 := by omega
  have hgp5 : g ≠ p5 := by omega
  exact ⟨rfl, IsS55.far (p := ⟨p4, 1, none⟩) (IsS55.far (p := ⟨p4, 0, none⟩) (IsS55.far (p := ⟨p5, 1, none⟩) S6.out.1 hgp5 _) hgp4 _) hgp4 _, below_set (below_set (below_set S6.out.2.1 (show w0.heap.size ≤ p5 by omega)) hw4) hw4,
   keep_far (p := ⟨p4, 1, none⟩) (keep_far (p := ⟨p4, 0, none⟩) (keep_far (p := ⟨p5, 1, none⟩) S6.out.2.2 (show w.heap.size ≤ p5 by omega) _) (show w.heap.size ≤ p4 by omega) _) (show w.heap.size ≤ p4 by omega) _⟩
set_option maxRecDepth 100000 in
set_option maxHeartbeats 1600000 in
theorem one32_calls (g pc : Nat) (t : ByteArray) (at_ e : Int) (r1 r2 r3 : ByteArray) (r4 r5 : Int) (w0 w : World) (hI : IsS55 w0 w g t at_ e) (hB : Below w0.heap.size w0 w) (hc : w.heap[pc]? = some (.cells #[.pointer (some ⟨g, 0, none⟩)] 53 (0, 0))) (h : labelF label_reader_value.f t at_ e = some (r1, r2, r3, r4, r5)) :
  Calls Try.prog 30 #[.pointer (some ⟨pc, 0, none⟩)] w fun e w' => e = .returned (.agg #[.string r1, .string r2]) ∧ IsS55 w0 w' g r3 r4 r5 ∧ Below w0.heap.size w0 w' ∧ KeepBut w w' g none := by
 have hu43 := Try.underlying43
 have A := Aside0.mk h
 obtain ⟨p1, hp1⟩ : ∃ p1, w.heap.size = p1 := ⟨_, rfl⟩
 have hg : g < p1 := by rw [← hp1]; exact hI.lt
 have hpc : pc < p1 := by rw [← hp1]; exact blk_lt hc
 have hb1 : Below w.heap.size w (w.alloc (.cells #[.string ⟨#[]⟩, .string ⟨#[]⟩] 43)) := below_alloc (Below.refl _ _) _
 have H1 : Aside0 (IsS55 w0 (w.alloc (.cells #[.string ⟨#[]⟩, .string ⟨#[]⟩] 43)) g t at_ e ∧ Below w0.heap.size w0 (w.alloc (.cells #[.string ⟨#[]⟩, .string ⟨#[]⟩] 43)) ∧ KeepBut w (w.alloc (.cells #[.string ⟨#[]⟩, .string ⟨#[]⟩] 43)) g none ∧ (w.alloc (.cells #[.string ⟨#[]⟩, .string ⟨#[]⟩] 43)).heap[p1]? = some (.cells #[.string ⟨#[]⟩, .string ⟨#[]⟩] 43 (0, 0))) :=
  ⟨hI.alloc _, below_alloc hB _, keep_alloc (KeepBut.refl _ _ _) _, by rw [← hp1]; exact heap_alloc_new w _⟩
 have c0_ : w.cell? ⟨pc, 0, none⟩ = some (.pointer (some ⟨g, 0, none⟩)) := (blk_cell hc 0).trans rfl
 clear h hI hB hc hb1
 go_enter Try.func30, Try.ntmps30
 go_wp2_with fail
 refine (label32_calls g t at_ e _ _ _ _ _ w0 _ H1.out.1 H1.out.2.1 A.out).mono ?_
 rintro _ W2 ⟨rfl, hI2, hB2, hK2⟩
 have b1 := hK2.blk H1.out.2.2.2 (show p1 ≠ g by omega) (by simp)
 have S := Aside0.mk (And.intro hI2 (And.intro hB2 (H1.out.2.2.1.trans hK2 (.inl rfl))))
 have c10 : W2.cell? ⟨p1, 0, none⟩ = some (.string ⟨#[]⟩) := (blk_cell b1 0).trans rfl
 have c11 : W2.cell? ⟨p1, 1, none⟩ = some (.string ⟨#[]⟩) := (blk_cell b1 1).trans rfl
 have f10 := blk_frozen b1 0
 have f11 := blk_frozen b1 1
 have B1 := Aside0.mk b1
 clear H1 hI2 hB2 hK2 b1 A
 go_wp2_with fail
 refine bodyPost_ret (results_cell_row rfl _ _ p1 43 #[.string r1, .string r2] (0, 0) _ rfl (blk_put (cs := #[.string r1, .string ⟨#[]⟩]) (blk_put (cs := #[.string ⟨#[]⟩, .string ⟨#[]⟩]) B1.out 0 _ rfl) 1 _ rfl) Try.underlying43 rfl (by kernel_rfl)) rfl ?_
 have hw1 : w0.heap.size ≤ p1 := by have := S.out.1.2; omega
 have hgp : g ≠ p1 := by omega
 exact ⟨rfl, IsS55.far (p := ⟨p1, 1, none⟩) (IsS55.far (p := ⟨p1, 0, none⟩) S.out.1 hgp _) hgp _, below_set (below_set S.out.2.1 hw1) hw1,
  keep_far (p := ⟨p1, 1, none⟩) (keep_far (p := ⟨p1, 0, none⟩) S.out.2.2 (show w.heap.size ≤ p1 by omega) _) (show w.heap.size ≤ p1 by omega) _⟩
set_option maxRecDepth 100000 in
set_option maxHeartbeats 1600000 in
theorem label36_calls (g : Nat) (t : ByteArray) (at_ e : Int) (r1 r2 r3 : ByteArray) (r4 r5 : Int) (w0 w : World) (hI : IsS55 w0 w g t at_ e) (hB : Below w0.heap.size w0 w) (h : labelF label_reader_starred.f t at_ e = some (r1, r2, r3, r4, r5)) :
  Calls Try.prog 31 #[.pointer (some ⟨g, 0, none⟩), .func (.func 36) #[.pointer (some ⟨g, 0, none⟩)] #[]] w fun e w' => e = .returned (.agg #[.string r1, .string r2]) ∧ IsS55 w0 w' g r3 r4 r5 ∧ Below w0.heap.size w0 w' ∧ KeepBut w w' g none := by
 have hu43 := Try.underlying43
 unfold labelF at h
 obtain ⟨⟨k, t1, at1, e1⟩, a1, h0⟩ := Option.bind_eq_some_iff.mp h
 obtain ⟨⟨is, t2, at2, e2⟩, a2, h1⟩ := Option.bind_eq_some_iff.mp h0
 obtain ⟨⟨t3, at3, e3⟩, a3, h2⟩ := Option.bind_eq_some_iff.mp h1
 obtain ⟨⟨v, t4, at4, e4⟩, a4, h3⟩ := Option.bind_eq_some_iff.mp h2
 clear h h0 h1 h2
 dsimp only at a2 a3 a4 h3
 cases h3
 have A1 := Aside0.mk a1
 have A2 := Aside0.mk a2
 have A3 := Aside0.mk a3
 have A4 := Aside0.mk a4
 clear a1 a2 a3 a4
 obtain ⟨p4, hp4⟩ : ∃ p4, w.heap.size = p4 := ⟨_, rfl⟩
 have hg : g < p4 := by rw [← hp4]; exact hI.lt
 obtain ⟨W1, hW1⟩ : ∃ W1, w.alloc (.cells #[.string ⟨#[]⟩, .string ⟨#[]⟩] 43) = W1 := ⟨_, rfl⟩
 have H1 : Aside0 (IsS55 w0 W1 g t at_ e ∧ Below w0.heap.size w0 W1 ∧ KeepBut w W1 g none ∧ W1.heap[p4]? = some (.cells #[.string ⟨#[]⟩, .string ⟨#[]⟩] 43 (0, 0))) :=
  ⟨by rw [← hW1, ← hp4]; exact ⟨hI.alloc _, below_alloc hB _, keep_alloc (KeepBut.refl _ _ _) _, heap_alloc_new w _⟩⟩
 clear hI hB
 go_enter Try.func31, Try.ntmps31
 go_wp2_with fail
 refine (label_reader_name.calls g t at_ e _ _ _ _ w0 _ H1.out.1 H1.out.2.1 A1.out).mono ?_
 rintro _ W2 ⟨rfl, hI2, hB2, hK2⟩
 have H2 : Aside0 (IsS55 w0 W2 g t1 at1 e1 ∧ Below w0.heap.size w0 W2 ∧ KeepBut w W2 g none ∧ W2.heap[p4]? = some (.cells #[.string ⟨#[]⟩, .string ⟨#[]⟩] 43 (0, 0))) :=
  ⟨hI2, hB2, H1.out.2.2.1.trans hK2 (.inl rfl), hK2.blk H1.out.2.2.2 (by omega) (by simp)⟩
 clear H1 hI2 hB2 hK2 hW1
 obtain ⟨p5, hp5⟩ : ∃ p5, W2.heap.size = p5 := ⟨_, rfl⟩
 have hlt5 : p4 < p5 := by rw [← hp5]; exact blk_lt H2.out.2.2.2
 go_wp2_with fail
 have hb3 : Below W2.heap.size W2 (W2.alloc (.cells #[.string r1, .string ⟨#[]⟩] 43)) := below_alloc (Below.refl _ _) _
 have H3 : Aside0 (IsS55 w0 (W2.alloc (.cells #[.string r1, .string ⟨#[]⟩] 43)) g t1 at1 e1 ∧ Below w0.heap.size w0 (W2.alloc (.cells #[.string r1, .string ⟨#[]⟩] 43)) ∧ KeepBut w (W2.alloc (.cells #[.string r1, .string ⟨#[]⟩] 43)) g none ∧
   (W2.alloc (.cells #[.string r1, .string ⟨#[]⟩] 43)).heap[p4]? = some (.cells #[.string ⟨#[]⟩, .string ⟨#[]⟩] 43 (0, 0)) ∧ (W2.alloc (.cells #[.string r1, .string ⟨#[]⟩] 43)).heap[p5]? = some (.cells #[.string r1, .string ⟨#[]⟩] 43 (0, 0))) :=
  ⟨H2.out.1.below hb3, below_alloc H2.out.2.1 _, keep_alloc H2.out.2.2.1 _, (hb3.block p4 (by omega)).trans H2.out.2.2.2, by rw [← hp5]; exact heap_alloc_new W2 _⟩
 clear H2 hb3 hp5
 generalize W2.alloc (.cells #[.string r1, .string ⟨#[]⟩] 43) = W3 at H3 ⊢
 refine (label_reader_sign.calls g t1 at1 e1 _ is t2 at2 e2 w0 _ H3.out.1 H3.out.2.1 A2.out).mono ?_
 rintro _ W4 ⟨rfl, hI4, hB4, hK4⟩
 have H4 := Aside0.mk (And.intro hI4 (And.intro hB4 (And.intro (H3.out.2.2.1.trans hK4 (.inl rfl)) (And.intro (hK4.blk H3.out.2.2.2.1 (show p4 ≠ g by omega) (by simp)) (hK4.blk H3.out.2.2.2.2 (show p5 ≠ g by omega) (by simp))))))
 clear H3 hI4 hB4 hK4 A2
 cases is with
 | true =>
  have a3 := A3.out
  rw [if_pos rfl] at a3
  cases a3
  have S := H4
  clear H4 A3
  go_wp2_with fail
  refine (label_reader_starred.calls g _ _ _ _ _ _ _ w0 _ S.out.1 S.out.2.1 A4.out).mono ?_
  rintro _ W6 ⟨rfl, hI6, hB6, hK6⟩
  have b4 := hK6.blk S.out.2.2.2.1 (show p4 ≠ g by omega) (by simp)
  have b5 := hK6.blk S.out.2.2.2.2 (show p5 ≠ g by omega) (by simp)
  have hk6 := S.out.2.2.1.trans hK6 (.inl rfl)
  have S6 := Aside0.mk (And.intro hI6 (And.intro hB6 hk6))
  have c50 : W6.cell? ⟨p5, 0, none⟩ = some (.string r1) := (blk_cell b5 0).trans rfl
  have c51 : W6.cell? ⟨p5, 1, none⟩ = some (.string ⟨#[]⟩) := (blk_cell b5 1).trans rfl
  have c40 : W6.cell? ⟨p4, 0, none⟩ = some (.string ⟨#[]⟩) := (blk_cell b4 0).trans rfl
  have c41 : W6.cell? ⟨p4, 1, none⟩ = some (.string ⟨#[]⟩) := (blk_cell b4 1).trans rfl
  have f50 := blk_frozen b5 0
  have f51 := blk_frozen b5 1
  have f40 := blk_frozen b4 0
  have f41 := blk_frozen b4 1
  have hne : (p4 == p5) = false := beq_eq_false_iff_ne.mpr (by omega)
  have hne2 : ¬ p4 = p5 := by omega
  have hne3 : ¬ p5 = p4 := by omega
  have B4 := Aside0.mk b4
  have B5 := Aside0.mk b5
  clear S hI6 hB6 hK6 hk6 b4 b5
  go_wp2_with fail
  refine bodyPost_ret (results_cell_row rfl _ _ p4 43 #[.string r1, .string r2] (0, 0) _ rfl (blk_put (cs := #[.string r1, .string ⟨#[]⟩]) (blk_put (cs := #[.string ⟨#[]⟩, .string ⟨#[]⟩]) (blk_far B4.out (p := ⟨p5, 1, none⟩) hne2 _) 0 _ rfl) 1 _ rfl) Try.underlying43 rfl (by kernel_rfl)) rfl ?_
  have hw4 : w0.heap.size ≤ p4 := by have := S6.out.1.2; omega
  have hgp4 : g ≠ p4 := by omega
  have hgp5 : g ≠ p5 := by omega
  exact ⟨rfl, IsS55.far (p := ⟨p4, 1, none⟩) (IsS55.far (p := ⟨p4, 0, none⟩) (IsS55.far (p := ⟨p5, 1, none⟩) S6.out.1 hgp5 _) hgp4 _) hgp4 _, below_set (below_set (below_set S6.out.2.1 (show w0.heap.size ≤ p5 by omega)) hw4) hw4,
   keep_far (p := ⟨p4, 1, none⟩) (keep_far (p := ⟨p4, 0, none⟩) (keep_far (p := ⟨p5, 1, none⟩) S6.out.2.2 (show w.heap.size ≤ p5 by omega) _) (show w.heap.size ≤ p4 by omega) _) (show w.heap.size ≤ p4 by omega) _⟩
 | false =>
  have a3 := A3.out
  rw [if_neg (by simp)] at a3
  obtain ⟨⟨z0, z1, z2, z3⟩, a5, a6⟩ := Option.bind_eq_some_iff.mp a3
  cases a6
  clear a3 A3
  have A5 := Aside0.mk a5
  clear a5
  go_wp2_with fail
  refine (label_reader_fail.calls g t2 at2 e2 _ _ _ _ w0 _ H4.out.1 H4.out.2.1 A5.out).mono ?_
  rintro _ W5 ⟨rfl, hI5, hB5, hK5⟩
  have S := Aside0.mk (And.intro hI5 (And.intro hB5 (And.intro (H4.out.2.2.1.trans hK5 (.inl rfl)) (And.intro (hK5.blk H4.out.2.2.2.1 (show p4 ≠ g by omega) (by simp)) (hK5.blk H4.out.2.2.2.2 (show p5 ≠ g by omega) (by simp))))))
  clear H4 hI5 hB5 hK5 A5
  go_wp2_with fail
  refine (label_reader_starred.calls g _ _ _ _ _ _ _ w0 _ S.out.1 S.out.2.1 A4.out).mono ?_
  rintro _ W6 ⟨rfl, hI6, hB6, hK6⟩
  have b4 := hK6.blk S.out.2.2.2.1 (show p4 ≠ g by omega) (by simp)
  have b5 := hK6.blk S.out.2.2.2.2 (show p5 ≠ g by omega) (by simp)
  have hk6 := S.out.2.2.1.trans hK6 (.inl rfl)
  have S6 := Aside0.mk (And.intro hI6 (And.intro hB6 hk6))
  have c50 : W6.cell? ⟨p5, 0, none⟩ = some (.string r1) := (blk_cell b5 0).trans rfl
  have c51 : W6.cell? ⟨p5, 1, none⟩ = some (.string ⟨#[]⟩) := (blk_cell b5 1).trans rfl
  have c40 : W6.cell? ⟨p4, 0, none⟩ = some (.string ⟨#[]⟩) := (blk_cell b4 0).trans rfl
  have c41 : W6.cell? ⟨p4, 1, none⟩ = some (.string ⟨#[]⟩) := (blk_cell b4 1).trans rfl
  have f50 := blk_frozen b5 0
  have f51 := blk_frozen b5 1
  have f40 := blk_frozen b4 0
  have f41 := blk_frozen b4 1
  have hne : (p4 == p5) = false := beq_eq_false_iff_ne.mpr (by omega)
  have hne2 : ¬ p4 = p5 := by omega
  have hne3 : ¬ p5 = p4 := by omega
  have B4 := Aside0.mk b4
  have B5 := Aside0.mk b5
  clear S hI6 hB6 hK6 hk6 b4 b5
  go_wp2_with fail
  refine bodyPost_ret (results_cell_row rfl _ _ p4 43 #[.string r1, .string r2] (0, 0) _ rfl (blk_put (cs := #[.string r1, .string ⟨#[]⟩]) (blk_put (cs := #[.string ⟨#[]⟩, .string ⟨#[]⟩]) (blk_far B4.out (p := ⟨p5, 1, none⟩) hne2 _) 0 _ rfl) 1 _ rfl) Try.underlying43 rfl (by kernel_rfl)) rfl ?_
  have hw4 : w0.heap.size ≤ p4 := by have := S6.out.1.2; omega
  have hgp4 : g ≠ p4 := by omega
  have hgp5 : g ≠ p5 := by omega
  exact ⟨rfl, IsS55.far (p := ⟨p4, 1, none⟩) (IsS55.far (p := ⟨p4, 0, none⟩) (IsS55.far (p := ⟨p5, 1, none⟩) S6.out.1 hgp5 _) hgp4 _) hgp4 _, below_set (below_set (below_set S6.out.2.1 (show w0.heap.size ≤ p5 by omega)) hw4) hw4,
   keep_far (p := ⟨p4, 1, none⟩) (keep_far (p := ⟨p4, 0, none⟩) (keep_far (p := ⟨p5, 1, none⟩) S6.out.2.2 (show w.heap.size ≤ p5 by omega) _) (show w.heap.size ≤ p4 by omega) _) (show w.heap.size ≤ p4 by omega) _⟩
set_option maxRecDepth 100000 in
set_option maxHeartbeats 1600000 in
theorem one36_calls (g pc : Nat) (t : ByteArray) (at_ e : Int) (r1 r2 r3 : ByteArray) (r4 r5 : Int) (w0 w : World) (hI : IsS55 w0 w g t at_ e) (hB : Below w0.heap.size w0 w) (hc : w.heap[pc]? = some (.cells #[.pointer (some ⟨g, 0, none⟩)] 53 (0, 0))) (h : labelF label_reader_starred.f t at_ e = some (r1, r2, r3, r4, r5)) :
  Calls Try.prog 35 #[.pointer (some ⟨pc, 0, none⟩)] w fun e w' => e = .returned (.agg #[.string r1, .string r2]) ∧ IsS55 w0 w' g r3 r4 r5 ∧ Below w0.heap.size w0 w' ∧ KeepBut w w' g none := by
 have hu43 := Try.underlying43
 have A := Aside0.mk h
 obtain ⟨p1, hp1⟩ : ∃ p1, w.heap.size = p1 := ⟨_, rfl⟩
 have hg : g < p1 := by rw [← hp1]; exact hI.lt
 have hpc : pc < p1 := by rw [← hp1]; exact blk_lt hc
 have hb1 : Below w.heap.size w (w.alloc (.cells #[.string ⟨#[]⟩, .string ⟨#[]⟩] 43)) := below_alloc (Below.refl _ _) _
 have H1 : Aside0 (IsS55 w0 (w.alloc (.cells #[.string ⟨#[]⟩, .string ⟨#[]⟩] 43)) g t at_ e ∧ Below w0.heap.size w0 (w.alloc (.cells #[.string ⟨#[]⟩, .string ⟨#[]⟩] 43)) ∧ KeepBut w (w.alloc (.cells #[.string ⟨#[]⟩, .string ⟨#[]⟩] 43)) g none ∧ (w.alloc (.cells #[.string ⟨#[]⟩, .string ⟨#[]⟩] 43)).heap[p1]? = some (.cells #[.string ⟨#[]⟩, .string ⟨#[]⟩] 43 (0, 0))) :=
  ⟨hI.alloc _, below_alloc hB _, keep_alloc (KeepBut.refl _ _ _) _, by rw [← hp1]; exact heap_alloc_new w _⟩
 have c0_ : w.cell? ⟨pc, 0, none⟩ = some (.pointer (some ⟨g, 0, none⟩)) := (blk_cell hc 0).trans rfl
 clear h hI hB hc hb1
 go_enter Try.func35, Try.ntmps35
 go_wp2_with fail
 refine (label36_calls g t at_ e _ _ _ _ _ w0 _ H1.out.1 H1.out.2.1 A.out).mono ?_
 rintro _ W2 ⟨rfl, hI2, hB2, hK2⟩
 have b1 := hK2.blk H1.out.2.2.2 (show p1 ≠ g by omega) (by simp)
 have S := Aside0.mk (And.intro hI2 (And.intro hB2 (H1.out.2.2.1.trans hK2 (.inl rfl))))
 have c10 : W2.cell? ⟨p1, 0, none⟩ = some (.string ⟨#[]⟩) := (blk_cell b1 0).trans rfl
 have c11 : W2.cell? ⟨p1, 1, none⟩ = some (.string ⟨#[]⟩) := (blk_cell b1 1).trans rfl
 have f10 := blk_frozen b1 0
 have f11 := blk_frozen b1 1
 have B1 := Aside0.mk b1
 clear H1 hI2 hB2 hK2 b1 A
 go_wp2_with fail
 refine bodyPost_ret (results_cell_row rfl _ _ p1 43 #[.string r1, .string r2] (0, 0) _ rfl (blk_put (cs := #[.string r1, .string ⟨#[]⟩]) (blk_put (cs := #[.string ⟨#[]⟩, .string ⟨#[]⟩]) B1.out 0 _ rfl) 1 _ rfl) Try.underlying43 rfl (by kernel_rfl)) rfl ?_
 have hw1 : w0.heap.size ≤ p1 := by have := S.out.1.2; omega
 have hgp : g ≠ p1 := by omega
 exact ⟨rfl, IsS55.far (p := ⟨p1, 1, none⟩) (IsS55.far (p := ⟨p1, 0, none⟩) S.out.1 hgp _) hgp _, below_set (below_set S.out.2.1 hw1) hw1,
  keep_far (p := ⟨p1, 1, none⟩) (keep_far (p := ⟨p1, 0, none⟩) S.out.2.2 (show w.heap.size ≤ p1 by omega) _) (show w.heap.size ≤ p1 by omega) _⟩
end Go.Proofs.Ytfnfjkddlnnolaa.P
