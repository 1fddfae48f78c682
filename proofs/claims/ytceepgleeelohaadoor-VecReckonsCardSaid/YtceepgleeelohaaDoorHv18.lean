import Derived.Test.YtceepgleeelohaaDoorHv0
import Derived.Test.YtceepgleeelohaaDoorHv7
import Derived.Test.YtceepgleeelohaaDoorHv13
import Derived.Test.YtceepgleeelohaaDoorHv17
import Derived.Test.YtceepgleeelohaaDoorPureVecShare
import Derived.Test.YtceepgleeelohaaDoorPureVecPrints
/- The law VecReckons, walked. -/
namespace Go.Proofs.YtceepgleeelohaaDoor.P
set_option linter.unusedVariables false
set_option linter.unusedSimpArgs false
open Go.RowKit Go.Proofs.YtceepgleeelohaaDoorW.PrintWords Go.Proofs.YtceepgleeelohaaDoorW.PrintLast Go.Proofs.YtceepgleeelohaaDoorW.PrintMore
attribute [local go_sem] max2_int min2_int max_two min_two eq23
/-- two rows lie in a block -/
structure Tw (W : World) (g : Nat) (a b c d e a' b' c' d' e' : Int) : Prop where mk :: (out : W.heap[g]? = some (.cells #[.int .i64 a, .int .i64 b, .int .i64 c, .int .i64 d, .int .i64 e, .int .i64 a', .int .i64 b', .int .i64 c', .int .i64 d', .int .i64 e'] 46 (0, 0)))
theorem Tw.lt {W : World} {g : Nat} {a b c d e a' b' c' d' e' : Int} (h : Tw W g a b c d e a' b' c' d' e') : g < W.heap.size := blk_lt h.out
theorem Tw.below {W W' : World} {g : Nat} {a b c d e a' b' c' d' e' : Int} (h : Tw W g a b c d e a' b' c' d' e') (hb : Below W.heap.size W W') : Tw W' g a b c d e a' b' c' d' e' := ⟨(hb.block g h.lt).trans h.out⟩
theorem Tw.alloc {W : World} {g : Nat} {a b c d e a' b' c' d' e' : Int} (h : Tw W g a b c d e a' b' c' d' e') (o : Obj) : Tw (W.alloc o) g a b c d e a' b' c' d' e' := ⟨(Below.heap_alloc W o g h.lt).trans h.out⟩
theorem Tw.drew {W : World} {g : Nat} {a b c d e a' b' c' d' e' : Int} (h : Tw W g a b c d e a' b' c' d' e') : Tw W.drew g a b c d e a' b' c' d' e' := ⟨h.out⟩
theorem Tw.cell_0 {W : World} {g : Nat} {a b c d e a' b' c' d' e' : Int} (h : Tw W g a b c d e a' b' c' d' e') : W.cell? ⟨g, 0, none⟩ = some (.int .i64 a) := (blk_cell h.out 0).trans rfl
theorem Tw.cell_1 {W : World} {g : Nat} {a b c d e a' b' c' d' e' : Int} (h : Tw W g a b c d e a' b' c' d' e') : W.cell? ⟨g, 1, none⟩ = some (.int .i64 b) := (blk_cell h.out 1).trans rfl
theorem Tw.cell_2 {W : World} {g : Nat} {a b c d e a' b' c' d' e' : Int} (h : Tw W g a b c d e a' b' c' d' e') : W.cell? ⟨g, 2, none⟩ = some (.int .i64 c) := (blk_cell h.out 2).trans rfl
theorem Tw.cell_3 {W : World} {g : Nat} {a b c d e a' b' c' d' e' : Int} (h : Tw W g a b c d e a' b' c' d' e') : W.cell? ⟨g, 3, none⟩ = some (.int .i64 d) := (blk_cell h.out 3).trans rfl
theorem Tw.cell_4 {W : World} {g : Nat} {a b c d e a' b' c' d' e' : Int} (h : Tw W g a b c d e a' b' c' d' e') : W.cell? ⟨g, 4, none⟩ = some (.int .i64 e) := (blk_cell h.out 4).trans rfl
theorem Tw.cell_5 {W : World} {g : Nat} {a b c d e a' b' c' d' e' : Int} (h : Tw W g a b c d e a' b' c' d' e') : W.cell? ⟨g, 5, none⟩ = some (.int .i64 a') := (blk_cell h.out 5).trans rfl
theorem Tw.cell_6 {W : World} {g : Nat} {a b c d e a' b' c' d' e' : Int} (h : Tw W g a b c d e a' b' c' d' e') : W.cell? ⟨g, 6, none⟩ = some (.int .i64 b') := (blk_cell h.out 6).trans rfl
theorem Tw.cell_7 {W : World} {g : Nat} {a b c d e a' b' c' d' e' : Int} (h : Tw W g a b c d e a' b' c' d' e') : W.cell? ⟨g, 7, none⟩ = some (.int .i64 c') := (blk_cell h.out 7).trans rfl
theorem Tw.cell_8 {W : World} {g : Nat} {a b c d e a' b' c' d' e' : Int} (h : Tw W g a b c d e a' b' c' d' e') : W.cell? ⟨g, 8, none⟩ = some (.int .i64 d') := (blk_cell h.out 8).trans rfl
theorem Tw.cell_9 {W : World} {g : Nat} {a b c d e a' b' c' d' e' : Int} (h : Tw W g a b c d e a' b' c' d' e') : W.cell? ⟨g, 9, none⟩ = some (.int .i64 e') := (blk_cell h.out 9).trans rfl
theorem Tw.five_other {W : World} {g h : Nat} {a b c d e a' b' c' d' e' : Int} (hA : Tw W g a b c d e a' b' c' d' e') (hk : g ≠ h) (x0 x1 x2 x3 x4 : Value) : Tw (((((W.setCell ⟨h, 0, none⟩ x0).setCell ⟨h, 1, none⟩ x1).setCell ⟨h, 2, none⟩ x2).setCell ⟨h, 3, none⟩ x3).setCell ⟨h, 4, none⟩ x4) g a b c d e a' b' c' d' e' :=
  have f : ∀ (W : World) (i : Nat) (x : Value), Tw W g a b c d e a' b' c' d' e' → Tw (W.setCell ⟨h, i, none⟩ x) g a b c d e a' b' c' d' e' := fun W i x hW => ⟨(Below.heap_setCell W _ x g hk).trans hW.out⟩
  f _ _ _ (f _ _ _ (f _ _ _ (f _ _ _ (f _ _ _ hA))))
theorem At.new_at {W : World} {h : Nat} (hs : W.heap.size = h) : At (W.alloc (.cells #[.int .i64 0, .int .i64 0, .int .i64 0, .int .i64 0, .int .i64 0] 23)) h 0 0 0 0 0 := hs ▸ At.new W 0 0 0 0 0
theorem two_new (W : World) : At ((W.alloc (.cells #[.int .i64 0, .int .i64 0, .int .i64 0, .int .i64 0, .int .i64 0] 23)).alloc (.cells #[.int .i64 0, .int .i64 0, .int .i64 0, .int .i64 0, .int .i64 0] 23)) W.heap.size 0 0 0 0 0 ∧ At ((W.alloc (.cells #[.int .i64 0, .int .i64 0, .int .i64 0, .int .i64 0, .int .i64 0] 23)).alloc (.cells #[.int .i64 0, .int .i64 0, .int .i64 0, .int .i64 0, .int .i64 0] 23)) (W.heap.size + 1) 0 0 0 0 0 ∧ Below W.heap.size W ((W.alloc (.cells #[.int .i64 0, .int .i64 0, .int .i64 0, .int .i64 0, .int .i64 0] 23)).alloc (.cells #[.int .i64 0, .int .i64 0, .int .i64 0, .int .i64 0, .int .i64 0] 23)) :=
  ⟨(At.new _ _ _ _ _ _).alloc _, by simpa using At.new (W.alloc (.cells #[.int .i64 0, .int .i64 0, .int .i64 0, .int .i64 0, .int .i64 0] 23)) 0 0 0 0 0, below_alloc (below_alloc (Below.refl _ _) _) _⟩
set_option maxRecDepth 100000 in
set_option maxHeartbeats 4000000 in
theorem vecReckons_w (bl o cap n : Nat) (L : Option Addr) (vs : List V) (a b c d e a' b' c' d' e' num : Int) (w : World) (hm : (if (12 : Int) < (n : Int) then (12 : Int) else (n : Int)) = (vs.length : Int)) (hmn : vs.length ≤ cap) (hm12 : vs.length ≤ 12)
    (hA : vs ≠ [] → L = some ⟨bl, o, none⟩ ∧ Rws w bl o vs) (hw : ∀ v ∈ vs, ∀ i, V.get v i ≤ 9223372036854775807) (hT : Tb w) (hN : Nm w)
    (e1 : V.rshare ⟨a, b, c, d, e⟩ ⟨a', b', c', d', e'⟩ = (V.max (V.shares ⟨a, b, c, d, e⟩ ⟨a', b', c', d', e'⟩).1, (V.shares ⟨a, b, c, d, e⟩ ⟨a', b', c', d', e'⟩).2)) (e2 : V.roverK ⟨a, b, c, d, e⟩ ⟨a', b', c', d', e'⟩ 5 = V.overK ⟨a, b, c, d, e⟩ ⟨a', b', c', d', e'⟩ 5) :
    Calls Tryd.prog 7 #[.slice L n cap, .agg #[.int .i64 a, .int .i64 b, .int .i64 c, .int .i64 d, .int .i64 e, .int .i64 a', .int .i64 b', .int .i64 c', .int .i64 d', .int .i64 e'], .int .i64 num] w fun e_ w' => e_ = .returned (.bool true) ∧ Below w.heap.size w w' := by
  obtain ⟨g, hg⟩ : ∃ g, w.heap.size = g := ⟨_, rfl⟩
  obtain ⟨W0, hW0⟩ : ∃ W, w.alloc (.cells #[.int .i64 a, .int .i64 b, .int .i64 c, .int .i64 d, .int .i64 e, .int .i64 a', .int .i64 b', .int .i64 c', .int .i64 d', .int .i64 e'] 46) = W := ⟨_, rfl⟩
  have t_ : Tw W0 g a b c d e a' b' c' d' e' := by rw [← hW0, ← hg]; exact ⟨heap_alloc_new w _⟩
  have b0_ : Below g w W0 := by rw [← hW0, ← hg]; exact below_alloc (Below.refl _ _) _
  have t0_ := t_.drew
  obtain ⟨H, hH⟩ : ∃ H, W0.heap.size = H := ⟨_, rfl⟩
  have tn_ := two_new W0.drew
  have hH2 : W0.drew.heap.size = H := hH
  rw [hH2] at tn_
  have tn1_ : At (W0.drew.alloc (.cells #[.int .i64 0, .int .i64 0, .int .i64 0, .int .i64 0, .int .i64 0] 23)) H 0 0 0 0 0 := At.new_at hH2
  have tnb_ : Below H W0.drew (W0.drew.alloc (.cells #[.int .i64 0, .int .i64 0, .int .i64 0, .int .i64 0, .int .i64 0] 23)) := by rw [← hH2]; exact below_alloc (Below.refl _ _) _
  have hgH0 : g < H := by have := t_.lt; omega
  have hgH : g ≠ H := by omega
  have hgH1 : g ≠ H + 1 := by omega
  have h0m : (0 : Int) ≤ (vs.length : Int) := by omega
  have hmc : (vs.length : Int) ≤ (cap : Int) := by omega
  obtain ⟨⟨⟨P0, P1, P2, P3, P4⟩, Pe⟩, hP⟩ : ∃ r, V.plus vs = r := ⟨_, rfl⟩
  obtain ⟨⟨⟨M0, M1, M2, M3, M4⟩, Me⟩, hM⟩ : ∃ r, V.minus ⟨a, b, c, d, e⟩ ⟨a', b', c', d', e'⟩ = r := ⟨_, rfl⟩
  obtain ⟨⟨⟨T0, T1, T2, T3, T4⟩, Te⟩, hTm⟩ : ∃ r, V.times ⟨a, b, c, d, e⟩ num = r := ⟨_, rfl⟩
  obtain ⟨sn, hsn⟩ : ∃ r, V.max (V.shares ⟨a, b, c, d, e⟩ ⟨a', b', c', d', e'⟩).1 = r := ⟨_, rfl⟩
  obtain ⟨se, hse⟩ : ∃ r, (V.shares ⟨a, b, c, d, e⟩ ⟨a', b', c', d', e'⟩).2 = r := ⟨_, rfl⟩
  obtain ⟨qc, hqc⟩ : ∃ r, V.check ⟨a, b, c, d, e⟩ = r := ⟨_, rfl⟩
  obtain ⟨fb, hfb⟩ : ∃ r, V.fits ⟨a, b, c, d, e⟩ ⟨a', b', c', d', e'⟩ = r := ⟨_, rfl⟩
  obtain ⟨ov, hov⟩ : ∃ r, V.overK ⟨a, b, c, d, e⟩ ⟨a', b', c', d', e'⟩ 5 = r := ⟨_, rfl⟩
  have C3 := fun W (h : Below w.heap.size w W) => plus_c bl o cap L vs W (by omega) hmn (fun h0 => ⟨(hA h0).1, (hA h0).2.below h⟩)
  have C4 := fun W (h : Below w.heap.size w W) => rplus_c bl o cap L vs W (by omega) hmn (fun h0 => ⟨(hA h0).1, (hA h0).2.below h⟩) hw
  have C5 := fun W => minus_c a b c d e a' b' c' d' e' W
  have C6 := fun W => rminus_c a b c d e a' b' c' d' e' W
  have C7 := fun W => times_c a b c d e num W
  have C8 := fun W => rtimes_c a b c d e num W
  have C9 := fun W => share_c a b c d e a' b' c' d' e' W
  have C10 := fun W => rshare_c a b c d e a' b' c' d' e' W
  have C11 := fun W => check_c a b c d e W
  have C12 := fun W => rcheck_c a b c d e W
  have C13 := fun W => fits_c a b c d e a' b' c' d' e' W
  have C14 := fun W => rfits_c a b c d e a' b' c' d' e' W
  have C15 := fun W => over_c a b c d e a' b' c' d' e' W
  have C16 := fun W => rover_c a b c d e a' b' c' d' e' W
  rw [← check_same] at C12
  rw [e1] at C10
  rw [e2] at C16
  rw [hP] at C3 C4
  rw [hM] at C5 C6
  rw [hTm] at C7 C8
  rw [hsn, hse] at C9 C10
  rw [hqc] at C11 C12
  rw [hfb] at C13 C14
  rw [hov] at C15 C16
  dsimp only at C3 C4 C5 C6 C7 C8 C9 C10 C11 C12 C13 C14 C15 C16
  have D3 := Aside0.mk C3
  have D4 := Aside0.mk C4
  have D5 := Aside0.mk C5
  have D6 := Aside0.mk C6
  have D7 := Aside0.mk C7
  have D8 := Aside0.mk C8
  have D9 := Aside0.mk C9
  have D10 := Aside0.mk C10
  have D11 := Aside0.mk C11
  have D12 := Aside0.mk C12
  have D13 := Aside0.mk C13
  have D14 := Aside0.mk C14
  have D15 := Aside0.mk C15
  have D16 := Aside0.mk C16
  clear hP hM hTm hsn hse hqc hfb hov C3 C4 C5 C6 C7 C8 C9 C10 C11 C12 C13 C14 C15 C16
  have HS := Aside0.mk (And.intro hm12 (And.intro hA (And.intro hw (And.intro hmn (And.intro e1 e2)))))
  have HT := Aside0.mk (And.intro hT hN)
  clear hm12 hA hw e1 e2 hT hN t_
  go_enter Tryd.func7, Tryd.ntmps7
  go_wp2_with fail
  refine start_ (n := 8) (S := fun w' => w'.cell? ⟨g, 0, none⟩ = some (.int .i64 a) ∧ w'.cell? ⟨g, 1, none⟩ = some (.int .i64 b) ∧ w'.cell? ⟨g, 2, none⟩ = some (.int .i64 c) ∧ w'.cell? ⟨g, 3, none⟩ = some (.int .i64 d) ∧ w'.cell? ⟨g, 4, none⟩ = some (.int .i64 e) ∧ w'.cell? ⟨g, 5, none⟩ = some (.int .i64 a') ∧ w'.cell? ⟨g, 6, none⟩ = some (.int .i64 b') ∧ w'.cell? ⟨g, 7, none⟩ = some (.int .i64 c') ∧ w'.cell? ⟨g, 8, none⟩ = some (.int .i64 d') ∧ w'.cell? ⟨g, 9, none⟩ = some (.int .i64 e')) (ds := [7]) #[false, false, false, false, false, false, false, false] (by kernel_rfl) rfl rfl ⟨t0_.cell_0, t0_.cell_1, t0_.cell_2, t0_.cell_3, t0_.cell_4, t0_.cell_5, t0_.cell_6, t0_.cell_7, t0_.cell_8, t0_.cell_9⟩ (fun hHeld => ?_)
  refine pure_ (i := 0) (N := some 30) (v := ?_) (a' := ?_) #[true, false, false, false, false, false, false, false] rfl rfl (by kernel_rfl) (fun _ _ _ h => h) (Or.inl ⟨by rfl, ?_⟩) ?_ ?_
  rotate_left
  · intro w'
    go_simp
    with_reducible rfl
  rotate_left
  · simp only [Act.put, List.setIfInBounds_toArray, List.set_cons_zero, List.set_cons_succ, i64_w, i32_w]
    rfl
  refine pure_ (i := 2) (N := some 32) (v := ?_) (a' := ?_) #[true, false, true, false, false, false, false, false] rfl rfl (by kernel_rfl) (fun _ _ _ h => h) (Or.inl ⟨by rfl, ?_⟩) ?_ ?_
  rotate_left
  · intro w'
    go_simp
    with_reducible rfl
  rotate_left
  · simp only [Act.put, List.setIfInBounds_toArray, List.set_cons_zero, List.set_cons_succ, i64_w, i32_w]
    rfl
  refine take_ (i := 1) (N := some 31) (v := ?_) (a' := ?_) #[true, true, true, false, false, false, false, false] rfl rfl (by kernel_rfl) (fun _ _ _ h => h) (Or.inl ⟨by rfl, ?_⟩) hHeld ?_ ?_
  rotate_left
  · rintro w' ⟨s0, s1, s2, s3, s4, s5, s6, s7, s8, s9⟩
    go_simp
    with_reducible rfl
  rotate_left
  · simp only [Act.put, List.setIfInBounds_toArray, List.set_cons_zero, List.set_cons_succ, i64_w, i32_w]
    rfl
  refine take_ (i := 3) (N := some 33) (v := ?_) (a' := ?_) #[true, true, true, true, false, false, false, false] rfl rfl (by kernel_rfl) (fun _ _ _ h => h) (Or.inl ⟨by rfl, ?_⟩) hHeld ?_ ?_
  rotate_left
  · rintro w' ⟨s0, s1, s2, s3, s4, s5, s6, s7, s8, s9⟩
    go_simp
    with_reducible rfl
  rotate_left
  · simp only [Act.put, List.setIfInBounds_toArray, List.set_cons_zero, List.set_cons_succ, i64_w, i32_w]
    rfl
  refine join_ (σ := Nat × Nat) 2 #[true, true, true, true, true, true, false, false] (fun s_ => [(7, .pointer (some ⟨s_.1, 0, none⟩)), (8, .pointer (some ⟨s_.2, 0, none⟩))]) (fun s_ w' => (At w' s_.1 0 0 0 0 0 ∧ At w' s_.2 0 0 0 0 0) ∧ (s_.1 ≠ s_.2 ∧ H ≤ s_.1 ∧ H ≤ s_.2) ∧ Below H W0.drew w' ∧ Tw w' g a b c d e a' b' c' d' e') ?_ ?_
  rotate_left
  · intro hCont
    refine two_ (i := 4) (j := 5) (Ni := some 7) (Nj := some 8) #[true, true, true, true, true, false, false, false] #[true, true, true, true, false, true, false, false] rfl rfl rfl rfl (by kernel_rfl) (by decide) (by decide) (fun K hK => ?_) (fun K hK => ?_)
    · skip
      refine value_ (w1 := ?_) (v := ?_) (by rfl) rfl ?_ ?_
      rotate_left 2
      · go_simp
        constructor
        · rfl
        · rfl
      refine hK.out _ _ ⟨(t0_.alloc (.cells #[.int .i64 0, .int .i64 0, .int .i64 0, .int .i64 0, .int .i64 0] 23)).cell_0, (t0_.alloc (.cells #[.int .i64 0, .int .i64 0, .int .i64 0, .int .i64 0, .int .i64 0] 23)).cell_1, (t0_.alloc (.cells #[.int .i64 0, .int .i64 0, .int .i64 0, .int .i64 0, .int .i64 0] 23)).cell_2, (t0_.alloc (.cells #[.int .i64 0, .int .i64 0, .int .i64 0, .int .i64 0, .int .i64 0] 23)).cell_3, (t0_.alloc (.cells #[.int .i64 0, .int .i64 0, .int .i64 0, .int .i64 0, .int .i64 0] 23)).cell_4, (t0_.alloc (.cells #[.int .i64 0, .int .i64 0, .int .i64 0, .int .i64 0, .int .i64 0] 23)).cell_5, (t0_.alloc (.cells #[.int .i64 0, .int .i64 0, .int .i64 0, .int .i64 0, .int .i64 0] 23)).cell_6, (t0_.alloc (.cells #[.int .i64 0, .int .i64 0, .int .i64 0, .int .i64 0, .int .i64 0] 23)).cell_7, (t0_.alloc (.cells #[.int .i64 0, .int .i64 0, .int .i64 0, .int .i64 0, .int .i64 0] 23)).cell_8, (t0_.alloc (.cells #[.int .i64 0, .int .i64 0, .int .i64 0, .int .i64 0, .int .i64 0] 23)).cell_9⟩ (fun hHeld => ?_)
      clear hK K
      refine norm_ (a' := ?_) ?_ ?_
      rotate_left
      · show Act.put _ (some 7) _ = _
        simp only [Act.put, List.setIfInBounds_toArray, List.set_cons_zero, List.set_cons_succ, i64_w, i32_w]
        rfl
      refine one_ (i := 5) (N := some 8) #[true, true, true, true, true, true, false, false] rfl rfl (by kernel_rfl) (by decide) (fun K hK => ?_)
      refine value_ (w1 := ?_) (v := ?_) (by rfl) rfl ?_ ?_
      rotate_left 2
      · go_simp
        constructor
        · rfl
        · rfl
      refine hK.out _ _ ⟨((t0_.alloc (.cells #[.int .i64 0, .int .i64 0, .int .i64 0, .int .i64 0, .int .i64 0] 23)).alloc (.cells #[.int .i64 0, .int .i64 0, .int .i64 0, .int .i64 0, .int .i64 0] 23)).cell_0, ((t0_.alloc (.cells #[.int .i64 0, .int .i64 0, .int .i64 0, .int .i64 0, .int .i64 0] 23)).alloc (.cells #[.int .i64 0, .int .i64 0, .int .i64 0, .int .i64 0, .int .i64 0] 23)).cell_1, ((t0_.alloc (.cells #[.int .i64 0, .int .i64 0, .int .i64 0, .int .i64 0, .int .i64 0] 23)).alloc (.cells #[.int .i64 0, .int .i64 0, .int .i64 0, .int .i64 0, .int .i64 0] 23)).cell_2, ((t0_.alloc (.cells #[.int .i64 0, .int .i64 0, .int .i64 0, .int .i64 0, .int .i64 0] 23)).alloc (.cells #[.int .i64 0, .int .i64 0, .int .i64 0, .int .i64 0, .int .i64 0] 23)).cell_3, ((t0_.alloc (.cells #[.int .i64 0, .int .i64 0, .int .i64 0, .int .i64 0, .int .i64 0] 23)).alloc (.cells #[.int .i64 0, .int .i64 0, .int .i64 0, .int .i64 0, .int .i64 0] 23)).cell_4, ((t0_.alloc (.cells #[.int .i64 0, .int .i64 0, .int .i64 0, .int .i64 0, .int .i64 0] 23)).alloc (.cells #[.int .i64 0, .int .i64 0, .int .i64 0, .int .i64 0, .int .i64 0] 23)).cell_5, ((t0_.alloc (.cells #[.int .i64 0, .int .i64 0, .int .i64 0, .int .i64 0, .int .i64 0] 23)).alloc (.cells #[.int .i64 0, .int .i64 0, .int .i64 0, .int .i64 0, .int .i64 0] 23)).cell_6, ((t0_.alloc (.cells #[.int .i64 0, .int .i64 0, .int .i64 0, .int .i64 0, .int .i64 0] 23)).alloc (.cells #[.int .i64 0, .int .i64 0, .int .i64 0, .int .i64 0, .int .i64 0] 23)).cell_7, ((t0_.alloc (.cells #[.int .i64 0, .int .i64 0, .int .i64 0, .int .i64 0, .int .i64 0] 23)).alloc (.cells #[.int .i64 0, .int .i64 0, .int .i64 0, .int .i64 0, .int .i64 0] 23)).cell_8, ((t0_.alloc (.cells #[.int .i64 0, .int .i64 0, .int .i64 0, .int .i64 0, .int .i64 0] 23)).alloc (.cells #[.int .i64 0, .int .i64 0, .int .i64 0, .int .i64 0, .int .i64 0] 23)).cell_9⟩ (fun hHeld => ?_)
      clear hK K
      refine norm_ (a' := ?_) ?_ ?_
      rotate_left
      · show Act.put _ (some 8) _ = _
        simp only [Act.put, List.setIfInBounds_toArray, List.set_cons_zero, List.set_cons_succ, i64_w, i32_w]
        rfl
      exact norm_ (by simp only [putAll, Act.put, List.setIfInBounds_toArray, List.set_cons_zero, List.set_cons_succ]) (hCont (H, H + 1) _ ⟨⟨tn_.1, tn_.2.1⟩, ⟨by omega, by omega, by omega⟩, tn_.2.2, ((t0_.alloc (.cells #[.int .i64 0, .int .i64 0, .int .i64 0, .int .i64 0, .int .i64 0] 23)).alloc (.cells #[.int .i64 0, .int .i64 0, .int .i64 0, .int .i64 0, .int .i64 0] 23))⟩)
    · skip
      refine value_ (w1 := ?_) (v := ?_) (by rfl) rfl ?_ ?_
      rotate_left 2
      · go_simp
        constructor
        · rfl
        · rfl
      refine hK.out _ _ ⟨(t0_.alloc (.cells #[.int .i64 0, .int .i64 0, .int .i64 0, .int .i64 0, .int .i64 0] 23)).cell_0, (t0_.alloc (.cells #[.int .i64 0, .int .i64 0, .int .i64 0, .int .i64 0, .int .i64 0] 23)).cell_1, (t0_.alloc (.cells #[.int .i64 0, .int .i64 0, .int .i64 0, .int .i64 0, .int .i64 0] 23)).cell_2, (t0_.alloc (.cells #[.int .i64 0, .int .i64 0, .int .i64 0, .int .i64 0, .int .i64 0] 23)).cell_3, (t0_.alloc (.cells #[.int .i64 0, .int .i64 0, .int .i64 0, .int .i64 0, .int .i64 0] 23)).cell_4, (t0_.alloc (.cells #[.int .i64 0, .int .i64 0, .int .i64 0, .int .i64 0, .int .i64 0] 23)).cell_5, (t0_.alloc (.cells #[.int .i64 0, .int .i64 0, .int .i64 0, .int .i64 0, .int .i64 0] 23)).cell_6, (t0_.alloc (.cells #[.int .i64 0, .int .i64 0, .int .i64 0, .int .i64 0, .int .i64 0] 23)).cell_7, (t0_.alloc (.cells #[.int .i64 0, .int .i64 0, .int .i64 0, .int .i64 0, .int .i64 0] 23)).cell_8, (t0_.alloc (.cells #[.int .i64 0, .int .i64 0, .int .i64 0, .int .i64 0, .int .i64 0] 23)).cell_9⟩ (fun hHeld => ?_)
      clear hK K
      refine norm_ (a' := ?_) ?_ ?_
      rotate_left
      · show Act.put _ (some 8) _ = _
        simp only [Act.put, List.setIfInBounds_toArray, List.set_cons_zero, List.set_cons_succ, i64_w, i32_w]
        rfl
      refine one_ (i := 4) (N := some 7) #[true, true, true, true, true, true, false, false] rfl rfl (by kernel_rfl) (by decide) (fun K hK => ?_)
      refine value_ (w1 := ?_) (v := ?_) (by rfl) rfl ?_ ?_
      rotate_left 2
      · go_simp
        constructor
        · rfl
        · rfl
      refine hK.out _ _ ⟨((t0_.alloc (.cells #[.int .i64 0, .int .i64 0, .int .i64 0, .int .i64 0, .int .i64 0] 23)).alloc (.cells #[.int .i64 0, .int .i64 0, .int .i64 0, .int .i64 0, .int .i64 0] 23)).cell_0, ((t0_.alloc (.cells #[.int .i64 0, .int .i64 0, .int .i64 0, .int .i64 0, .int .i64 0] 23)).alloc (.cells #[.int .i64 0, .int .i64 0, .int .i64 0, .int .i64 0, .int .i64 0] 23)).cell_1, ((t0_.alloc (.cells #[.int .i64 0, .int .i64 0, .int .i64 0, .int .i64 0, .int .i64 0] 23)).alloc (.cells #[.int .i64 0, .int .i64 0, .int .i64 0, .int .i64 0, .int .i64 0] 23)).cell_2, ((t0_.alloc (.cells #[.int .i64 0, .int .i64 0, .int .i64 0, .int .i64 0, .int .i64 0] 23)).alloc (.cells #[.int .i64 0, .int .i64 0, .int .i64 0, .int .i64 0, .int .i64 0] 23)).cell_3, ((t0_.alloc (.cells #[.int .i64 0, .int .i64 0, .int .i64 0, .int .i64 0, .int .i64 0] 23)).alloc (.cells #[.int .i64 0, .int .i64 0, .int .i64 0, .int .i64 0, .int .i64 0] 23)).cell_4, ((t0_.alloc (.cells #[.int .i64 0, .int .i64 0, .int .i64 0, .int .i64 0, .int .i64 0] 23)).alloc (.cells #[.int .i64 0, .int .i64 0, .int .i64 0, .int .i64 0, .int .i64 0] 23)).cell_5, ((t0_.alloc (.cells #[.int .i64 0, .int .i64 0, .int .i64 0, .int .i64 0, .int .i64 0] 23)).alloc (.cells #[.int .i64 0, .int .i64 0, .int .i64 0, .int .i64 0, .int .i64 0] 23)).cell_6, ((t0_.alloc (.cells #[.int .i64 0, .int .i64 0, .int .i64 0, .int .i64 0, .int .i64 0] 23)).alloc (.cells #[.int .i64 0, .int .i64 0, .int .i64 0, .int .i64 0, .int .i64 0] 23)).cell_7, ((t0_.alloc (.cells #[.int .i64 0, .int .i64 0, .int .i64 0, .int .i64 0, .int .i64 0] 23)).alloc (.cells #[.int .i64 0, .int .i64 0, .int .i64 0, .int .i64 0, .int .i64 0] 23)).cell_8, ((t0_.alloc (.cells #[.int .i64 0, .int .i64 0, .int .i64 0, .int .i64 0, .int .i64 0] 23)).alloc (.cells #[.int .i64 0, .int .i64 0, .int .i64 0, .int .i64 0, .int .i64 0] 23)).cell_9⟩ (fun hHeld => ?_)
      clear hK K
      refine norm_ (a' := ?_) ?_ ?_
      rotate_left
      · show Act.put _ (some 7) _ = _
        simp only [Act.put, List.setIfInBounds_toArray, List.set_cons_zero, List.set_cons_succ, i64_w, i32_w]
        rfl
      exact norm_ (by simp only [putAll, Act.put, List.setIfInBounds_toArray, List.set_cons_zero, List.set_cons_succ]) (hCont (H + 1, H) _ ⟨⟨tn_.2.1, tn_.1⟩, ⟨by omega, by omega, by omega⟩, tn_.2.2, ((t0_.alloc (.cells #[.int .i64 0, .int .i64 0, .int .i64 0, .int .i64 0, .int .i64 0] 23)).alloc (.cells #[.int .i64 0, .int .i64 0, .int .i64 0, .int .i64 0, .int .i64 0] 23))⟩)
  rintro ⟨p, q⟩ wF ⟨⟨hp_, hq_⟩, ⟨hpq, hHp, hHq⟩, hbF, tF_⟩
  dsimp only at hp_ hq_ hpq hHp hHq
  have hgp : g ≠ p := by omega
  have hHeld : wF.cell? ⟨g, 0, none⟩ = some (.int .i64 a) ∧ wF.cell? ⟨g, 1, none⟩ = some (.int .i64 b) ∧ wF.cell? ⟨g, 2, none⟩ = some (.int .i64 c) ∧ wF.cell? ⟨g, 3, none⟩ = some (.int .i64 d) ∧ wF.cell? ⟨g, 4, none⟩ = some (.int .i64 e) ∧ wF.cell? ⟨g, 5, none⟩ = some (.int .i64 a') ∧ wF.cell? ⟨g, 6, none⟩ = some (.int .i64 b') ∧ wF.cell? ⟨g, 7, none⟩ = some (.int .i64 c') ∧ wF.cell? ⟨g, 8, none⟩ = some (.int .i64 d') ∧ wF.cell? ⟨g, 9, none⟩ = some (.int .i64 e') := ⟨tF_.cell_0, tF_.cell_1, tF_.cell_2, tF_.cell_3, tF_.cell_4, tF_.cell_5, tF_.cell_6, tF_.cell_7, tF_.cell_8, tF_.cell_9⟩
  refine norm_ (a' := ?_) ?_ ?_
  rotate_left
  · simp only [putAll, Act.put, List.setIfInBounds_toArray, List.set_cons_zero, List.set_cons_succ]
    rfl
  refine one_ (i := 6) (N := none) #[true, true, true, true, true, true, true, false] rfl rfl (by kernel_rfl) (by decide) (fun K hK => ?_)
  have f0_ := hp_.fz 0
  have f1_ := hp_.fz 1
  have f2_ := hp_.fz 2
  have f3_ := hp_.fz 3
  have f4_ := hp_.fz 4
  have k0_ := hp_.cell_0
  have k1_ := hp_.cell_1
  have k2_ := hp_.cell_2
  have k3_ := hp_.cell_3
  have k4_ := hp_.cell_4
  refine skip_ (w1 := ?_) (by rfl) rfl ?_ ?_
  rotate_left
  · go_simp
    rfl
  clear f0_ k0_ f1_ k1_ f2_ k2_ f3_ k3_ f4_ k4_
  have hp2_ := hp_.five a b c d e
  have hq2_ := hq_.five_other (Ne.symm hpq) (.int .i64 a) (.int .i64 b) (.int .i64 c) (.int .i64 d) (.int .i64 e)
  have tF2_ := Tw.five_other tF_ hgp (.int .i64 a) (.int .i64 b) (.int .i64 c) (.int .i64 d) (.int .i64 e)
  refine hK.out _ _ ⟨tF2_.cell_0, tF2_.cell_1, tF2_.cell_2, tF2_.cell_3, tF2_.cell_4, tF2_.cell_5, tF2_.cell_6, tF2_.cell_7, tF2_.cell_8, tF2_.cell_9⟩ (fun hHeld => ?_)
  clear hK K
  refine last_ (i := 7) (N := none) #[true, true, true, true, true, true, true, true] rfl rfl (by kernel_rfl) (by decide) (fun K hK => ?_)
  have f0_ := hq2_.fz 0
  have f1_ := hq2_.fz 1
  have f2_ := hq2_.fz 2
  have f3_ := hq2_.fz 3
  have f4_ := hq2_.fz 4
  have k0_ := hq2_.cell_0
  have k1_ := hq2_.cell_1
  have k2_ := hq2_.cell_2
  have k3_ := hq2_.cell_3
  have k4_ := hq2_.cell_4
  refine skip_ (w1 := ?_) (by rfl) rfl ?_ ?_
  rotate_left
  · go_simp
    rfl
  clear f0_ k0_ f1_ k1_ f2_ k2_ f3_ k3_ f4_ k4_
  refine hK.out _ _ ?_
  clear hK K
  refine done_ (by kernel_rfl) ?_
  have p_ := hp2_.five_other hpq (.int .i64 a') (.int .i64 b') (.int .i64 c') (.int .i64 d') (.int .i64 e')
  have q_ := hq2_.five a' b' c' d' e'
  have bb_ : Below g w (((((((((((wF).setCell ⟨p, 0, none⟩ (.int .i64 a)).setCell ⟨p, 1, none⟩ (.int .i64 b)).setCell ⟨p, 2, none⟩ (.int .i64 c)).setCell ⟨p, 3, none⟩ (.int .i64 d)).setCell ⟨p, 4, none⟩ (.int .i64 e)).setCell ⟨q, 0, none⟩ (.int .i64 a')).setCell ⟨q, 1, none⟩ (.int .i64 b')).setCell ⟨q, 2, none⟩ (.int .i64 c')).setCell ⟨q, 3, none⟩ (.int .i64 d')).setCell ⟨q, 4, none⟩ (.int .i64 e')) := (below_drew1 b0_).trans ((below_five (below_five hbF hHp (.int .i64 a) (.int .i64 b) (.int .i64 c) (.int .i64 d) (.int .i64 e)) hHq (.int .i64 a') (.int .i64 b') (.int .i64 c') (.int .i64 d') (.int .i64 e')).mono (Nat.le_of_lt hgH0))
  clear hp2_ hq2_ hp_ hq_ hbF tF_ tF2_ t0_ tn_ tn1_ tnb_ b0_
  generalize (((((((((((wF).setCell ⟨p, 0, none⟩ (.int .i64 a)).setCell ⟨p, 1, none⟩ (.int .i64 b)).setCell ⟨p, 2, none⟩ (.int .i64 c)).setCell ⟨p, 3, none⟩ (.int .i64 d)).setCell ⟨p, 4, none⟩ (.int .i64 e)).setCell ⟨q, 0, none⟩ (.int .i64 a')).setCell ⟨q, 1, none⟩ (.int .i64 b')).setCell ⟨q, 2, none⟩ (.int .i64 c')).setCell ⟨q, 3, none⟩ (.int .i64 d')).setCell ⟨q, 4, none⟩ (.int .i64 e')) = X1 at p_ q_ bb_ ⊢
  have kp0_ := p_.cell_0
  have kp1_ := p_.cell_1
  have kp2_ := p_.cell_2
  have kp3_ := p_.cell_3
  have kp4_ := p_.cell_4
  have kq0_ := q_.cell_0
  have kq1_ := q_.cell_1
  have kq2_ := q_.cell_2
  have kq3_ := q_.cell_3
  have kq4_ := q_.cell_4
  go_wp2_with fail
  clear kp0_ kp1_ kp2_ kp3_ kp4_ kq0_ kq1_ kq2_ kq3_ kq4_
  refine (D3.out _ (hg ▸ bb_)).mono ?_
  rintro _ V3 ⟨rfl, hb⟩
  replace p_ := p_.below hb
  replace q_ := q_.below hb
  replace bb_ := bk bb_ (hg ▸ bb_.size) hb
  clear hb
  have np_ := p_.lt
  have nq_ := q_.lt
  obtain ⟨h3, hh3⟩ : ∃ h, V3.heap.size = h := ⟨_, rfl⟩
  obtain ⟨W3, hW3⟩ : ∃ W, V3.alloc (.cells #[.int .i64 0, .int .i64 0, .int .i64 0, .int .i64 0, .int .i64 0] 23) = W := ⟨_, rfl⟩
  have z_ : At W3 h3 0 0 0 0 0 := by rw [← hW3, ← hh3]; exact At.new _ _ _ _ _ _
  replace p_ : At W3 p a b c d e := by rw [← hW3]; exact p_.alloc _
  replace q_ : At W3 q a' b' c' d' e' := by rw [← hW3]; exact q_.alloc _
  replace bb_ : Below g w W3 := by rw [← hW3]; exact bb_.alloc (hg ▸ bb_.size) _
  replace p_ := p_.five_other (show p ≠ h3 by omega) (.int .i64 P0) (.int .i64 P1) (.int .i64 P2) (.int .i64 P3) (.int .i64 P4)
  replace q_ := q_.five_other (show q ≠ h3 by omega) (.int .i64 P0) (.int .i64 P1) (.int .i64 P2) (.int .i64 P3) (.int .i64 P4)
  have r3_ := z_.five P0 P1 P2 P3 P4
  replace bb_ := below_five bb_ (show g ≤ h3 by omega) (.int .i64 P0) (.int .i64 P1) (.int .i64 P2) (.int .i64 P3) (.int .i64 P4)
  have f0_ := z_.fz 0
  have k0_ := z_.cell_0
  have f1_ := z_.fz 1
  have k1_ := z_.cell_1
  have f2_ := z_.fz 2
  have k2_ := z_.cell_2
  have f3_ := z_.fz 3
  have k3_ := z_.cell_3
  have f4_ := z_.fz 4
  have k4_ := z_.cell_4
  clear z_ np_ nq_
  have kp0_ := p_.cell_0
  have kp1_ := p_.cell_1
  have kp2_ := p_.cell_2
  have kp3_ := p_.cell_3
  have kp4_ := p_.cell_4
  have kq0_ := q_.cell_0
  have kq1_ := q_.cell_1
  have kq2_ := q_.cell_2
  have kq3_ := q_.cell_3
  have kq4_ := q_.cell_4
  go_wp2_with fail
  clear kp0_ kp1_ kp2_ kp3_ kp4_ kq0_ kq1_ kq2_ kq3_ kq4_ f0_ k0_ f1_ k1_ f2_ k2_ f3_ k3_ f4_ k4_ hW3 hh3
  refine (D4.out _ (hg ▸ bb_)).mono ?_
  rintro _ V4 ⟨rfl, hb⟩
  replace p_ := p_.below hb
  replace q_ := q_.below hb
  replace r3_ := r3_.below hb
  replace bb_ := bk bb_ (hg ▸ bb_.size) hb
  clear hb
  have np_ := p_.lt
  have nq_ := q_.lt
  have nr3_ := r3_.lt
  obtain ⟨h4, hh4⟩ : ∃ h, V4.heap.size = h := ⟨_, rfl⟩
  obtain ⟨W4, hW4⟩ : ∃ W, V4.alloc (.cells #[.int .i64 0, .int .i64 0, .int .i64 0, .int .i64 0, .int .i64 0] 23) = W := ⟨_, rfl⟩
  have z_ : At W4 h4 0 0 0 0 0 := by rw [← hW4, ← hh4]; exact At.new _ _ _ _ _ _
  replace p_ : At W4 p a b c d e := by rw [← hW4]; exact p_.alloc _
  replace q_ : At W4 q a' b' c' d' e' := by rw [← hW4]; exact q_.alloc _
  replace r3_ : At W4 h3 P0 P1 P2 P3 P4 := by rw [← hW4]; exact r3_.alloc _
  replace bb_ : Below g w W4 := by rw [← hW4]; exact bb_.alloc (hg ▸ bb_.size) _
  replace p_ := p_.five_other (show p ≠ h4 by omega) (.int .i64 P0) (.int .i64 P1) (.int .i64 P2) (.int .i64 P3) (.int .i64 P4)
  replace q_ := q_.five_other (show q ≠ h4 by omega) (.int .i64 P0) (.int .i64 P1) (.int .i64 P2) (.int .i64 P3) (.int .i64 P4)
  replace r3_ := r3_.five_other (show h3 ≠ h4 by omega) (.int .i64 P0) (.int .i64 P1) (.int .i64 P2) (.int .i64 P3) (.int .i64 P4)
  have r4_ := z_.five P0 P1 P2 P3 P4
  replace bb_ := below_five bb_ (show g ≤ h4 by omega) (.int .i64 P0) (.int .i64 P1) (.int .i64 P2) (.int .i64 P3) (.int .i64 P4)
  have f0_ := z_.fz 0
  have k0_ := z_.cell_0
  have f1_ := z_.fz 1
  have k1_ := z_.cell_1
  have f2_ := z_.fz 2
  have k2_ := z_.cell_2
  have f3_ := z_.fz 3
  have k3_ := z_.cell_3
  have f4_ := z_.fz 4
  have k4_ := z_.cell_4
  clear z_ np_ nq_ nr3_
  have kp0_ := p_.cell_0
  have kp1_ := p_.cell_1
  have kp2_ := p_.cell_2
  have kp3_ := p_.cell_3
  have kp4_ := p_.cell_4
  have kq0_ := q_.cell_0
  have kq1_ := q_.cell_1
  have kq2_ := q_.cell_2
  have kq3_ := q_.cell_3
  have kq4_ := q_.cell_4
  go_wp2_with fail
  clear kp0_ kp1_ kp2_ kp3_ kp4_ kq0_ kq1_ kq2_ kq3_ kq4_ f0_ k0_ f1_ k1_ f2_ k2_ f3_ k3_ f4_ k4_ hW4 hh4
  refine (D5.out _).mono ?_
  rintro _ V5 ⟨rfl, hb⟩
  replace p_ := p_.below hb
  replace q_ := q_.below hb
  replace r3_ := r3_.below hb
  replace r4_ := r4_.below hb
  replace bb_ := bk bb_ (hg ▸ bb_.size) hb
  clear hb
  have np_ := p_.lt
  have nq_ := q_.lt
  have nr3_ := r3_.lt
  have nr4_ := r4_.lt
  obtain ⟨h5, hh5⟩ : ∃ h, V5.heap.size = h := ⟨_, rfl⟩
  obtain ⟨W5, hW5⟩ : ∃ W, V5.alloc (.cells #[.int .i64 0, .int .i64 0, .int .i64 0, .int .i64 0, .int .i64 0] 23) = W := ⟨_, rfl⟩
  have z_ : At W5 h5 0 0 0 0 0 := by rw [← hW5, ← hh5]; exact At.new _ _ _ _ _ _
  replace p_ : At W5 p a b c d e := by rw [← hW5]; exact p_.alloc _
  replace q_ : At W5 q a' b' c' d' e' := by rw [← hW5]; exact q_.alloc _
  replace r3_ : At W5 h3 P0 P1 P2 P3 P4 := by rw [← hW5]; exact r3_.alloc _
  replace r4_ : At W5 h4 P0 P1 P2 P3 P4 := by rw [← hW5]; exact r4_.alloc _
  replace bb_ : Below g w W5 := by rw [← hW5]; exact bb_.alloc (hg ▸ bb_.size) _
  replace p_ := p_.five_other (show p ≠ h5 by omega) (.int .i64 M0) (.int .i64 M1) (.int .i64 M2) (.int .i64 M3) (.int .i64 M4)
  replace q_ := q_.five_other (show q ≠ h5 by omega) (.int .i64 M0) (.int .i64 M1) (.int .i64 M2) (.int .i64 M3) (.int .i64 M4)
  replace r3_ := r3_.five_other (show h3 ≠ h5 by omega) (.int .i64 M0) (.int .i64 M1) (.int .i64 M2) (.int .i64 M3) (.int .i64 M4)
  replace r4_ := r4_.five_other (show h4 ≠ h5 by omega) (.int .i64 M0) (.int .i64 M1) (.int .i64 M2) (.int .i64 M3) (.int .i64 M4)
  have r5_ := z_.five M0 M1 M2 M3 M4
  replace bb_ := below_five bb_ (show g ≤ h5 by omega) (.int .i64 M0) (.int .i64 M1) (.int .i64 M2) (.int .i64 M3) (.int .i64 M4)
  have f0_ := z_.fz 0
  have k0_ := z_.cell_0
  have f1_ := z_.fz 1
  have k1_ := z_.cell_1
  have f2_ := z_.fz 2
  have k2_ := z_.cell_2
  have f3_ := z_.fz 3
  have k3_ := z_.cell_3
  have f4_ := z_.fz 4
  have k4_ := z_.cell_4
  clear z_ np_ nq_ nr3_ nr4_
  have kp0_ := p_.cell_0
  have kp1_ := p_.cell_1
  have kp2_ := p_.cell_2
  have kp3_ := p_.cell_3
  have kp4_ := p_.cell_4
  have kq0_ := q_.cell_0
  have kq1_ := q_.cell_1
  have kq2_ := q_.cell_2
  have kq3_ := q_.cell_3
  have kq4_ := q_.cell_4
  go_wp2_with fail
  clear kp0_ kp1_ kp2_ kp3_ kp4_ kq0_ kq1_ kq2_ kq3_ kq4_ f0_ k0_ f1_ k1_ f2_ k2_ f3_ k3_ f4_ k4_ hW5 hh5
  refine (D6.out _).mono ?_
  rintro _ V6 ⟨rfl, hb⟩
  replace p_ := p_.below hb
  replace q_ := q_.below hb
  replace r3_ := r3_.below hb
  replace r4_ := r4_.below hb
  replace r5_ := r5_.below hb
  replace bb_ := bk bb_ (hg ▸ bb_.size) hb
  clear hb
  have np_ := p_.lt
  have nq_ := q_.lt
  have nr3_ := r3_.lt
  have nr4_ := r4_.lt
  have nr5_ := r5_.lt
  obtain ⟨h6, hh6⟩ : ∃ h, V6.heap.size = h := ⟨_, rfl⟩
  obtain ⟨W6, hW6⟩ : ∃ W, V6.alloc (.cells #[.int .i64 0, .int .i64 0, .int .i64 0, .int .i64 0, .int .i64 0] 23) = W := ⟨_, rfl⟩
  have z_ : At W6 h6 0 0 0 0 0 := by rw [← hW6, ← hh6]; exact At.new _ _ _ _ _ _
  replace p_ : At W6 p a b c d e := by rw [← hW6]; exact p_.alloc _
  replace q_ : At W6 q a' b' c' d' e' := by rw [← hW6]; exact q_.alloc _
  replace r3_ : At W6 h3 P0 P1 P2 P3 P4 := by rw [← hW6]; exact r3_.alloc _
  replace r4_ : At W6 h4 P0 P1 P2 P3 P4 := by rw [← hW6]; exact r4_.alloc _
  replace r5_ : At W6 h5 M0 M1 M2 M3 M4 := by rw [← hW6]; exact r5_.alloc _
  replace bb_ : Below g w W6 := by rw [← hW6]; exact bb_.alloc (hg ▸ bb_.size) _
  replace p_ := p_.five_other (show p ≠ h6 by omega) (.int .i64 M0) (.int .i64 M1) (.int .i64 M2) (.int .i64 M3) (.int .i64 M4)
  replace q_ := q_.five_other (show q ≠ h6 by omega) (.int .i64 M0) (.int .i64 M1) (.int .i64 M2) (.int .i64 M3) (.int .i64 M4)
  replace r3_ := r3_.five_other (show h3 ≠ h6 by omega) (.int .i64 M0) (.int .i64 M1) (.int .i64 M2) (.int .i64 M3) (.int .i64 M4)
  replace r4_ := r4_.five_other (show h4 ≠ h6 by omega) (.int .i64 M0) (.int .i64 M1) (.int .i64 M2) (.int .i64 M3) (.int .i64 M4)
  replace r5_ := r5_.five_other (show h5 ≠ h6 by omega) (.int .i64 M0) (.int .i64 M1) (.int .i64 M2) (.int .i64 M3) (.int .i64 M4)
  have r6_ := z_.five M0 M1 M2 M3 M4
  replace bb_ := below_five bb_ (show g ≤ h6 by omega) (.int .i64 M0) (.int .i64 M1) (.int .i64 M2) (.int .i64 M3) (.int .i64 M4)
  have f0_ := z_.fz 0
  have k0_ := z_.cell_0
  have f1_ := z_.fz 1
  have k1_ := z_.cell_1
  have f2_ := z_.fz 2
  have k2_ := z_.cell_2
  have f3_ := z_.fz 3
  have k3_ := z_.cell_3
  have f4_ := z_.fz 4
  have k4_ := z_.cell_4
  clear z_ np_ nq_ nr3_ nr4_ nr5_
  have kp0_ := p_.cell_0
  have kp1_ := p_.cell_1
  have kp2_ := p_.cell_2
  have kp3_ := p_.cell_3
  have kp4_ := p_.cell_4
  have kq0_ := q_.cell_0
  have kq1_ := q_.cell_1
  have kq2_ := q_.cell_2
  have kq3_ := q_.cell_3
  have kq4_ := q_.cell_4
  go_wp2_with fail
  clear kp0_ kp1_ kp2_ kp3_ kp4_ kq0_ kq1_ kq2_ kq3_ kq4_ f0_ k0_ f1_ k1_ f2_ k2_ f3_ k3_ f4_ k4_ hW6 hh6
  refine (D7.out _).mono ?_
  rintro _ V7 ⟨rfl, hb⟩
  replace p_ := p_.below hb
  replace q_ := q_.below hb
  replace r3_ := r3_.below hb
  replace r4_ := r4_.below hb
  replace r5_ := r5_.below hb
  replace r6_ := r6_.below hb
  replace bb_ := bk bb_ (hg ▸ bb_.size) hb
  clear hb
  have np_ := p_.lt
  have nq_ := q_.lt
  have nr3_ := r3_.lt
  have nr4_ := r4_.lt
  have nr5_ := r5_.lt
  have nr6_ := r6_.lt
  obtain ⟨h7, hh7⟩ : ∃ h, V7.heap.size = h := ⟨_, rfl⟩
  obtain ⟨W7, hW7⟩ : ∃ W, V7.alloc (.cells #[.int .i64 0, .int .i64 0, .int .i64 0, .int .i64 0, .int .i64 0] 23) = W := ⟨_, rfl⟩
  have z_ : At W7 h7 0 0 0 0 0 := by rw [← hW7, ← hh7]; exact At.new _ _ _ _ _ _
  replace p_ : At W7 p a b c d e := by rw [← hW7]; exact p_.alloc _
  replace q_ : At W7 q a' b' c' d' e' := by rw [← hW7]; exact q_.alloc _
  replace r3_ : At W7 h3 P0 P1 P2 P3 P4 := by rw [← hW7]; exact r3_.alloc _
  replace r4_ : At W7 h4 P0 P1 P2 P3 P4 := by rw [← hW7]; exact r4_.alloc _
  replace r5_ : At W7 h5 M0 M1 M2 M3 M4 := by rw [← hW7]; exact r5_.alloc _
  replace r6_ : At W7 h6 M0 M1 M2 M3 M4 := by rw [← hW7]; exact r6_.alloc _
  replace bb_ : Below g w W7 := by rw [← hW7]; exact bb_.alloc (hg ▸ bb_.size) _
  replace p_ := p_.five_other (show p ≠ h7 by omega) (.int .i64 T0) (.int .i64 T1) (.int .i64 T2) (.int .i64 T3) (.int .i64 T4)
  replace q_ := q_.five_other (show q ≠ h7 by omega) (.int .i64 T0) (.int .i64 T1) (.int .i64 T2) (.int .i64 T3) (.int .i64 T4)
  replace r3_ := r3_.five_other (show h3 ≠ h7 by omega) (.int .i64 T0) (.int .i64 T1) (.int .i64 T2) (.int .i64 T3) (.int .i64 T4)
  replace r4_ := r4_.five_other (show h4 ≠ h7 by omega) (.int .i64 T0) (.int .i64 T1) (.int .i64 T2) (.int .i64 T3) (.int .i64 T4)
  replace r5_ := r5_.five_other (show h5 ≠ h7 by omega) (.int .i64 T0) (.int .i64 T1) (.int .i64 T2) (.int .i64 T3) (.int .i64 T4)
  replace r6_ := r6_.five_other (show h6 ≠ h7 by omega) (.int .i64 T0) (.int .i64 T1) (.int .i64 T2) (.int .i64 T3) (.int .i64 T4)
  have r7_ := z_.five T0 T1 T2 T3 T4
  replace bb_ := below_five bb_ (show g ≤ h7 by omega) (.int .i64 T0) (.int .i64 T1) (.int .i64 T2) (.int .i64 T3) (.int .i64 T4)
  have f0_ := z_.fz 0
  have k0_ := z_.cell_0
  have f1_ := z_.fz 1
  have k1_ := z_.cell_1
  have f2_ := z_.fz 2
  have k2_ := z_.cell_2
  have f3_ := z_.fz 3
  have k3_ := z_.cell_3
  have f4_ := z_.fz 4
  have k4_ := z_.cell_4
  clear z_ np_ nq_ nr3_ nr4_ nr5_ nr6_
  have kp0_ := p_.cell_0
  have kp1_ := p_.cell_1
  have kp2_ := p_.cell_2
  have kp3_ := p_.cell_3
  have kp4_ := p_.cell_4
  have kq0_ := q_.cell_0
  have kq1_ := q_.cell_1
  have kq2_ := q_.cell_2
  have kq3_ := q_.cell_3
  have kq4_ := q_.cell_4
  go_wp2_with fail
  clear kp0_ kp1_ kp2_ kp3_ kp4_ kq0_ kq1_ kq2_ kq3_ kq4_ f0_ k0_ f1_ k1_ f2_ k2_ f3_ k3_ f4_ k4_ hW7 hh7
  refine (D8.out _).mono ?_
  rintro _ V8 ⟨rfl, hb⟩
  replace p_ := p_.below hb
  replace q_ := q_.below hb
  replace r3_ := r3_.below hb
  replace r4_ := r4_.below hb
  replace r5_ := r5_.below hb
  replace r6_ := r6_.below hb
  replace r7_ := r7_.below hb
  replace bb_ := bk bb_ (hg ▸ bb_.size) hb
  clear hb
  have np_ := p_.lt
  have nq_ := q_.lt
  have nr3_ := r3_.lt
  have nr4_ := r4_.lt
  have nr5_ := r5_.lt
  have nr6_ := r6_.lt
  have nr7_ := r7_.lt
  obtain ⟨h8, hh8⟩ : ∃ h, V8.heap.size = h := ⟨_, rfl⟩
  obtain ⟨W8, hW8⟩ : ∃ W, V8.alloc (.cells #[.int .i64 0, .int .i64 0, .int .i64 0, .int .i64 0, .int .i64 0] 23) = W := ⟨_, rfl⟩
  have z_ : At W8 h8 0 0 0 0 0 := by rw [← hW8, ← hh8]; exact At.new _ _ _ _ _ _
  replace p_ : At W8 p a b c d e := by rw [← hW8]; exact p_.alloc _
  replace q_ : At W8 q a' b' c' d' e' := by rw [← hW8]; exact q_.alloc _
  replace r3_ : At W8 h3 P0 P1 P2 P3 P4 := by rw [← hW8]; exact r3_.alloc _
  replace r4_ : At W8 h4 P0 P1 P2 P3 P4 := by rw [← hW8]; exact r4_.alloc _
  replace r5_ : At W8 h5 M0 M1 M2 M3 M4 := by rw [← hW8]; exact r5_.alloc _
  replace r6_ : At W8 h6 M0 M1 M2 M3 M4 := by rw [← hW8]; exact r6_.alloc _
  replace r7_ : At W8 h7 T0 T1 T2 T3 T4 := by rw [← hW8]; exact r7_.alloc _
  replace bb_ : Below g w W8 := by rw [← hW8]; exact bb_.alloc (hg ▸ bb_.size) _
  replace p_ := p_.five_other (show p ≠ h8 by omega) (.int .i64 T0) (.int .i64 T1) (.int .i64 T2) (.int .i64 T3) (.int .i64 T4)
  replace q_ := q_.five_other (show q ≠ h8 by omega) (.int .i64 T0) (.int .i64 T1) (.int .i64 T2) (.int .i64 T3) (.int .i64 T4)
  replace r3_ := r3_.five_other (show h3 ≠ h8 by omega) (.int .i64 T0) (.int .i64 T1) (.int .i64 T2) (.int .i64 T3) (.int .i64 T4)
  replace r4_ := r4_.five_other (show h4 ≠ h8 by omega) (.int .i64 T0) (.int .i64 T1) (.int .i64 T2) (.int .i64 T3) (.int .i64 T4)
  replace r5_ := r5_.five_other (show h5 ≠ h8 by omega) (.int .i64 T0) (.int .i64 T1) (.int .i64 T2) (.int .i64 T3) (.int .i64 T4)
  replace r6_ := r6_.five_other (show h6 ≠ h8 by omega) (.int .i64 T0) (.int .i64 T1) (.int .i64 T2) (.int .i64 T3) (.int .i64 T4)
  replace r7_ := r7_.five_other (show h7 ≠ h8 by omega) (.int .i64 T0) (.int .i64 T1) (.int .i64 T2) (.int .i64 T3) (.int .i64 T4)
  have r8_ := z_.five T0 T1 T2 T3 T4
  replace bb_ := below_five bb_ (show g ≤ h8 by omega) (.int .i64 T0) (.int .i64 T1) (.int .i64 T2) (.int .i64 T3) (.int .i64 T4)
  have f0_ := z_.fz 0
  have k0_ := z_.cell_0
  have f1_ := z_.fz 1
  have k1_ := z_.cell_1
  have f2_ := z_.fz 2
  have k2_ := z_.cell_2
  have f3_ := z_.fz 3
  have k3_ := z_.cell_3
  have f4_ := z_.fz 4
  have k4_ := z_.cell_4
  clear z_ np_ nq_ nr3_ nr4_ nr5_ nr6_ nr7_
  have kp0_ := p_.cell_0
  have kp1_ := p_.cell_1
  have kp2_ := p_.cell_2
  have kp3_ := p_.cell_3
  have kp4_ := p_.cell_4
  have kq0_ := q_.cell_0
  have kq1_ := q_.cell_1
  have kq2_ := q_.cell_2
  have kq3_ := q_.cell_3
  have kq4_ := q_.cell_4
  go_wp2_with fail
  clear kp0_ kp1_ kp2_ kp3_ kp4_ kq0_ kq1_ kq2_ kq3_ kq4_ f0_ k0_ f1_ k1_ f2_ k2_ f3_ k3_ f4_ k4_ hW8 hh8
  refine (D9.out _).mono ?_
  rintro _ V9 ⟨rfl, hb⟩
  replace p_ := p_.below hb
  replace q_ := q_.below hb
  replace r3_ := r3_.below hb
  replace r4_ := r4_.below hb
  replace r5_ := r5_.below hb
  replace r6_ := r6_.below hb
  replace r7_ := r7_.below hb
  replace r8_ := r8_.below hb
  replace bb_ := bk bb_ (hg ▸ bb_.size) hb
  clear hb
  have kp0_ := p_.cell_0
  have kp1_ := p_.cell_1
  have kp2_ := p_.cell_2
  have kp3_ := p_.cell_3
  have kp4_ := p_.cell_4
  have kq0_ := q_.cell_0
  have kq1_ := q_.cell_1
  have kq2_ := q_.cell_2
  have kq3_ := q_.cell_3
  have kq4_ := q_.cell_4
  go_wp2_with fail
  clear kp0_ kp1_ kp2_ kp3_ kp4_ kq0_ kq1_ kq2_ kq3_ kq4_
  refine (D10.out _).mono ?_
  rintro _ V10 ⟨rfl, hb⟩
  replace p_ := p_.below hb
  replace q_ := q_.below hb
  replace r3_ := r3_.below hb
  replace r4_ := r4_.below hb
  replace r5_ := r5_.below hb
  replace r6_ := r6_.below hb
  replace r7_ := r7_.below hb
  replace r8_ := r8_.below hb
  replace bb_ := bk bb_ (hg ▸ bb_.size) hb
  clear hb
  have kr30_ := r3_.cell_0
  have kr31_ := r3_.cell_1
  have kr32_ := r3_.cell_2
  have kr33_ := r3_.cell_3
  have kr34_ := r3_.cell_4
  have kr40_ := r4_.cell_0
  have kr41_ := r4_.cell_1
  have kr42_ := r4_.cell_2
  have kr43_ := r4_.cell_3
  have kr44_ := r4_.cell_4
  have kr50_ := r5_.cell_0
  have kr51_ := r5_.cell_1
  have kr52_ := r5_.cell_2
  have kr53_ := r5_.cell_3
  have kr54_ := r5_.cell_4
  have kr60_ := r6_.cell_0
  have kr61_ := r6_.cell_1
  have kr62_ := r6_.cell_2
  have kr63_ := r6_.cell_3
  have kr64_ := r6_.cell_4
  have kr70_ := r7_.cell_0
  have kr71_ := r7_.cell_1
  have kr72_ := r7_.cell_2
  have kr73_ := r7_.cell_3
  have kr74_ := r7_.cell_4
  have kr80_ := r8_.cell_0
  have kr81_ := r8_.cell_1
  have kr82_ := r8_.cell_2
  have kr83_ := r8_.cell_3
  have kr84_ := r8_.cell_4
  go_wp2_with fail
  clear kr30_ kr31_ kr32_ kr33_ kr34_ kr40_ kr41_ kr42_ kr43_ kr44_ kr50_ kr51_ kr52_ kr53_ kr54_ kr60_ kr61_ kr62_ kr63_ kr64_ kr70_ kr71_ kr72_ kr73_ kr74_ kr80_ kr81_ kr82_ kr83_ kr84_ r3_ r4_ r5_ r6_ r7_ r8_
  have p0_ := p_.drew
  have q0_ := q_.drew
  have b0_ := below_drew1 bb_
  clear p_ q_ bb_
  refine start_ (n := 27) (S := fun w' => w'.cell? ⟨p, 0, none⟩ = some (.int .i64 a) ∧ w'.cell? ⟨p, 1, none⟩ = some (.int .i64 b) ∧ w'.cell? ⟨p, 2, none⟩ = some (.int .i64 c) ∧ w'.cell? ⟨p, 3, none⟩ = some (.int .i64 d) ∧ w'.cell? ⟨p, 4, none⟩ = some (.int .i64 e) ∧ w'.cell? ⟨q, 0, none⟩ = some (.int .i64 a') ∧ w'.cell? ⟨q, 1, none⟩ = some (.int .i64 b') ∧ w'.cell? ⟨q, 2, none⟩ = some (.int .i64 c') ∧ w'.cell? ⟨q, 3, none⟩ = some (.int .i64 d') ∧ w'.cell? ⟨q, 4, none⟩ = some (.int .i64 e')) (ds := []) #[false, false, false, false, false, false, false, false, false, false, false, false, false, false, false, false, false, false, false, false, false, false, false, false, false, false, false] (by kernel_rfl) rfl rfl ⟨p0_.cell_0, p0_.cell_1, p0_.cell_2, p0_.cell_3, p0_.cell_4, q0_.cell_0, q0_.cell_1, q0_.cell_2, q0_.cell_3, q0_.cell_4⟩ (fun hHeld => ?_)
  refine take_ (i := 0) (N := some 118) (v := ?_) (a' := ?_) #[true, false, false, false, false, false, false, false, false, false, false, false, false, false, false, false, false, false, false, false, false, false, false, false, false, false, false] rfl rfl (by kernel_rfl) (fun _ _ _ h => h) (Or.inl ⟨by rfl, ?_⟩) hHeld ?_ ?_
  rotate_left
  · rintro w' ⟨s0, s1, s2, s3, s4, s5, s6, s7, s8, s9⟩
    go_simp
    with_reducible rfl
  rotate_left
  · simp only [Act.put, List.setIfInBounds_toArray, List.set_cons_zero, List.set_cons_succ, i64_w, i32_w]
    rfl
  refine take_ (i := 2) (N := some 120) (v := ?_) (a' := ?_) #[true, false, true, false, false, false, false, false, false, false, false, false, false, false, false, false, false, false, false, false, false, false, false, false, false, false, false] rfl rfl (by kernel_rfl) (fun _ _ _ h => h) (Or.inl ⟨by rfl, ?_⟩) hHeld ?_ ?_
  rotate_left
  · rintro w' ⟨s0, s1, s2, s3, s4, s5, s6, s7, s8, s9⟩
    go_simp
    with_reducible rfl
  rotate_left
  · simp only [Act.put, List.setIfInBounds_toArray, List.set_cons_zero, List.set_cons_succ, i64_w, i32_w]
    rfl
  refine one_ (i := 1) (N := some 119) #[true, true, true, false, false, false, false, false, false, false, false, false, false, false, false, false, false, false, false, false, false, false, false, false, false, false, false] rfl rfl (by kernel_rfl) (by decide) (fun K hK => ?_)
  refine goes_ Tryd.func17 (by kernel_rfl) rfl #[.agg #[.int .i64 a, .int .i64 b, .int .i64 c, .int .i64 d, .int .i64 e]] (by rfl) rfl rfl (by simp only [List.map_toArray, List.map_cons, List.map_nil]; rfl) ?_
  with_reducible refine (D11.out _).mono ?_
  rintro e_ Y0 ⟨rfl, hb⟩
  refine ⟨_, rfl, ?_⟩
  have p1_ := p0_.below hb
  have q1_ := q0_.below hb
  have b1_ := bk b0_ (hg ▸ b0_.size) hb
  clear hb p0_ q0_
  refine hK.out _ _ ⟨p1_.cell_0, p1_.cell_1, p1_.cell_2, p1_.cell_3, p1_.cell_4, q1_.cell_0, q1_.cell_1, q1_.cell_2, q1_.cell_3, q1_.cell_4⟩ (fun hHeld => ?_)
  clear hK K
  refine norm_ (a' := ?_) ?_ ?_
  rotate_left
  · show Act.put _ (some 119) _ = _
    simp only [Act.put, List.setIfInBounds_toArray, List.set_cons_zero, List.set_cons_succ, i64_w, i32_w]
    rfl
  refine one_ (i := 3) (N := some 121) #[true, true, true, true, false, false, false, false, false, false, false, false, false, false, false, false, false, false, false, false, false, false, false, false, false, false, false] rfl rfl (by kernel_rfl) (by decide) (fun K hK => ?_)
  refine goes_ Tryd.func25 (by kernel_rfl) rfl #[.agg #[.int .i64 a, .int .i64 b, .int .i64 c, .int .i64 d, .int .i64 e]] (by rfl) rfl rfl (by simp only [List.map_toArray, List.map_cons, List.map_nil]; rfl) ?_
  with_reducible refine (D12.out _).mono ?_
  rintro e_ Y1 ⟨rfl, hb⟩
  refine ⟨_, rfl, ?_⟩
  have p2_ := p1_.below hb
  have q2_ := q1_.below hb
  have b2_ := bk b1_ (hg ▸ b1_.size) hb
  clear hb p1_ q1_
  refine hK.out _ _ ⟨p2_.cell_0, p2_.cell_1, p2_.cell_2, p2_.cell_3, p2_.cell_4, q2_.cell_0, q2_.cell_1, q2_.cell_2, q2_.cell_3, q2_.cell_4⟩ (fun hHeld => ?_)
  clear hK K
  refine norm_ (a' := ?_) ?_ ?_
  rotate_left
  · show Act.put _ (some 121) _ = _
    simp only [Act.put, List.setIfInBounds_toArray, List.set_cons_zero, List.set_cons_succ, i64_w, i32_w]
    rfl
  refine pure_ (i := 4) (N := some 122) (v := ?_) (a' := ?_) #[true, true, true, true, true, false, false, false, false, false, false, false, false, false, false, false, false, false, false, false, false, false, false, false, false, false, false] rfl rfl (by kernel_rfl) (fun _ _ _ h => h) (Or.inl ⟨by rfl, ?_⟩) ?_ ?_
  rotate_left
  · intro w'
    go_simp
    with_reducible rfl
  rotate_left
  · simp only [Act.put, List.setIfInBounds_toArray, List.set_cons_zero, List.set_cons_succ, i64_w, i32_w]
    rfl
  refine pure_ (i := 5) (N := some 123) (v := ?_) (a' := ?_) #[true, true, true, true, true, true, false, false, false, false, false, false, false, false, false, false, false, false, false, false, false, false, false, false, false, false, false] rfl rfl (by kernel_rfl) (fun _ _ _ h => h) (Or.inl ⟨by rfl, ?_⟩) ?_ ?_
  rotate_left
  · intro w'
    go_simp
    with_reducible rfl
  rotate_left
  · simp only [Act.put, List.setIfInBounds_toArray, List.set_cons_zero, List.set_cons_succ, i64_w, i32_w]
    rfl
  refine take_ (i := 6) (N := some 124) (v := ?_) (a' := ?_) #[true, true, true, true, true, true, true, false, false, false, false, false, false, false, false, false, false, false, false, false, false, false, false, false, false, false, false] rfl rfl (by kernel_rfl) (fun _ _ _ h => h) (Or.inl ⟨by rfl, ?_⟩) hHeld ?_ ?_
  rotate_left
  · rintro w' ⟨s0, s1, s2, s3, s4, s5, s6, s7, s8, s9⟩
    go_simp
    with_reducible rfl
  rotate_left
  · simp only [Act.put, List.setIfInBounds_toArray, List.set_cons_zero, List.set_cons_succ, i64_w, i32_w]
    rfl
  refine take_ (i := 7) (N := some 125) (v := ?_) (a' := ?_) #[true, true, true, true, true, true, true, true, false, false, false, false, false, false, false, false, false, false, false, false, false, false, false, false, false, false, false] rfl rfl (by kernel_rfl) (fun _ _ _ h => h) (Or.inl ⟨by rfl, ?_⟩) hHeld ?_ ?_
  rotate_left
  · rintro w' ⟨s0, s1, s2, s3, s4, s5, s6, s7, s8, s9⟩
    go_simp
    with_reducible rfl
  rotate_left
  · simp only [Act.put, List.setIfInBounds_toArray, List.set_cons_zero, List.set_cons_succ, i64_w, i32_w]
    rfl
  refine take_ (i := 9) (N := some 127) (v := ?_) (a' := ?_) #[true, true, true, true, true, true, true, true, false, true, false, false, false, false, false, false, false, false, false, false, false, false, false, false, false, false, false] rfl rfl (by kernel_rfl) (fun _ _ _ h => h) (Or.inl ⟨by rfl, ?_⟩) hHeld ?_ ?_
  rotate_left
  · rintro w' ⟨s0, s1, s2, s3, s4, s5, s6, s7, s8, s9⟩
    go_simp
    with_reducible rfl
  rotate_left
  · simp only [Act.put, List.setIfInBounds_toArray, List.set_cons_zero, List.set_cons_succ, i64_w, i32_w]
    rfl
  refine take_ (i := 10) (N := some 128) (v := ?_) (a' := ?_) #[true, true, true, true, true, true, true, true, false, true, true, false, false, false, false, false, false, false, false, false, false, false, false, false, false, false, false] rfl rfl (by kernel_rfl) (fun _ _ _ h => h) (Or.inl ⟨by rfl, ?_⟩) hHeld ?_ ?_
  rotate_left
  · rintro w' ⟨s0, s1, s2, s3, s4, s5, s6, s7, s8, s9⟩
    go_simp
    with_reducible rfl
  rotate_left
  · simp only [Act.put, List.setIfInBounds_toArray, List.set_cons_zero, List.set_cons_succ, i64_w, i32_w]
    rfl
  refine one_ (i := 8) (N := some 126) #[true, true, true, true, true, true, true, true, true, true, true, false, false, false, false, false, false, false, false, false, false, false, false, false, false, false, false] rfl rfl (by kernel_rfl) (by decide) (fun K hK => ?_)
  refine goes_ Tryd.func9 (by kernel_rfl) rfl #[.agg #[.int .i64 a, .int .i64 b, .int .i64 c, .int .i64 d, .int .i64 e], .agg #[.int .i64 a', .int .i64 b', .int .i64 c', .int .i64 d', .int .i64 e']] (by rfl) rfl rfl (by simp only [List.map_toArray, List.map_cons, List.map_nil]; rfl) ?_
  with_reducible refine (D13.out _).mono ?_
  rintro e_ Y2 ⟨rfl, hb⟩
  refine ⟨_, rfl, ?_⟩
  have p3_ := p2_.below hb
  have q3_ := q2_.below hb
  have b3_ := bk b2_ (hg ▸ b2_.size) hb
  clear hb p2_ q2_
  refine hK.out _ _ ⟨p3_.cell_0, p3_.cell_1, p3_.cell_2, p3_.cell_3, p3_.cell_4, q3_.cell_0, q3_.cell_1, q3_.cell_2, q3_.cell_3, q3_.cell_4⟩ (fun hHeld => ?_)
  clear hK K
  refine norm_ (a' := ?_) ?_ ?_
  rotate_left
  · show Act.put _ (some 126) _ = _
    simp only [Act.put, List.setIfInBounds_toArray, List.set_cons_zero, List.set_cons_succ, i64_w, i32_w]
    rfl
  refine one_ (i := 11) (N := some 129) #[true, true, true, true, true, true, true, true, true, true, true, true, false, false, false, false, false, false, false, false, false, false, false, false, false, false, false] rfl rfl (by kernel_rfl) (by decide) (fun K hK => ?_)
  refine goes_ Tryd.func26 (by kernel_rfl) rfl #[.agg #[.int .i64 a, .int .i64 b, .int .i64 c, .int .i64 d, .int .i64 e], .agg #[.int .i64 a', .int .i64 b', .int .i64 c', .int .i64 d', .int .i64 e']] (by rfl) rfl rfl (by simp only [List.map_toArray, List.map_cons, List.map_nil]; rfl) ?_
  with_reducible refine (D14.out _).mono ?_
  rintro e_ Y3 ⟨rfl, hb⟩
  refine ⟨_, rfl, ?_⟩
  have p4_ := p3_.below hb
  have q4_ := q3_.below hb
  have b4_ := bk b3_ (hg ▸ b3_.size) hb
  clear hb p3_ q3_
  refine hK.out _ _ ⟨p4_.cell_0, p4_.cell_1, p4_.cell_2, p4_.cell_3, p4_.cell_4, q4_.cell_0, q4_.cell_1, q4_.cell_2, q4_.cell_3, q4_.cell_4⟩ (fun hHeld => ?_)
  clear hK K
  refine norm_ (a' := ?_) ?_ ?_
  rotate_left
  · show Act.put _ (some 129) _ = _
    simp only [Act.put, List.setIfInBounds_toArray, List.set_cons_zero, List.set_cons_succ, i64_w, i32_w]
    rfl
  refine pure_ (i := 12) (N := some 130) (v := ?_) (a' := ?_) #[true, true, true, true, true, true, true, true, true, true, true, true, true, false, false, false, false, false, false, false, false, false, false, false, false, false, false] rfl rfl (by kernel_rfl) (fun _ _ _ h => h) (Or.inl ⟨by rfl, ?_⟩) ?_ ?_
  rotate_left
  · intro w'
    go_simp
    with_reducible rfl
  rotate_left
  · simp only [Act.put, List.setIfInBounds_toArray, List.set_cons_zero, List.set_cons_succ, i64_w, i32_w]
    rfl
  refine pure_ (i := 13) (N := some 131) (v := ?_) (a' := ?_) #[true, true, true, true, true, true, true, true, true, true, true, true, true, true, false, false, false, false, false, false, false, false, false, false, false, false, false] rfl rfl (by kernel_rfl) (fun _ _ _ h => h) (Or.inl ⟨by rfl, ?_⟩) ?_ ?_
  rotate_left
  · intro w'
    go_simp
    with_reducible rfl
  rotate_left
  · simp only [Act.put, List.setIfInBounds_toArray, List.set_cons_zero, List.set_cons_succ, i64_w, i32_w]
    rfl
  refine pure_ (i := 14) (N := some 132) (v := ?_) (a' := ?_) #[true, true, true, true, true, true, true, true, true, true, true, true, true, true, true, false, false, false, false, false, false, false, false, false, false, false, false] rfl rfl (by kernel_rfl) (fun _ _ _ h => h) (Or.inl ⟨by rfl, ?_⟩) ?_ ?_
  rotate_left
  · intro w'
    go_simp
    with_reducible rfl
  rotate_left
  · simp only [Act.put, List.setIfInBounds_toArray, List.set_cons_zero, List.set_cons_succ, i64_w, i32_w]
    rfl
  refine take_ (i := 15) (N := some 133) (v := ?_) (a' := ?_) #[true, true, true, true, true, true, true, true, true, true, true, true, true, true, true, true, false, false, false, false, false, false, false, false, false, false, false] rfl rfl (by kernel_rfl) (fun _ _ _ h => h) (Or.inl ⟨by rfl, ?_⟩) hHeld ?_ ?_
  rotate_left
  · rintro w' ⟨s0, s1, s2, s3, s4, s5, s6, s7, s8, s9⟩
    go_simp
    with_reducible rfl
  rotate_left
  · simp only [Act.put, List.setIfInBounds_toArray, List.set_cons_zero, List.set_cons_succ, i64_w, i32_w]
    rfl
  refine take_ (i := 16) (N := some 134) (v := ?_) (a' := ?_) #[true, true, true, true, true, true, true, true, true, true, true, true, true, true, true, true, true, false, false, false, false, false, false, false, false, false, false] rfl rfl (by kernel_rfl) (fun _ _ _ h => h) (Or.inl ⟨by rfl, ?_⟩) hHeld ?_ ?_
  rotate_left
  · rintro w' ⟨s0, s1, s2, s3, s4, s5, s6, s7, s8, s9⟩
    go_simp
    with_reducible rfl
  rotate_left
  · simp only [Act.put, List.setIfInBounds_toArray, List.set_cons_zero, List.set_cons_succ, i64_w, i32_w]
    rfl
  refine take_ (i := 18) (N := some 136) (v := ?_) (a' := ?_) #[true, true, true, true, true, true, true, true, true, true, true, true, true, true, true, true, true, false, true, false, false, false, false, false, false, false, false] rfl rfl (by kernel_rfl) (fun _ _ _ h => h) (Or.inl ⟨by rfl, ?_⟩) hHeld ?_ ?_
  rotate_left
  · rintro w' ⟨s0, s1, s2, s3, s4, s5, s6, s7, s8, s9⟩
    go_simp
    with_reducible rfl
  rotate_left
  · simp only [Act.put, List.setIfInBounds_toArray, List.set_cons_zero, List.set_cons_succ, i64_w, i32_w]
    rfl
  refine take_ (i := 19) (N := some 137) (v := ?_) (a' := ?_) #[true, true, true, true, true, true, true, true, true, true, true, true, true, true, true, true, true, false, true, true, false, false, false, false, false, false, false] rfl rfl (by kernel_rfl) (fun _ _ _ h => h) (Or.inl ⟨by rfl, ?_⟩) hHeld ?_ ?_
  rotate_left
  · rintro w' ⟨s0, s1, s2, s3, s4, s5, s6, s7, s8, s9⟩
    go_simp
    with_reducible rfl
  rotate_left
  · simp only [Act.put, List.setIfInBounds_toArray, List.set_cons_zero, List.set_cons_succ, i64_w, i32_w]
    rfl
  refine one_ (i := 17) (N := some 135) #[true, true, true, true, true, true, true, true, true, true, true, true, true, true, true, true, true, true, true, true, false, false, false, false, false, false, false] rfl rfl (by kernel_rfl) (by decide) (fun K hK => ?_)
  refine goes_ Tryd.func10 (by kernel_rfl) rfl #[.agg #[.int .i64 a, .int .i64 b, .int .i64 c, .int .i64 d, .int .i64 e], .agg #[.int .i64 a', .int .i64 b', .int .i64 c', .int .i64 d', .int .i64 e']] (by rfl) rfl rfl (by simp only [List.map_toArray, List.map_cons, List.map_nil]; rfl) ?_
  with_reducible refine (D15.out _).mono ?_
  rintro e_ Y4 ⟨rfl, hb⟩
  refine ⟨_, rfl, ?_⟩
  have p5_ := p4_.below hb
  have q5_ := q4_.below hb
  have b5_ := bk b4_ (hg ▸ b4_.size) hb
  clear hb p4_ q4_
  refine hK.out _ _ ⟨p5_.cell_0, p5_.cell_1, p5_.cell_2, p5_.cell_3, p5_.cell_4, q5_.cell_0, q5_.cell_1, q5_.cell_2, q5_.cell_3, q5_.cell_4⟩ (fun hHeld => ?_)
  clear hK K
  refine norm_ (a' := ?_) ?_ ?_
  rotate_left
  · show Act.put _ (some 135) _ = _
    simp only [Act.put, List.setIfInBounds_toArray, List.set_cons_zero, List.set_cons_succ, i64_w, i32_w]
    rfl
  refine one_ (i := 20) (N := some 138) #[true, true, true, true, true, true, true, true, true, true, true, true, true, true, true, true, true, true, true, true, true, false, false, false, false, false, false] rfl rfl (by kernel_rfl) (by decide) (fun K hK => ?_)
  refine goes_ Tryd.func27 (by kernel_rfl) rfl #[.agg #[.int .i64 a, .int .i64 b, .int .i64 c, .int .i64 d, .int .i64 e], .agg #[.int .i64 a', .int .i64 b', .int .i64 c', .int .i64 d', .int .i64 e']] (by rfl) rfl rfl (by simp only [List.map_toArray, List.map_cons, List.map_nil]; rfl) ?_
  with_reducible refine (D16.out _).mono ?_
  rintro e_ Y5 ⟨rfl, hb⟩
  refine ⟨_, rfl, ?_⟩
  have p6_ := p5_.below hb
  have q6_ := q5_.below hb
  have b6_ := bk b5_ (hg ▸ b5_.size) hb
  clear hb p5_ q5_
  refine hK.out _ _ ⟨p6_.cell_0, p6_.cell_1, p6_.cell_2, p6_.cell_3, p6_.cell_4, q6_.cell_0, q6_.cell_1, q6_.cell_2, q6_.cell_3, q6_.cell_4⟩ (fun hHeld => ?_)
  clear hK K
  refine norm_ (a' := ?_) ?_ ?_
  rotate_left
  · show Act.put _ (some 138) _ = _
    simp only [Act.put, List.setIfInBounds_toArray, List.set_cons_zero, List.set_cons_succ, i64_w, i32_w]
    rfl
  refine pure_ (i := 21) (N := some 139) (v := ?_) (a' := ?_) #[true, true, true, true, true, true, true, true, true, true, true, true, true, true, true, true, true, true, true, true, true, true, false, false, false, false, false] rfl rfl (by kernel_rfl) (fun _ _ _ h => h) (Or.inl ⟨by rfl, ?_⟩) ?_ ?_
  rotate_left
  · intro w'
    go_simp
    with_reducible rfl
  rotate_left
  · simp only [Act.put, List.setIfInBounds_toArray, List.set_cons_zero, List.set_cons_succ, i64_w, i32_w]
    rfl
  refine pure_ (i := 22) (N := some 140) (v := ?_) (a' := ?_) #[true, true, true, true, true, true, true, true, true, true, true, true, true, true, true, true, true, true, true, true, true, true, true, false, false, false, false] rfl rfl (by kernel_rfl) (fun _ _ _ h => h) (Or.inl ⟨by rfl, ?_⟩) ?_ ?_
  rotate_left
  · intro w'
    go_simp
    with_reducible rfl
  rotate_left
  · simp only [Act.put, List.setIfInBounds_toArray, List.set_cons_zero, List.set_cons_succ, i64_w, i32_w]
    rfl
  refine pure_ (i := 23) (N := some 141) (v := ?_) (a' := ?_) #[true, true, true, true, true, true, true, true, true, true, true, true, true, true, true, true, true, true, true, true, true, true, true, true, false, false, false] rfl rfl (by kernel_rfl) (fun _ _ _ h => h) (Or.inl ⟨by rfl, ?_⟩) ?_ ?_
  rotate_left
  · intro w'
    go_simp
    with_reducible rfl
  rotate_left
  · simp only [Act.put, List.setIfInBounds_toArray, List.set_cons_zero, List.set_cons_succ, i64_w, i32_w]
    rfl
  refine one_ (i := 24) (N := some 142) #[true, true, true, true, true, true, true, true, true, true, true, true, true, true, true, true, true, true, true, true, true, true, true, true, true, false, false] rfl rfl (by kernel_rfl) (by decide) (fun K hK => ?_)
  refine goes_ Tryd.func14 (by kernel_rfl) rfl #[] (by rfl) rfl rfl (by first | rfl | (simp only [List.map_toArray, List.map_cons, List.map_nil]; done)) ?_
  with_reducible refine (works_c _ (HT.out.1.up (hg ▸ b6_)) (HT.out.2.up (hg ▸ b6_))).mono ?_
  rintro e_ Y6 ⟨rfl, hb⟩
  refine ⟨_, rfl, ?_⟩
  have p7_ := p6_.below hb
  have q7_ := q6_.below hb
  have b7_ := bk b6_ (hg ▸ b6_.size) hb
  clear hb p6_ q6_
  refine hK.out _ _ ⟨p7_.cell_0, p7_.cell_1, p7_.cell_2, p7_.cell_3, p7_.cell_4, q7_.cell_0, q7_.cell_1, q7_.cell_2, q7_.cell_3, q7_.cell_4⟩ (fun hHeld => ?_)
  clear hK K
  refine norm_ (a' := ?_) ?_ ?_
  rotate_left
  · show Act.put _ (some 142) _ = _
    simp only [Act.put, List.setIfInBounds_toArray, List.set_cons_zero, List.set_cons_succ, i64_w, i32_w]
    rfl
  refine pure_ (i := 25) (N := some 143) (v := ?_) (a' := ?_) #[true, true, true, true, true, true, true, true, true, true, true, true, true, true, true, true, true, true, true, true, true, true, true, true, true, true, false] rfl rfl (by kernel_rfl) (fun _ _ _ h => h) (Or.inl ⟨by rfl, ?_⟩) ?_ ?_
  rotate_left
  · intro w'
    go_simp
    with_reducible rfl
  rotate_left
  · simp only [Act.put, List.setIfInBounds_toArray, List.set_cons_zero, List.set_cons_succ, i64_w, i32_w]
    rfl
  refine pure_ (i := 26) (N := some 6) (v := ?_) (a' := ?_) #[true, true, true, true, true, true, true, true, true, true, true, true, true, true, true, true, true, true, true, true, true, true, true, true, true, true, true] rfl rfl (by kernel_rfl) (fun _ _ _ h => h) (Or.inl ⟨by rfl, ?_⟩) ?_ ?_
  rotate_left
  · intro w'
    go_simp
    with_reducible rfl
  rotate_left
  · simp only [Act.put, List.setIfInBounds_toArray, List.set_cons_zero, List.set_cons_succ, i64_w, i32_w]
    rfl
  refine done_ (by kernel_rfl) ?_
  go_wp2_with fail
  go_ret
  exact ⟨rfl, by first | exact b7_ | exact below_is hg b7_⟩
end Go.Proofs.YtceepgleeelohaaDoor.P
