import Derived.Test.YtceepgleeelohaaDoorHv11
/- Parse. -/
namespace Go.Proofs.YtceepgleeelohaaDoor.P
set_option linter.unusedVariables false
set_option linter.unusedSimpArgs false
open Go.RowKit Go.Proofs.YtceepgleeelohaaDoorW.PrintWords Go.Proofs.YtceepgleeelohaaDoorW.PrintLast Go.Proofs.YtceepgleeelohaaDoorW.PrintMore
abbrev V.zero : V := ⟨0, 0, 0, 0, 0⟩
abbrev AtV (W : World) (g : Nat) (v : V) : Prop := At W g v.a v.b v.c v.d v.e
def V.set (v : V) (i : Nat) (x : Int) : V := match i with
  | 0 => { v with a := x }
  | 1 => { v with b := x }
  | 2 => { v with c := x }
  | 3 => { v with d := x }
  | _ => { v with e := x }
theorem AtV.set_ {W : World} {g : Nat} {v : V} (h : AtV W g v) (i : Nat) (hi : i < 5) (x : Int) : AtV (W.setCell ⟨g, i, none⟩ (.int .i64 x)) g (v.set i x) := by
  have h5 : i = 0 ∨ i = 1 ∨ i = 2 ∨ i = 3 ∨ i = 4 := by omega
  rcases h5 with rfl | rfl | rfl | rfl | rfl
  · exact h.set_0 x
  · exact h.set_1 x
  · exact h.set_2 x
  · exact h.set_3 x
  · exact h.set_4 x
/-- from a byte and a place on: what comes -/
def parseF (t : ByteArray) : Nat → Nat → Nat → V → V × Int × Int
  | 0, _, _, _ => (V.zero, 0, 0)
  | n + 1, at_, from_, v =>
    if (namedS (t.extract at_ t.size) from_).1 < 0 then
      (if (namedS (t.extract at_ t.size) from_).2 = true then (V.zero, (t.size : Int), 3) else (V.zero, (at_ : Int), 4))
    else
      let i := (namedS (t.extract at_ t.size) from_).1.toNat
      let p := at_ + (nmB i).size
      if p = t.size then (V.zero, (p : Int), 3) else
      let x := t.extract (p + 1) t.size
      let r := parseS (cutA x) (decide (i = 0))
      if r.2.2 = 3 ∧ cutM x = true then (V.zero, wrap64 (((p + 1 : Nat) : Int) + r.2.1), 4) else
      if r.2.2 ≠ 0 then (V.zero, wrap64 (((p + 1 : Nat) : Int) + r.2.1), r.2.2) else
      if r.1 = 0 then (V.zero, (at_ : Int), 4) else
      if cutM x = true then parseF t n (p + 1 + (cutA x).size + 1) (i + 1) (v.set i r.1) else (v.set i r.1, 0, 0)
def V.parse (t : ByteArray) : V × Int × Int := if t.size = 0 then (V.zero, 0, 0) else parseF t 6 0 0 V.zero
theorem namedF_of (r : ByteArray) : ∀ (n k : Nat) (c : Bool), 0 ≤ (namedF r n k c).1 → ∃ i, (namedF r n k c).1 = ((i : Nat) : Int) ∧ k ≤ i ∧ i < k + n ∧ Lib.hasPrefix r.data.toList (nmB i).data.toList = true
  | 0, k, c, h => by
    have : (0 : Int) ≤ -1 := h
    omega
  | n + 1, k, c, h => by
    unfold namedF at h ⊢
    split
    · rename_i hi
      refine ⟨k, rfl, Nat.le_refl _, by omega, ?_⟩
      unfold isAt at hi
      rw [Bool.and_eq_true] at hi
      exact hi.1
    · rename_i hi
      rw [if_neg hi] at h
      obtain ⟨i, h1, h2, h3, h4⟩ := namedF_of r n (k + 1) _ h
      exact ⟨i, h1, by omega, by omega, h4⟩
theorem named_of (r : ByteArray) (k : Nat) (hk : k ≤ 5) (h : 0 ≤ (namedS r k).1) : ∃ i, (namedS r k).1 = ((i : Nat) : Int) ∧ k ≤ i ∧ i < 5 ∧ (nmB i).size ≤ r.size := by
  obtain ⟨i, h1, h2, h3, h4⟩ := namedF_of r (5 - k) k false h
  exact ⟨i, h1, h2, by omega, (List.isPrefixOf_iff_prefix.1 h4).length_le⟩
theorem nm_lt (k : Nat) : (nmB k).size ≤ 5 := by
  unfold nmB
  split <;> decide
theorem cutA_le (s : ByteArray) : (cutA s).size ≤ s.size := by
  unfold cutA
  split
  · rw [ByteArray.size_extract]; omega
  · exact Nat.le_refl _
theorem cutA_lt (s : ByteArray) (h : cutM s = true) : (cutA s).size + 1 ≤ s.size := by
  have h1 := cutI_lt s
  unfold cutM at h
  have h2 := of_decide_eq_true h
  unfold cutA
  rw [if_pos h2, ByteArray.size_extract]
  omega
set_option maxRecDepth 100000 in
set_option maxHeartbeats 4000000 in
theorem parse_c (t : ByteArray) (w : World) (hN : Nm w) (ht : t.size ≤ 1000000) :
    Calls Tryd.prog 18 #[.string t] w fun e_ w' => e_ = .returned (.tuple #[(V.parse t).1.val, .int .i64 (V.parse t).2.1, .int .i64 (V.parse t).2.2]) ∧ Below w.heap.size w w' := by
  obtain ⟨g, hg⟩ : ∃ g, w.heap.size = g := ⟨_, rfl⟩
  obtain ⟨W0, hW0⟩ : ∃ W, w.alloc (.cells #[.int .i64 0, .int .i64 0, .int .i64 0, .int .i64 0, .int .i64 0] 23) = W := ⟨_, rfl⟩
  have a0_ : At W0 g 0 0 0 0 0 := by rw [← hW0, ← hg]; exact At.new _ _ _ _ _ _
  have b0_ : Below g w W0 := by rw [← hW0, ← hg]; exact below_alloc (Below.refl _ _) _
  have HN := Aside0.mk hN
  clear hN
  obtain ⟨R, hR⟩ : ∃ R, V.parse t = R := ⟨_, rfl⟩
  rw [hR]
  unfold V.parse at hR
  have f0_ := a0_.fz 0
  have k0_ := a0_.cell_0
  have f1_ := a0_.fz 1
  have k1_ := a0_.cell_1
  have f2_ := a0_.fz 2
  have k2_ := a0_.cell_2
  have f3_ := a0_.fz 3
  have k3_ := a0_.cell_3
  have f4_ := a0_.fz 4
  have k4_ := a0_.cell_4
  by_cases h0 : t.size = 0
  · rw [if_pos h0] at hR
    subst hR
    have h0b : (t.toList == []) = true := by rw [empty_iff]; exact decide_eq_true h0
    go_enter Tryd.func18, Tryd.ntmps18
    go_wp2_with fail
    (try simp only [Exit.inBlock, Exit.then])
    exact bodyPost_ret (results_vtt rfl _ _ g rfl (a0_.five _ _ _ _ _)) rfl ⟨rfl, by first | exact below_five b0_ (Nat.le_refl _) _ _ _ _ _ | exact below_is hg (below_five b0_ (Nat.le_refl _) _ _ _ _ _)⟩
  rw [if_neg h0] at hR
  have h0b : (t.toList == []) = false := by rw [empty_iff]; exact decide_eq_false h0
  have H0 := Aside0.mk (And.intro (And.intro (show AtV W0 g V.zero from a0_) b0_) hR)
  clear a0_ b0_ hR k0_ f0_ k1_ f1_ k2_ f2_ k3_ f3_ k4_ f4_
  go_enter Tryd.func18, Tryd.ntmps18
  go_wp2_with fail
  clear h0b
  go_loopw [3, 5] (fun u v wr => ∃ (at_ from_ n : Nat) (vv : V), u = .int .i64 (at_ : Int) ∧ v = .int .i64 (from_ : Int) ∧ at_ ≤ t.size ∧ from_ ≤ 5 ∧ 6 ≤ n + from_ ∧ Aside0 ((AtV wr g vv ∧ Below g w wr) ∧ parseF t n at_ from_ vv = R)) (fun _ v _ => 6 - (intOf v).toNat)
  case atStart => exact ⟨0, 0, 6, V.zero, rfl, rfl, Nat.zero_le _, by decide, by decide, H0⟩
  case round =>
    obtain ⟨at_, from_, n, vv, rfl, rfl, hat, hfrom, hn, HF⟩ := hrel
    obtain ⟨m, rfl⟩ : ∃ m, n = m + 1 := ⟨n - 1, by omega⟩
    have q1 : (0 : Int) ≤ (at_ : Int) := by omega
    have q2 : (at_ : Int) ≤ (t.size : Int) := by omega
    obtain ⟨rest, hrest⟩ : ∃ r, t.extract at_ t.size = r := ⟨_, rfl⟩
    have hrl : rest.size = t.size - at_ := by rw [← hrest, ByteArray.size_extract]; omega
    have hNmd := named_of rest from_ hfrom
    have NM := Aside0.mk (fun W (h : Nm W) => named_c rest from_ W h (by omega) hfrom)
    have hF := HF.out.2
    unfold parseF at hF
    rw [hrest] at hF
    obtain ⟨⟨nk, nc⟩, hnm⟩ : ∃ x, namedS rest from_ = x := ⟨_, rfl⟩
    rw [hnm] at hF hNmd NM
    dsimp only at hF hNmd NM
    have HA := Aside0.mk HF.out.1
    clear hnm HF H0
    have HNW := Aside0.mk (HN.out.up (hg ▸ HA.out.2))
    by_cases hneg : nk < 0
    · rw [if_pos hneg] at hF
      have hnb : decide (nk < 0) = true := decide_eq_true hneg
      clear hNmd
      cases nc with
      | true =>
        rw [if_pos rfl] at hF
        subst hF
        go_wp2_with fail
        refine (NM.out _ HNW.out).mono ?_
        rintro _ W1 ⟨rfl, hb⟩
        have a1_ := HA.out.1.below hb
        have b1_ := bk HA.out.2 (Nat.le_of_lt HA.out.1.lt) hb
        clear hb
        have f0_ := a1_.fz 0
        have k0_ := a1_.cell_0
        have f1_ := a1_.fz 1
        have k1_ := a1_.cell_1
        have f2_ := a1_.fz 2
        have k2_ := a1_.cell_2
        have f3_ := a1_.fz 3
        have k3_ := a1_.cell_3
        have f4_ := a1_.fz 4
        have k4_ := a1_.cell_4
        go_wp2_with fail
        (try simp only [Exit.inBlock, Exit.then])
        exact bodyPost_ret (results_vtt rfl _ _ g rfl (a1_.five _ _ _ _ _)) rfl ⟨rfl, by first | exact below_five b1_ (Nat.le_refl _) _ _ _ _ _ | exact below_is hg (below_five b1_ (Nat.le_refl _) _ _ _ _ _)⟩
      | false =>
        rw [if_neg (by decide)] at hF
        subst hF
        go_wp2_with fail
        refine (NM.out _ HNW.out).mono ?_
        rintro _ W1 ⟨rfl, hb⟩
        have a1_ := HA.out.1.below hb
        have b1_ := bk HA.out.2 (Nat.le_of_lt HA.out.1.lt) hb
        clear hb
        have f0_ := a1_.fz 0
        have k0_ := a1_.cell_0
        have f1_ := a1_.fz 1
        have k1_ := a1_.cell_1
        have f2_ := a1_.fz 2
        have k2_ := a1_.cell_2
        have f3_ := a1_.fz 3
        have k3_ := a1_.cell_3
        have f4_ := a1_.fz 4
        have k4_ := a1_.cell_4
        go_wp2_with fail
        (try simp only [Exit.inBlock, Exit.then])
        exact bodyPost_ret (results_vtt rfl _ _ g rfl (a1_.five _ _ _ _ _)) rfl ⟨rfl, by first | exact below_five b1_ (Nat.le_refl _) _ _ _ _ _ | exact below_is hg (below_five b1_ (Nat.le_refl _) _ _ _ _ _)⟩
    rw [if_neg hneg] at hF
    obtain ⟨i, rfl, hi1, hi2, hi3⟩ := hNmd (by omega)
    rw [Int.toNat_natCast] at hF
    have hnb : decide ((i : Int) < 0) = false := decide_eq_false hneg
    have i0 : (0 : Int) ≤ (i : Int) := by omega
    have i5 : (i : Int) < 5 := by omega
    obtain ⟨nm, hnm⟩ : ∃ x, nmB i = x := ⟨_, rfl⟩
    (try dsimp only at hF)
    rw [hnm] at hF hi3
    obtain ⟨P, hP⟩ : ∃ P, at_ + nm.size = P := ⟨_, rfl⟩
    rw [hP] at hF
    have h5 := nm_lt i
    rw [hnm] at h5
    have HNM := Aside0.mk hnm
    clear hneg hnm
    have hPl : P ≤ t.size := by omega
    have HPS : Aside0 (wrap64 ((at_ : Int) + (nm.size : Int)) = (P : Int)) := ⟨by unfold wrap64; omega⟩
    go_wp2_with fail
    refine (NM.out _ HNW.out).mono ?_
    rintro _ W1 ⟨rfl, hb⟩
    have HA1 := Aside0.mk (And.intro (HA.out.1.below hb) (And.intro (bk HA.out.2 (Nat.le_of_lt HA.out.1.lt) hb) (HNW.out.up hb)))
    clear hb HA HNW NM hrest
    have n1_ := HA1.out.2.2.at_ i hi2
    rw [HNM.out] at n1_
    by_cases hpe : P = t.size
    · rw [if_pos hpe] at hF
      subst hF
      have a1_ := HA1.out.1
      have b1_ := HA1.out.2.1
      subst hpe
      clear HA1 hP hPl h5 hrl hi3 HNM
      have hps := HPS.out
      clear HPS
      have f0_ := a1_.fz 0
      have k0_ := a1_.cell_0
      have f1_ := a1_.fz 1
      have k1_ := a1_.cell_1
      have f2_ := a1_.fz 2
      have k2_ := a1_.cell_2
      have f3_ := a1_.fz 3
      have k3_ := a1_.cell_3
      have f4_ := a1_.fz 4
      have k4_ := a1_.cell_4
      go_wp2_with fail
      (try simp only [Exit.inBlock, Exit.then])
      exact bodyPost_ret (results_vtt rfl _ _ g rfl (a1_.five _ _ _ _ _)) rfl ⟨rfl, by first | exact below_five b1_ (Nat.le_refl _) _ _ _ _ _ | exact below_is hg (below_five b1_ (Nat.le_refl _) _ _ _ _ _)⟩
    rw [if_neg hpe] at hF
    have hpb : ((P : Int) == (t.size : Int)) = false := by
      rw [beq_eq_false_iff_ne]
      omega
    obtain ⟨Q, hQ⟩ : ∃ Q, P + 1 = Q := ⟨_, rfl⟩
    rw [hQ] at hF
    have HQS : Aside0 (wrap64 ((P : Int) + 1) = (Q : Int)) := ⟨by unfold wrap64; omega⟩
    have q3 : (0 : Int) ≤ (Q : Int) := by omega
    have q4 : (Q : Int) ≤ (t.size : Int) := by omega
    obtain ⟨x, hx⟩ : ∃ x, t.extract Q t.size = x := ⟨_, rfl⟩
    have hxl : x.size = t.size - Q := by rw [← hx, ByteArray.size_extract]; omega
    rw [hx] at hF
    have CC := Aside0.mk (fun W => cut_c x W (by omega))
    have hca := cutA_le x
    have hcl := cutA_lt x
    obtain ⟨one, hone⟩ : ∃ y, cutA x = y := ⟨_, rfl⟩
    obtain ⟨more, hmore⟩ : ∃ y, cutM x = y := ⟨_, rfl⟩
    rw [hone, hmore] at hF CC
    rw [hone] at hca hcl
    rw [hmore] at hcl
    clear hone hmore
    obtain ⟨bi, hbi⟩ : ∃ b, decide (i = 0) = b := ⟨_, rfl⟩
    have hib : ((i : Int) == 0) = bi := by
      rw [← hbi]
      by_cases h : i = 0
      · subst h; rfl
      · rw [decide_eq_false h, beq_eq_false_iff_ne]; omega
    rw [hbi] at hF
    clear hbi
    obtain ⟨⟨r1, r2, r3⟩, hr⟩ : ∃ y, parseS one bi = y := ⟨_, rfl⟩
    rw [hr] at hF
    dsimp only at hF
    have PC := Aside0.mk (fun W => quant_Parse.calls one bi r1 r2 r3 W (by unfold quant_Parse.f; rw [if_pos (by omega), hr]))
    have HS := Aside0.mk (And.intro hca (And.intro hcl (And.intro hxl (And.intro hPl (And.intro hpe hQ)))))
    clear hr hca hcl hxl hPl hpe hP h5 hrl hi3 hQ
    have HF2 := Aside0.mk hF
    clear hF
    have hps := HPS.out
    have hqs := HQS.out
    clear HPS
    go_wp2_with fail
    clear hps hqs
    refine (CC.out _).mono ?_
    rintro _ W2 ⟨⟨b2, rfl⟩, hb⟩
    have HA2 := Aside0.mk (And.intro (HA1.out.1.below hb) (bk HA1.out.2.1 (Nat.le_of_lt HA1.out.1.lt) hb))
    clear hb HA1 CC n1_
    go_wp2_with fail
    refine (PC.out _).mono ?_
    rintro _ W3 ⟨rfl, hb⟩
    have a1_ := HA2.out.1.below hb
    have b1_ := bk HA2.out.2 (Nat.le_of_lt HA2.out.1.lt) hb
    clear hb HA2 PC
    have f0_ := a1_.fz 0
    have k0_ := a1_.cell_0
    have f1_ := a1_.fz 1
    have k1_ := a1_.cell_1
    have f2_ := a1_.fz 2
    have k2_ := a1_.cell_2
    have f3_ := a1_.fz 3
    have k3_ := a1_.cell_3
    have f4_ := a1_.fz 4
    have k4_ := a1_.cell_4
    have hF := HF2.out
    clear HF2
    cases more with
    | true =>
      by_cases h3 : r3 = 3
      · rw [if_pos ⟨h3, rfl⟩] at hF
        subst hF
        have h3b : (r3 == 3) = true := by rw [h3]; rfl
        have hqs := HQS.out
        go_wp2_with fail
        (try simp only [Exit.inBlock, Exit.then])
        exact bodyPost_ret (results_vtt rfl _ _ g rfl (a1_.five _ _ _ _ _)) rfl ⟨by first | rfl | (rw [← HQS.out]; rfl), by first | exact below_five b1_ (Nat.le_refl _) _ _ _ _ _ | exact below_is hg (below_five b1_ (Nat.le_refl _) _ _ _ _ _)⟩
      rw [if_neg (fun h => h3 h.1)] at hF
      have h3b : (r3 == 3) = false := beq_eq_false_iff_ne.2 h3
      by_cases h4 : r3 ≠ 0
      · rw [if_pos h4] at hF
        subst hF
        have h4b : (r3 != 0) = true := bne_iff_ne.2 h4
        have hqs := HQS.out
        go_wp2_with fail
        (try simp only [Exit.inBlock, Exit.then])
        exact bodyPost_ret (results_vtt rfl _ _ g rfl (a1_.five _ _ _ _ _)) rfl ⟨by first | rfl | (rw [← HQS.out]; rfl), by first | exact below_five b1_ (Nat.le_refl _) _ _ _ _ _ | exact below_is hg (below_five b1_ (Nat.le_refl _) _ _ _ _ _)⟩
      rw [if_neg h4] at hF
      have h4b : (r3 != 0) = false := by simpa using h4
      by_cases h6 : r1 = 0
      · rw [if_pos h6] at hF
        subst hF
        have h6b : (r1 == 0) = true := by rw [h6]; rfl
        have hqs := HQS.out
        go_wp2_with fail
        (try simp only [Exit.inBlock, Exit.then])
        exact bodyPost_ret (results_vtt rfl _ _ g rfl (a1_.five _ _ _ _ _)) rfl ⟨by first | rfl | (rw [← HQS.out]; rfl), by first | exact below_five b1_ (Nat.le_refl _) _ _ _ _ _ | exact below_is hg (below_five b1_ (Nat.le_refl _) _ _ _ _ _)⟩
      rw [if_neg h6] at hF
      have h6b : (r1 == 0) = false := beq_eq_false_iff_ne.2 h6
      clear h4 h6
      have W1_ : Aside0 (wrap64 ((i : Int) + 1) = (i : Int) + 1) := ⟨by unfold wrap64; omega⟩
      obtain ⟨S, hS⟩ : ∃ S, Q + one.size = S := ⟨_, rfl⟩
      have hSl : S ≤ t.size := by have := HS.out.1; have := HS.out.2.2.1; omega
      have W2_ : Aside0 (wrap64 ((Q : Int) + (one.size : Int)) = (S : Int)) := ⟨by unfold wrap64; omega⟩
      have ki_ := a1_.at_ i hi2
      have fi_ := a1_.fz i
      obtain ⟨W4, hW4⟩ : ∃ W, W3.setCell ⟨g, i, none⟩ (.int .i64 r1) = W := ⟨_, rfl⟩
      obtain ⟨v2, hv2⟩ : ∃ v, vv.set i r1 = v := ⟨_, rfl⟩
      have v2_ : AtV W4 g v2 := by rw [← hW4, ← hv2]; exact AtV.set_ a1_ i hi2 r1
      have b2_ : Below g w W4 := by rw [← hW4]; exact b1_.setCell (Nat.le_refl _) _
      rw [hv2] at hF
      clear hv2
      rw [if_pos rfl] at hF
      have HZ : Aside0 ((AtV W4 g v2 ∧ Below g w W4) ∧ parseF t m (S + 1) (i + 1) v2 = R) := ⟨⟨v2_, b2_⟩, by rw [← hS]; exact hF⟩
      have W3_ : Aside0 (wrap64 ((S : Int) + 1) = (S : Int) + 1) := ⟨by unfold wrap64; omega⟩
      have hS2 : S + 1 ≤ t.size := by have := HS.out.2.1 rfl; have := HS.out.2.2.1; omega
      have HS2 := Aside0.mk hS2
      clear hS hS2 hSl
      have w1 := W1_.out
      have w2 := W2_.out
      have w3 := W3_.out
      have hqs := HQS.out
      clear hF v2_ b2_ W1_ W2_
      go_wp2_with fail
      clear w1 w2 w3 hqs hW4
      go_roundw
      case rel => exact ⟨S + 1, i + 1, m, v2, by first | go_num | (rw [W3_.out]; go_num), by go_num, HS2.out, by omega, by omega, HZ⟩
      case measure => simp [intOf]; omega
    | false =>
      rw [if_neg (fun h => absurd h.2 (by decide))] at hF
      by_cases h3 : r3 = 3
      · have h4 : r3 ≠ 0 := by omega
        rw [if_pos h4] at hF
        subst hF
        have h3b : (r3 == 3) = true := by rw [h3]; rfl
        have h4b : (r3 != 0) = true := bne_iff_ne.2 h4
        have hqs := HQS.out
        go_wp2_with fail
        (try simp only [Exit.inBlock, Exit.then])
        exact bodyPost_ret (results_vtt rfl _ _ g rfl (a1_.five _ _ _ _ _)) rfl ⟨by first | rfl | (rw [← HQS.out]; rfl), by first | exact below_five b1_ (Nat.le_refl _) _ _ _ _ _ | exact below_is hg (below_five b1_ (Nat.le_refl _) _ _ _ _ _)⟩
      have h3b : (r3 == 3) = false := beq_eq_false_iff_ne.2 h3
      by_cases h4 : r3 ≠ 0
      · rw [if_pos h4] at hF
        subst hF
        have h4b : (r3 != 0) = true := bne_iff_ne.2 h4
        have hqs := HQS.out
        go_wp2_with fail
        (try simp only [Exit.inBlock, Exit.then])
        exact bodyPost_ret (results_vtt rfl _ _ g rfl (a1_.five _ _ _ _ _)) rfl ⟨by first | rfl | (rw [← HQS.out]; rfl), by first | exact below_five b1_ (Nat.le_refl _) _ _ _ _ _ | exact below_is hg (below_five b1_ (Nat.le_refl _) _ _ _ _ _)⟩
      rw [if_neg h4] at hF
      have h4b : (r3 != 0) = false := by simpa using h4
      by_cases h6 : r1 = 0
      · rw [if_pos h6] at hF
        subst hF
        have h6b : (r1 == 0) = true := by rw [h6]; rfl
        have hqs := HQS.out
        go_wp2_with fail
        (try simp only [Exit.inBlock, Exit.then])
        exact bodyPost_ret (results_vtt rfl _ _ g rfl (a1_.five _ _ _ _ _)) rfl ⟨by first | rfl | (rw [← HQS.out]; rfl), by first | exact below_five b1_ (Nat.le_refl _) _ _ _ _ _ | exact below_is hg (below_five b1_ (Nat.le_refl _) _ _ _ _ _)⟩
      rw [if_neg h6] at hF
      have h6b : (r1 == 0) = false := beq_eq_false_iff_ne.2 h6
      clear h4 h6
      have W1_ : Aside0 (wrap64 ((i : Int) + 1) = (i : Int) + 1) := ⟨by unfold wrap64; omega⟩
      obtain ⟨S, hS⟩ : ∃ S, Q + one.size = S := ⟨_, rfl⟩
      have hSl : S ≤ t.size := by have := HS.out.1; have := HS.out.2.2.1; omega
      have W2_ : Aside0 (wrap64 ((Q : Int) + (one.size : Int)) = (S : Int)) := ⟨by unfold wrap64; omega⟩
      have ki_ := a1_.at_ i hi2
      have fi_ := a1_.fz i
      obtain ⟨W4, hW4⟩ : ∃ W, W3.setCell ⟨g, i, none⟩ (.int .i64 r1) = W := ⟨_, rfl⟩
      obtain ⟨v2, hv2⟩ : ∃ v, vv.set i r1 = v := ⟨_, rfl⟩
      have v2_ : AtV W4 g v2 := by rw [← hW4, ← hv2]; exact AtV.set_ a1_ i hi2 r1
      have b2_ : Below g w W4 := by rw [← hW4]; exact b1_.setCell (Nat.le_refl _) _
      rw [hv2] at hF
      clear hv2
      rw [if_neg (by decide)] at hF
      subst hF
      have w1 := W1_.out
      have w2 := W2_.out
      have hqs := HQS.out
      clear W1_ W2_
      obtain ⟨x0, x1, x2, x3, x4⟩ := v2
      (try dsimp only at v2_)
      have f02 := v2_.fz 0
      have k02 := v2_.cell_0
      have f12 := v2_.fz 1
      have k12 := v2_.cell_1
      have f22 := v2_.fz 2
      have k22 := v2_.cell_2
      have f32 := v2_.fz 3
      have k32 := v2_.cell_3
      have f42 := v2_.fz 4
      have k42 := v2_.cell_4
      go_wp2_with fail
      (try simp only [Exit.inBlock, Exit.then])
      exact bodyPost_ret (results_vtt rfl _ _ g rfl (v2_.five _ _ _ _ _)) rfl ⟨rfl, by first | exact below_five b2_ (Nat.le_refl _) _ _ _ _ _ | exact below_is hg (below_five b2_ (Nat.le_refl _) _ _ _ _ _)⟩
end Go.Proofs.YtceepgleeelohaaDoor.P
