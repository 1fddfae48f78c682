import Derived.Test.YtceepgleeelohaaDoorHv15
import Derived.Test.YtceepgleeelohaaDoorHv13
import Derived.Test.YtceepgleeelohaaDoorHrow
/- VecPrints: the law walked, its plain law. -/
namespace Go.Proofs.YtceepgleeelohaaDoor.P
set_option linter.unusedVariables false
set_option linter.unusedSimpArgs false
open Go.RowKit Go.Proofs.YtceepgleeelohaaDoorW.PrintWords Go.Proofs.YtceepgleeelohaaDoorW.PrintLast Go.Proofs.YtceepgleeelohaaDoorW.PrintMore
theorem check_same (v : V) : v.check = v.rcheck := by
  obtain ⟨a, b, c, d, e⟩ := v
  have h1 : V.min ⟨a, b, c, d, e⟩ = min (min (min (min (min a a) b) c) d) e := rfl
  have h2 : V.max ⟨a, b, c, d, e⟩ = max (max (max (max (max a a) b) c) d) e := rfl
  unfold V.check V.rcheck
  rw [h1, h2]
  dsimp only
  clear h1 h2
  by_cases ha : a < 0
  · rw [if_pos ha, if_pos (show min (min (min (min (min a a) b) c) d) e < 0 by omega)]
  rw [if_neg ha]
  by_cases hb : b < 0
  · rw [if_pos hb, if_pos (show min (min (min (min (min a a) b) c) d) e < 0 by omega)]
  rw [if_neg hb]
  by_cases hc : c < 0
  · rw [if_pos hc, if_pos (show min (min (min (min (min a a) b) c) d) e < 0 by omega)]
  rw [if_neg hc]
  by_cases hd : d < 0
  · rw [if_pos hd, if_pos (show min (min (min (min (min a a) b) c) d) e < 0 by omega)]
  rw [if_neg hd]
  by_cases he : e < 0
  · rw [if_pos he, if_pos (show min (min (min (min (min a a) b) c) d) e < 0 by omega)]
  rw [if_neg he]
  rw [if_neg (show ¬ min (min (min (min (min a a) b) c) d) e < 0 by omega)]
  by_cases ga : 1099511627776 < a
  · rw [if_pos ga, if_pos (show 1099511627776 < max (max (max (max (max a a) b) c) d) e by omega)]
  rw [if_neg ga]
  by_cases gb : 1099511627776 < b
  · rw [if_pos gb, if_pos (show 1099511627776 < max (max (max (max (max a a) b) c) d) e by omega)]
  rw [if_neg gb]
  by_cases gc : 1099511627776 < c
  · rw [if_pos gc, if_pos (show 1099511627776 < max (max (max (max (max a a) b) c) d) e by omega)]
  rw [if_neg gc]
  by_cases gd : 1099511627776 < d
  · rw [if_pos gd, if_pos (show 1099511627776 < max (max (max (max (max a a) b) c) d) e by omega)]
  rw [if_neg gd]
  by_cases ge : 1099511627776 < e
  · rw [if_pos ge, if_pos (show 1099511627776 < max (max (max (max (max a a) b) c) d) e by omega)]
  rw [if_neg ge]
  rw [if_neg (show ¬ 1099511627776 < max (max (max (max (max a a) b) c) d) e by omega)]
theorem join_snoc (x : List UInt8) (r : List (List UInt8)) (y sep : List UInt8) : Lib.join ((x :: r) ++ [y]) sep = Lib.join (x :: r) sep ++ (sep ++ y) := by
  rw [List.cons_append, Lib.join_cons, Lib.join_cons, List.append_assoc]
  congr 1
  unfold Lib.joinTail
  simp
theorem joinB_snoc (xs : List ByteArray) (y : ByteArray) (h : xs ≠ []) : joinB (xs ++ [y]) = joinB xs ++ (⟨#[44]⟩ : ByteArray) ++ y := by
  obtain ⟨x, r, rfl⟩ := List.exists_cons_of_ne_nil h
  unfold joinB
  rw [List.map_append, List.map_cons, List.map_cons, List.map_nil, join_snoc]
  apply ByteArray.ext
  simp [ByteArray.data_append]
theorem ba_assoc (a b c : ByteArray) : a ++ b ++ c = a ++ (b ++ c) := ByteArray.append_assoc
theorem part_pos (k : Nat) (n : Int) : 0 < (partB k n).size := by
  unfold partB
  rw [ByteArray.size_append, ByteArray.size_append]
  have h3 : (⟨#[61]⟩ : ByteArray).size = 1 := rfl
  omega
theorem out_same (v : V) (h0 : ∀ k, 0 ≤ v.get k) : ∀ k, v.outS k = joinB (v.parts k) ∧ ((v.outS k).size = 0 ↔ v.parts k = [])
  | 0 => ⟨rfl, ⟨fun _ => rfl, fun _ => rfl⟩⟩
  | k + 1 => by
    obtain ⟨ih, ih2⟩ := out_same v h0 k
    have hk := h0 k
    unfold V.outS V.parts
    by_cases hz : v.get k = 0
    · rw [if_pos hz, if_neg (show ¬ 0 < v.get k by omega)]
      exact ⟨ih, ih2⟩
    · rw [if_neg hz, if_pos (show 0 < v.get k by omega)]
      have hp := part_pos k (v.get k)
      have e1 : ∀ x : ByteArray, x ++ nmB k ++ (⟨#[61]⟩ : ByteArray) ++ (printS (v.get k) (decide (k = 0))).1 = x ++ partB k (v.get k) := fun x => by
        unfold partB
        rw [ba_assoc, ba_assoc, ba_assoc]
      rw [e1]
      refine ⟨?_, ⟨fun h => ?_, fun h => ?_⟩⟩
      · by_cases hs : (v.outS k).size = 0
        · rw [if_pos hs]
          have hp0 := ih2.1 hs
          rw [hp0, List.nil_append]
          have he : v.outS k = ⟨#[]⟩ := by rw [ih, hp0]; rfl
          rw [he]
          unfold joinB
          rw [List.map_cons, List.map_nil, Lib.join_one]
          apply ByteArray.ext
          simp [ByteArray.data_append]
        · rw [if_neg hs, joinB_snoc _ _ (fun h => hs (ih2.2 h)), ih]
      · rw [ByteArray.size_append] at h
        omega
      · exact absurd h (by simp)
theorem check_pos (v : V) (h : v.check = 0) : ∀ k, 0 ≤ v.get k := by
  obtain ⟨a, b, c, d, e⟩ := v
  have h1 : V.min ⟨a, b, c, d, e⟩ = min (min (min (min (min a a) b) c) d) e := rfl
  unfold V.check at h
  rw [h1] at h
  by_cases hm : min (min (min (min (min a a) b) c) d) e < 0
  · rw [if_pos hm] at h
    exact absurd h (by decide)
  intro k
  unfold V.get
  split <;> (dsimp only; omega)
theorem print_same (v : V) : v.print = v.rprint := by
  unfold V.print V.rprint
  rw [check_same]
  by_cases h : v.rcheck ≠ 0
  · rw [if_pos h, if_pos h]
  · rw [if_neg h, if_neg h]
    have h0 : v.check = 0 := by rw [check_same]; omega
    rw [(out_same v (check_pos v h0) 5).1]
set_option maxRecDepth 100000 in
set_option maxHeartbeats 4000000 in
theorem vecPrints_true (a b c d e : Int) (w : World) (hT : Tb w) (hN : Nm w) (w0 : wfI a) (w1 : wfI b) (w2 : wfI c) (w3 : wfI d) (w4 : wfI e) :
    Calls Tryd.prog 4 #[.agg #[.int .i64 a, .int .i64 b, .int .i64 c, .int .i64 d, .int .i64 e]] w fun e_ w' => e_ = .returned (.bool true) ∧ Below w.heap.size w w' := by
  have hb64 : ∀ k, -9223372036854775808 ≤ V.get ⟨a, b, c, d, e⟩ k ∧ V.get ⟨a, b, c, d, e⟩ k ≤ 9223372036854775807 := by
    intro k
    have := wf_bd w0; have := wf_bd w1; have := wf_bd w2; have := wf_bd w3; have := wf_bd w4
    unfold V.get
    split <;> (dsimp only; omega)
  obtain ⟨g, hg⟩ : ∃ g, w.heap.size = g := ⟨_, rfl⟩
  obtain ⟨W0, hW0⟩ : ∃ W, w.alloc (.cells #[.int .i64 a, .int .i64 b, .int .i64 c, .int .i64 d, .int .i64 e] 23) = W := ⟨_, rfl⟩
  have a0_ : At W0 g a b c d e := by rw [← hW0, ← hg]; exact At.new _ _ _ _ _ _
  have b0_ : Below g w W0 := by rw [← hW0, ← hg]; exact below_alloc (Below.refl _ _) _
  have HT := Aside0.mk (And.intro hT hN)
  have PC := fun W (h1 : Tb W) (h2 : Nm W) => print_c a b c d e W h1 h2 hb64
  have RC := fun W (h1 : Tb W) => rprint_c a b c d e W h1 hb64
  rw [← print_same ⟨a, b, c, d, e⟩] at RC
  obtain ⟨⟨s, q⟩, hR⟩ : ∃ R, V.print ⟨a, b, c, d, e⟩ = R := ⟨_, rfl⟩
  rw [hR] at PC RC
  dsimp only at PC RC
  have PC := Aside0.mk PC
  have RC := Aside0.mk RC
  clear hR hT hN w0 w1 w2 w3 w4 hb64
  have k0_ := a0_.cell_0
  have k1_ := a0_.cell_1
  have k2_ := a0_.cell_2
  have k3_ := a0_.cell_3
  have k4_ := a0_.cell_4
  go_enter Tryd.func4, Tryd.ntmps4
  go_wp2_with fail
  refine (PC.out _ (HT.out.1.up (hg ▸ b0_)) (HT.out.2.up (hg ▸ b0_))).mono ?_
  rintro _ V0 ⟨rfl, hb⟩
  have b1_ := bk b0_ (Nat.le_of_lt a0_.lt) hb
  have a1_ := a0_.below hb
  clear k0_ k1_ k2_ k3_ k4_ b0_ a0_ hb hW0
  have k0_ := a1_.cell_0
  have k1_ := a1_.cell_1
  have k2_ := a1_.cell_2
  have k3_ := a1_.cell_3
  have k4_ := a1_.cell_4
  go_wp2_with fail
  refine (RC.out _ (HT.out.1.up (hg ▸ b1_))).mono ?_
  rintro _ V1 ⟨rfl, hb⟩
  have b2_ := bk b1_ (Nat.le_of_lt a1_.lt) hb
  clear k0_ k1_ k2_ k3_ k4_ b1_ a1_ hb
  have hss : (s.toList == s.toList) = true := beq_self_eq_true _
  go_wp2_with fail
  refine (works_c _ (HT.out.1.up (hg ▸ b2_)) (HT.out.2.up (hg ▸ b2_))).mono ?_
  rintro _ V2 ⟨rfl, hb⟩
  have b3_ := bk b2_ (hg ▸ b2_.size) hb
  clear hb
  go_wp2_with fail
  go_ret
  exact ⟨rfl, by first | exact b3_ | exact below_is hg b3_⟩
end Go.Proofs.YtceepgleeelohaaDoor.P
