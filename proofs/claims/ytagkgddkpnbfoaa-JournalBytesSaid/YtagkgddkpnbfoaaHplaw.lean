import Derived.Test.YtagkgddkpnbfoaaHread
/- Plain laws of the journal's bytes: a whole record's bytes are those that Bytes makes, and the other way about. -/
namespace Go.Proofs.Ytagkgddkpnbfoaa.P
set_option linter.unusedVariables false
set_option linter.unusedSimpArgs false
open Go.RowKit Go.Proofs.YtagkgddkpnbfoaaW.PrintWords Go.Proofs.YtagkgddkpnbfoaaW.PrintLast Go.Proofs.YtagkgddkpnbfoaaW.PrintMore

theorem drop_gB {M : List Int} {i : Nat} (h : i < M.length) : M.drop i = gB M i :: M.drop (i + 1) := by
  rw [List.drop_eq_getElem_cons h]
  simp [gB, List.getD_eq_getElem?_getD, List.getElem?_eq_getElem h]
theorem gB_drop (M : List Int) (i j : Nat) : gB (M.drop i) j = gB M (i + j) := by simp [gB, List.getD_eq_getElem?_getD]
theorem gT_drop (M : List Int) (i j : Nat) : gT (M.drop i) j = gT M (i + j) := by simp only [gT, gB_drop]; rfl
theorem gB_take {M : List Int} {i n : Nat} (h : i < n) : gB (M.take n) i = gB M i := by simp [gB, List.getD_eq_getElem?_getD, List.getElem?_take, h]
theorem gB_append {M K : List Int} {i : Nat} (h : i < M.length) : gB (M ++ K) i = gB M i := by simp [gB, List.getD_eq_getElem?_getD, List.getElem?_append_left h]
theorem gB_after {M K : List Int} {i : Nat} (h : M.length ≤ i) : gB (M ++ K) i = gB K (i - M.length) := by simp [gB, List.getD_eq_getElem?_getD, List.getElem?_append_right h]
theorem two_gT {M : List Int} (hb : ∀ x ∈ M, isByte x) (j : Nat) : two (gT M j) = [gB M j, gB M (j + 1)] := by
  have h1 := gB_byte hb j
  have h2 := gB_byte hb (j + 1)
  unfold two gT
  unfold isByte at h1 h2
  have e1 : (256 * gB M j + gB M (j + 1)) / 256 % 256 = gB M j := by omega
  have e2 : (256 * gB M j + gB M (j + 1)) % 256 = gB M (j + 1) := by omega
  rw [e1, e2]
theorem gB_range (M : List Int) (a : Nat) : ∀ n, a + n ≤ M.length → ((List.range n).map fun q => gB M (a + q)) ++ M.drop (a + n) = M.drop a
  | 0, _ => by simp
  | n + 1, h => by
    rw [List.range_succ, List.map_append, List.append_assoc]
    have := drop_gB (M := M) (i := a + n) (by omega)
    simp only [List.map_cons, List.map_nil, List.cons_append, List.nil_append]
    rw [← Nat.add_assoc, ← this, gB_range M a n (by omega)]
theorem gB_threes (M : List Int) (a : Nat) : ∀ n, a + 3 * n ≤ M.length → ((List.range n).flatMap fun q => [gB M (a + 3 * q), gB M (a + 3 * q + 1), gB M (a + 3 * q + 2)]) ++ M.drop (a + 3 * n) = M.drop a
  | 0, _ => by simp
  | n + 1, h => by
    rw [List.range_succ, List.flatMap_append, List.append_assoc]
    have h0 := drop_gB (M := M) (i := a + 3 * n) (by omega)
    have h1 := drop_gB (M := M) (i := a + 3 * n + 1) (by omega)
    have h2 := drop_gB (M := M) (i := a + 3 * n + 1 + 1) (by omega)
    simp only [List.flatMap_cons, List.flatMap_nil, List.cons_append, List.nil_append, List.append_nil]
    have e : a + 3 * (n + 1) = a + 3 * n + 1 + 1 + 1 := by omega
    rw [e, ← h2, ← h1, ← h0, gB_threes M a n (by omega)]
theorem byte_mod {x : Int} (h : isByte x) : x % 256 = x := by unfold isByte at h; omega
theorem toNat_byte {x : Int} (h : isByte x) : ((x.toNat : Nat) : Int) = x := by unfold isByte at h; omega
/-- a whole record's fields are those that stand in its bytes -/
theorem fields_of {M : List Int} (hb : ∀ x ∈ M, isByte x) (h : recIs M = true) : [gB M 0 % 256] ++ fieldsOf (gB M 0) (recN M) (recM M) (recPl M) (recSt M) = M := by
  simp only [recIs, Bool.and_eq_true, decide_eq_true_eq] at h
  obtain ⟨hl, _⟩ := h
  unfold recJ at hl
  have g0 : M = gB M 0 :: M.drop 1 := by
    have : 0 < M.length := by split at hl <;> omega
    have := drop_gB this
    simpa using this
  rw [byte_mod (gB_byte hb 0)]
  unfold fieldsOf
  by_cases hk : gB M 0 = 1
  · rw [if_pos hk] at hl ⊢
    have e3 : recPl M = recPlN M (recNp M) := by unfold recPl; rw [if_pos hk]
    have e4 : recSt M = recStN M (recNs M) := by unfold recSt; rw [if_pos hk]
    rw [e3, e4]
    unfold planB
    have l3 : ((recPlN M (recNp M)).length : Int) % 256 = gB M 1 := by
      unfold recPlN
      simp only [List.length_map, List.length_range]
      unfold recNp
      rw [toNat_byte (gB_byte hb 1), byte_mod (gB_byte hb 1)]
    have l4 : ((recStN M (recNs M)).length : Int) % 256 = gB M (2 + recNp M) := by
      unfold recStN
      simp only [List.length_map, List.length_range]
      unfold recNs
      rw [toNat_byte (gB_byte hb _), byte_mod (gB_byte hb _)]
    rw [l3, l4]
    have m3 : (recPlN M (recNp M)).map (fun n => (n + 1) % 256) = (List.range (recNp M)).map fun q => gB M (2 + q) := by
      unfold recPlN
      rw [List.map_map]
      refine List.map_congr_left fun q _ => ?_
      have := byte_mod (gB_byte hb (2 + q))
      simp only [Function.comp_apply]
      omega
    have m4 : (recStN M (recNs M)).flatMap stepB = (List.range (recNs M)).flatMap fun q => [gB M (3 + recNp M + 3 * q), gB M (3 + recNp M + 3 * q + 1), gB M (3 + recNp M + 3 * q + 2)] := by
      unfold recStN
      rw [List.flatMap_map]
      simp only [stepB, byte_mod (gB_byte hb _)]
    rw [m3, m4]
    have d1 := drop_gB (M := M) (i := 1) (by omega)
    have d2 := gB_range M 2 (recNp M) (by omega)
    have d3 := drop_gB (M := M) (i := 2 + recNp M) (by omega)
    have d4 := gB_threes M (3 + recNp M) (recNs M) (by omega)
    rw [List.drop_eq_nil_of_le (by omega), List.append_nil] at d4
    rw [d4]
    have e : 3 + recNp M = 2 + recNp M + 1 := by omega
    conv => rhs; rw [g0, d1, show 1 + 1 = 2 from rfl, ← d2, d3]
    rw [e]
    simp [hk]
  · rw [if_neg hk] at hl ⊢
    have e3 : recN M = gT M 1 := by unfold recN; rw [if_neg hk]
    have e4 : recM M = gT M 3 := by unfold recM; rw [if_neg hk]
    rw [e3, e4]
    unfold putL
    simp only [List.flatMap_cons, List.flatMap_nil, two_gT hb]
    have d1 := drop_gB (M := M) (i := 1) (by omega)
    have d2 := drop_gB (M := M) (i := 2) (by omega)
    have d3 := drop_gB (M := M) (i := 3) (by omega)
    have d4 := drop_gB (M := M) (i := 4) (by omega)
    have d5 : M.drop 5 = [] := List.drop_eq_nil_of_le (by omega)
    conv => rhs; rw [g0, d1, d2, d3, d4, d5]
    simp
theorem recIs_ok {M : List Int} (h : recIs M = true) : okRec (gB M 0) (recN M) (recM M) (recPl M) (recSt M) = true := by
  simp only [recIs, Bool.and_eq_true] at h
  exact h.2
theorem fMid_byte {b : List Int} (hb : ∀ x ∈ b, isByte x) : ∀ x ∈ fMid b, isByte x := mid_byte hb _ _
/-- the bytes of the record that bytes begin with are just these -/
theorem bytes_of {b : List Int} (hb : ∀ x ∈ b, isByte x) (h : firstOk b = true) : okRec (recOf (fMid b)).f0 (recOf (fMid b)).f1 (recOf (fMid b)).f2 (recOf (fMid b)).f3 (recOf (fMid b)).f4 = true ∧
    recB (recOf (fMid b)).f0 (recOf (fMid b)).f1 (recOf (fMid b)).f2 (recOf (fMid b)).f3 (recOf (fMid b)).f4 = b.take (fN b) := by
  have hs := firstOk_size h
  simp only [firstOk, Bool.and_eq_true] at h
  obtain ⟨hh, hsum, his⟩ := h
  refine ⟨recIs_ok his, ?_⟩
  have hF := fields_of (fMid_byte hb) his
  have hml : (fMid b).length = fN b - 6 := by unfold fMid; simp only [List.length_drop, List.length_take]; omega
  have hhead : headB (recOf (fMid b)).f0 (recOf (fMid b)).f1 (recOf (fMid b)).f2 (recOf (fMid b)).f3 (recOf (fMid b)).f4 = b.take (fN b - 2) := by
    unfold headB recOf
    dsimp only
    rw [List.append_assoc, hF]
    have hfl := congrArg List.length hF
    simp only [List.length_append, List.length_cons, List.length_nil] at hfl
    have e1 : ((fieldsOf (gB (fMid b) 0) (recN (fMid b)) (recM (fMid b)) (recPl (fMid b)) (recSt (fMid b))).length : Int) + 7 = gT b 0 := by omega
    simp only [fHead, Bool.and_eq_true, decide_eq_true_eq] at hh
    rw [e1, ← hh.2.1]
    unfold putL
    simp only [List.flatMap_cons, List.flatMap_nil, two_gT hb, List.append_nil, List.cons_append, List.nil_append]
    unfold fMid
    have t : b.take (fN b - 2) = (b.take (fN b - 2)).take 4 ++ (b.take (fN b - 2)).drop 4 := (List.take_append_drop 4 _).symm
    rw [t]
    have t4 : (b.take (fN b - 2)).take 4 = [gB b 0, gB b 1, gB b 2, gB b 3] := by
      rw [List.take_take, show min 4 (fN b - 2) = 4 by omega]
      have d0 := drop_gB (M := b) (i := 0) (by omega)
      have d1 := drop_gB (M := b) (i := 1) (by omega)
      have d2 := drop_gB (M := b) (i := 2) (by omega)
      have d3 := drop_gB (M := b) (i := 3) (by omega)
      rw [List.drop_zero] at d0
      conv => lhs; rw [d0, d1, d2, d3]
      simp
    rw [t4]
    simp
  unfold recB
  rw [hhead]
  simp only [fSum, decide_eq_true_eq] at hsum
  rw [← hsum]
  unfold putL
  have hbt : ∀ x ∈ (b.take (fN b)).drop (fN b - 2), isByte x := mid_byte hb _ _
  simp only [List.flatMap_cons, List.flatMap_nil, two_gT hbt, List.append_nil]
  have hl : ((b.take (fN b)).drop (fN b - 2)).length = 2 := by simp only [List.length_drop, List.length_take]; omega
  have d0 := drop_gB (M := (b.take (fN b)).drop (fN b - 2)) (i := 0) (by omega)
  have d1 := drop_gB (M := (b.take (fN b)).drop (fN b - 2)) (i := 1) (by omega)
  have d2 : ((b.take (fN b)).drop (fN b - 2)).drop 2 = [] := List.drop_eq_nil_of_le (by omega)
  rw [List.drop_zero] at d0
  have t : b.take (fN b - 2) ++ (b.take (fN b)).drop (fN b - 2) = b.take (fN b) := by
    have := List.take_append_drop (fN b - 2) (b.take (fN b))
    rwa [List.take_take, show min (fN b - 2) (fN b) = fN b - 2 by omega] at this
  rw [d2] at d1
  rw [d1] at d0
  rw [← d0, t]
end Go.Proofs.Ytagkgddkpnbfoaa.P
