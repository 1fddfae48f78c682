import Derived.Test.YtagkgddkpnbfoaaPf21
import Derived.Test.YtagkgddkpnbfoaaHput
namespace Go.Proofs.Ytagkgddkpnbfoaa.P
set_option linter.unusedVariables false
set_option linter.unusedSimpArgs false
open Go.RowKit Go.Proofs.YtagkgddkpnbfoaaW.PrintWords Go.Proofs.YtagkgddkpnbfoaaW.PrintLast Go.Proofs.YtagkgddkpnbfoaaW.PrintMore
theorem eqInts_self (l : List Int) (hl : l.length ≤ 140737488355328) : ∀ (d k i : Nat), i + d = l.length → d < k → drayageref00_EqInts.l0 k l l (i : Int) = some true := by
 intro d
 induction d with
 | zero =>
  intro k i h hk
  obtain ⟨k, rfl⟩ : ∃ m, k = m + 1 := ⟨k - 1, by omega⟩
  simp only [drayageref00_EqInts.l0]
  rw [if_neg (by omega)]
 | succ d ih =>
  intro k i h hk
  obtain ⟨k, rfl⟩ : ∃ m, k = m + 1 := ⟨k - 1, by omega⟩
  simp only [drayageref00_EqInts.l0]
  rw [if_pos (by omega), if_pos (by omega), if_pos (by omega), if_pos trivial, wrap_succ (n := l.length) (by omega) hl]
  exact ih k (i + 1) (by omega) (by omega)
theorem eqInts_f (l : List Int) (hl : l.length ≤ 140737488355328) (k : Nat) (hk : l.length < k) : drayageref00_EqInts.f k l l = some true := by
 unfold drayageref00_EqInts.f
 rw [if_pos rfl]
 exact eqInts_self l hl l.length k 0 (by omega) hk
theorem same_loop (a n m : Int) (pl : List Int) (st : List S49) (hl : st.length ≤ 140737488355328) : ∀ (d k i : Nat), i + d = st.length → d < k → drayageref20_Same.l0 k (i : Int) a n m pl st a n m pl st = some true := by
 intro d
 induction d with
 | zero =>
  intro k i h hk
  obtain ⟨k, rfl⟩ : ∃ m, k = m + 1 := ⟨k - 1, by omega⟩
  simp only [drayageref20_Same.l0]
  rw [if_neg (by omega)]
 | succ d ih =>
  intro k i h hk
  obtain ⟨k, rfl⟩ : ∃ m, k = m + 1 := ⟨k - 1, by omega⟩
  simp only [drayageref20_Same.l0]
  rw [if_pos (by omega), if_pos (by omega), if_pos (by omega), if_neg (by simp), wrap_succ (n := st.length) (by omega) hl]
  exact ih k (i + 1) (by omega) (by omega)
theorem same_f (x : S25) (k : Nat) (h3 : x.f3.length + 2 ≤ k) (h4 : x.f4.length + 2 ≤ k) (h5 : k ≤ 140737488355328) : drayageref20_Same.f k x.f0 x.f1 x.f2 x.f3 x.f4 x.f0 x.f1 x.f2 x.f3 x.f4 = some true := by
 obtain ⟨k, rfl⟩ : ∃ m, k = m + 1 := ⟨k - 1, by omega⟩
 unfold drayageref20_Same.f
 rw [if_pos rfl, if_pos rfl, if_pos rfl, eqInts_f _ (by omega) _ (by omega)]
 simp only [Option.bind_some, drayageref20_Same.j0]
 rw [if_pos trivial, if_neg (by simp)]
 exact same_loop _ _ _ _ _ (by omega) x.f4.length k 0 (by omega) (by omega)
theorem sameAll_loop (l : List S25) (hl : l.length ≤ 140737488355328) (K : Nat) (hK : ∀ x ∈ l, x.f3.length + 2 ≤ K ∧ x.f4.length + 2 ≤ K) : ∀ (d k i : Nat), i + d = l.length → d + K < k → k ≤ 140737488355328 → drayageref20_SameAll.l0 k l l (i : Int) = some true := by
 intro d
 induction d with
 | zero =>
  intro k i h hk hk2
  obtain ⟨k, rfl⟩ : ∃ m, k = m + 1 := ⟨k - 1, by omega⟩
  simp only [drayageref20_SameAll.l0]
  rw [if_neg (by omega)]
 | succ d ih =>
  intro k i h hk hk2
  obtain ⟨k, rfl⟩ : ∃ m, k = m + 1 := ⟨k - 1, by omega⟩
  have hi : i < l.length := by omega
  have hx : rd_T25 l (i : Int) ∈ l := by
   unfold rd_T25
   rw [List.getD_eq_getElem?_getD, Int.toNat_natCast, List.getElem?_eq_getElem hi]
   exact List.getElem_mem hi
  obtain ⟨q3, q4⟩ := hK _ hx
  simp only [drayageref20_SameAll.l0]
  rw [if_pos (by omega), if_pos (by omega), if_pos (by omega), same_f _ _ (by omega) (by omega) (by omega)]
  simp only [Option.bind_some]
  rw [if_pos trivial, wrap_succ (n := l.length) (by omega) hl]
  exact ih k (i + 1) (by omega) (by omega) (by omega)
theorem sameAll_f (l : List S25) (K k : Nat) (hK : ∀ x ∈ l, x.f3.length + 2 ≤ K ∧ x.f4.length + 2 ≤ K) (hk : l.length + K < k) (hk2 : k ≤ 140737488355328) : drayageref20_SameAll.f k l l = some true := by
 unfold drayageref20_SameAll.f
 rw [if_pos rfl]
 exact sameAll_loop l (by omega) K hK l.length k 0 (by omega) (by omega) hk2
end Go.Proofs.Ytagkgddkpnbfoaa.P
