import Derived.Test.YtagkgddkpnbfoaaPf13
import Derived.Test.YtagkgddkpnbfoaaPf16
import Derived.Test.YtagkgddkpnbfoaaHput
import Derived.Test.YtagkgddkpnbfoaaHplain
namespace Go.Proofs.Ytagkgddkpnbfoaa.P
set_option linter.unusedVariables false
set_option linter.unusedSimpArgs false
open Go.RowKit Go.Proofs.YtagkgddkpnbfoaaW.PrintWords Go.Proofs.YtagkgddkpnbfoaaW.PrintLast Go.Proofs.YtagkgddkpnbfoaaW.PrintMore

theorem rsum_loop (l : List Int) (hb : ∀ x ∈ l, isByte x) (hm : l.length ≤ 140737488355328) : ∀ (d k i : Nat) (n : Int), i + d = l.length → d < k → (0 ≤ n ∧ n < 65521) →
  drayageref20_Sum.l0 k l n (i : Int) = some (sumF i n (l.drop i)) := by
 intro d
 induction d with
 | zero =>
  intro k i n h hk hn
  obtain ⟨k, rfl⟩ : ∃ m, k = m + 1 := ⟨k - 1, by omega⟩
  simp only [drayageref20_Sum.l0]
  rw [if_neg (by omega), List.drop_of_length_le (by omega)]
  rfl
 | succ d ih =>
  intro k i n h hk hn
  obtain ⟨k, rfl⟩ : ∃ m, k = m + 1 := ⟨k - 1, by omega⟩
  have hi : i < l.length := by omega
  simp only [drayageref20_Sum.l0]
  rw [if_pos (by omega), if_pos (by omega), wrap_succ hi hm]
  have hs := sum_step (i := i) hn (hb (rd l i) (by rw [rd_at hi]; exact List.getElem_mem hi)) (by omega)
  rw [wrap_succ hi hm] at hs
  rw [hs, ih _ _ _ (by omega) (by omega) (by omega), List.drop_eq_getElem_cons hi, rd_at hi]
  rfl
theorem rsum_f (l : List Int) (hb : ∀ x ∈ l, isByte x) (hm : l.length ≤ 140737488355328) (k : Nat) (hk : l.length < k) : drayageref20_Sum.f k l = some (sumL l) := by
 have := rsum_loop l hb hm l.length k 0 0 (by omega) hk (by omega)
 simpa [drayageref20_Sum.f, sumL] using this
theorem rwithin (a b c : Int) : drayageref20_within.f a b c = some (decide (b ≤ a) && decide (a ≤ c)) := by
 unfold drayageref20_within.f
 by_cases h : b ≤ a
 ·rw [if_pos h, decide_eq_true h]; rfl
 ·rw [if_neg h, decide_eq_false h]; rfl
theorem rplan_l1 (a n m : Int) (pl : List Int) (st : List S49) (hm : st.length ≤ 255) : ∀ (d k i : Nat), i + d = st.length → d < k →
  drayageref20_plan.l1 k (i : Int) a n m pl st = some ((st.drop i).all okStep) := by
 intro d
 induction d with
 | zero =>
  intro k i h hk
  obtain ⟨k, rfl⟩ : ∃ m, k = m + 1 := ⟨k - 1, by omega⟩
  simp only [drayageref20_plan.l1]
  rw [if_neg (by omega), List.drop_of_length_le (by omega)]
  rfl
 | succ d ih =>
  intro k i h hk
  obtain ⟨k, rfl⟩ : ∃ m, k = m + 1 := ⟨k - 1, by omega⟩
  have hi : i < st.length := by omega
  simp only [drayageref20_plan.l1]
  rw [if_pos (by omega), if_pos (by omega), wrap_succ hi (by omega), List.drop_eq_getElem_cons hi, rd49_at hi, List.all_cons]
  simp only [rwithin, Option.bind_some]
  have hn := ih k (i + 1) (by omega) (by omega)
  generalize st[i] = x at *
  simp only [hn]
  unfold okStep
  by_cases h1 : 1 ≤ x.f0 <;> by_cases h2 : x.f0 ≤ 2 <;> by_cases h3 : 0 ≤ x.f1 <;> by_cases h4 : x.f1 ≤ 23 <;> by_cases h5 : 0 ≤ x.f2 <;> by_cases h6 : x.f2 ≤ 7 <;> by_cases h7 : x.f0 = 1 <;> by_cases h8 : x.f2 = 0 <;> simp [h1, h2, h3, h4, h5, h6, h7, h8] <;> omega
theorem rplan_l0 (a n m : Int) (pl : List Int) (st : List S49) (hp : pl.length ≤ 24) (hm : st.length ≤ 255) : ∀ (d k i : Nat), i + d = pl.length → d + st.length + 1 < k →
  drayageref20_plan.l0 k (i : Int) a n m pl st = some ((pl.drop i).all okNode && st.all okStep) := by
 intro d
 induction d with
 | zero =>
  intro k i h hk
  obtain ⟨k, rfl⟩ : ∃ m, k = m + 1 := ⟨k - 1, by omega⟩
  simp only [drayageref20_plan.l0]
  rw [if_neg (by omega), List.drop_of_length_le (by omega)]
  have := rplan_l1 a n m pl st hm st.length k 0 (by omega) (by omega)
  simpa using this
 | succ d ih =>
  intro k i h hk
  obtain ⟨k, rfl⟩ : ∃ m, k = m + 1 := ⟨k - 1, by omega⟩
  have hi : i < pl.length := by omega
  simp only [drayageref20_plan.l0]
  rw [if_pos (by omega), if_pos (by omega), wrap_succ hi (by omega), List.drop_eq_getElem_cons hi, rd_at hi, List.all_cons]
  simp only [rwithin, Option.bind_some]
  have hn := ih k (i + 1) (by omega) (by omega)
  rw [hn]
  unfold okNode
  cases decide (-1 ≤ pl[i]) <;> cases decide (pl[i] ≤ 7) <;> simp
theorem rplan_f (a n m : Int) (pl : List Int) (st : List S49) (k : Nat) (hk : 300 ≤ k) : drayageref20_plan.f k a n m pl st = some (decide (n = 0) && decide (m = 0) && okPlan pl st) := by
 obtain ⟨k, rfl⟩ : ∃ m, k = m + 1 := ⟨k - 1, by omega⟩
 unfold drayageref20_plan.f okPlan
 simp only [drayageref20_plan.j0]
 by_cases h1 : n = 0
 ·rw [if_pos h1]
  by_cases h2 : m = 0
  ·rw [if_pos h2]
   by_cases h3 : (pl.length : Int) > 24
   ·rw [if_pos h3, if_pos trivial, decide_eq_false (p := pl.length ≤ 24) (by omega)]; simp
   ·rw [if_neg h3]
    by_cases h4 : (st.length : Int) > 255
    ·rw [if_pos (decide_eq_true h4), decide_eq_false (p := st.length ≤ 255) (by omega)]; simp
    ·rw [if_neg (by simp only [decide_eq_true_eq]; exact h4), decide_eq_true (p := st.length ≤ 255) (by omega), decide_eq_true (p := pl.length ≤ 24) (by omega), decide_eq_true h1, decide_eq_true h2]
     have := rplan_l0 a n m pl st (by omega) (by omega) pl.length k 0 (by omega) (by omega)
     simpa using this
  ·rw [if_neg h2, if_pos trivial, decide_eq_false h2]; simp
 ·rw [if_neg h1, if_pos trivial, decide_eq_false h1]; simp
theorem rcheck_f (a n m : Int) (pl : List Int) (st : List S49) (k : Nat) (hk : 310 ≤ k) : drayageref20_Check.f k a n m pl st = some (if okRec a n m pl st = true then 0 else 2) := by
 obtain ⟨k, rfl⟩ : ∃ m, k = m + 2 := ⟨k - 2, by omega⟩
 have e1 : ∀ x : Bool, drayageref20_Check.j1 (k + 1) x a n m pl st = some (if a = 1 then (if (decide (n = 0) && decide (m = 0) && okPlan pl st) = true then 0 else 2) else if x = true then 0 else 2) := by
  intro x
  simp only [drayageref20_Check.j1]
  by_cases h : a = 1
  ·rw [if_pos h, if_pos h, rplan_f _ _ _ _ _ _ (by omega)]
   simp only [Option.bind_some]
   split <;> rfl
  ·rw [if_neg h, if_neg h]
   split <;> rfl
 have e0 : ∀ x : Bool, drayageref20_Check.j0 (k + 2) x a n m pl st = some (if a = 1 then (if (decide (n = 0) && decide (m = 0) && okPlan pl st) = true then 0 else 2) else if (x && (!decide (a = 6) || decide (1 ≤ n) && decide (n ≤ 3))) = true then 0 else 2) := by
  intro x
  simp only [drayageref20_Check.j0, rwithin, Option.bind_some, e1]
  by_cases h6 : a = 6
  ·rw [if_pos h6, decide_eq_true h6]
   cases x <;> simp
  ·rw [if_neg h6, decide_eq_false h6]
   cases x <;> simp
 unfold drayageref20_Check.f okRec
 simp only [rwithin, Option.bind_some, e0]
 by_cases h : a = 1
 ·simp only [if_pos h]
  split <;> (try split) <;> (try split) <;> (try split) <;> rfl
 ·simp only [if_neg h]
  have e3 : ((pl.length : Int) = 0) = (pl.length = 0) := propext (by omega)
  have e4 : ((st.length : Int) == 0) = decide (st.length = 0) := by
   rw [Bool.eq_iff_iff]; simp
  simp only [e3, e4]
  cases decide (2 ≤ a) <;> cases decide (a ≤ 6) <;> cases decide (0 ≤ n) <;> cases decide (n ≤ 65535) <;> cases decide (0 ≤ m) <;> cases decide (m ≤ 65535) <;> by_cases h5 : pl.length = 0 <;> simp [h5] <;> cases decide (st.length = 0) <;> simp
end Go.Proofs.Ytagkgddkpnbfoaa.P
