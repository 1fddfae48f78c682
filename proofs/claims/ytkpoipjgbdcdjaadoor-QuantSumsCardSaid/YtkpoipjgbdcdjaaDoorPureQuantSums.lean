/- Sums, differences, products and shares are what they are called. -/
import Derived.Test.YtkpoipjgbdcdjaaDoorPf8
import Derived.Test.YtkpoipjgbdcdjaaDoorHqr
import Derived.Test.YtkpoipjgbdcdjaaDoorHworks
namespace Go.Proofs.YtkpoipjgbdcdjaaDoor.Pure
open Go.RowKit Go.Proofs.YtkpoipjgbdcdjaaDoor.P Go.Proofs.YtkpoipjgbdcdjaaDoorW.PrintWords Go.Proofs.YtkpoipjgbdcdjaaDoorW.PrintMore
theorem bring_bd (a d : Int) (hd : 0 < d) (hd2 : d ≤ 1125899906842624) : ∃ x, drayageref00_Bring.f a d = some x ∧ 0 ≤ x ∧ x < d := by
  unfold drayageref00_Bring.f
  have h1 := Int.tmod_lt_of_pos a hd
  have h2 := Int.lt_tmod_of_pos a hd
  rw [if_neg (show ¬ d = 0 by omega)]
  by_cases h : Int.tmod a d < 0
  · rw [if_pos h, show wrap64 (Int.tmod a d + d) = Int.tmod a d + d by unfold wrap64; omega]
    exact ⟨_, rfl, by omega, by omega⟩
  · rw [if_neg h]
    exact ⟨_, rfl, by omega, by omega⟩
def tot : List Int → Int
  | [] => 0
  | x :: r => x + tot r
theorem tot_snoc : ∀ (l : List Int) (x : Int), tot (l ++ [x]) = tot l + x
  | [], x => by show x + 0 = 0 + x; omega
  | y :: r, x => by
    have := tot_snoc r x
    show y + tot (r ++ [x]) = y + tot r + x
    omega
theorem tot_bd : ∀ (l : List Int), (∀ x ∈ l, 0 ≤ x ∧ x < 137438953472) → 0 ≤ tot l ∧ tot l ≤ 137438953472 * l.length
  | [], _ => by show (0 : Int) ≤ 0 ∧ (0 : Int) ≤ 137438953472 * ((0 : Nat) : Int); omega
  | y :: r, h => by
    have h1 := tot_bd r (fun x hx => h x (List.mem_cons_of_mem _ hx))
    have h2 := h y List.mem_cons_self
    show 0 ≤ y + tot r ∧ y + tot r ≤ 137438953472 * ((r.length + 1 : Nat) : Int)
    omega
theorem addS_tot : ∀ (l : List Int) (acc : Int), (∀ x ∈ l, 0 ≤ x ∧ x < 137438953472) → acc ≤ 1099511627776 → addS acc l = if acc + tot l ≤ 1099511627776 then (acc + tot l, 0) else (0, 10)
  | [], acc, _, ha => by
    show (acc, (0 : Int)) = if acc + 0 ≤ 1099511627776 then (acc + 0, 0) else (0, 10)
    rw [if_pos (by omega), Int.add_zero]
  | y :: r, acc, h, ha => by
    have h1 := tot_bd r (fun x hx => h x (List.mem_cons_of_mem _ hx))
    have h2 := h y List.mem_cons_self
    show (if y > 1099511627776 ∨ acc + y > 1099511627776 then ((0 : Int), (10 : Int)) else addS (acc + y) r) = if acc + (y + tot r) ≤ 1099511627776 then (acc + (y + tot r), 0) else (0, 10)
    by_cases hc : acc + y > 1099511627776
    · rw [if_pos (Or.inr hc), if_neg (by omega)]
    · rw [if_neg (by omega), addS_tot r (acc + y) (fun x hx => h x (List.mem_cons_of_mem _ hx)) (by omega), show acc + (y + tot r) = acc + y + tot r by omega]
theorem sums_j5 (a b : Int) (ha : 0 ≤ a ∧ a < 1099511627778) (hb : 0 ≤ b ∧ b < 1099511627778) (k : Nat) (hk : 30 ≤ k) : drayagelaw01_QuantSums.j5 (k + 1) a b false = some true := by
  have ea : wrap64 (Int.tdiv a 2) = a / 2 := by rw [Int.tdiv_eq_ediv_of_nonneg ha.1]; unfold wrap64; omega
  have eb : wrap64 (wrap64 (Int.tdiv b 2) + 1) = b / 2 + 1 := by
    rw [Int.tdiv_eq_ediv_of_nonneg hb.1, show wrap64 (b / 2) = b / 2 by unfold wrap64; omega]
    unfold wrap64; omega
  have ea1 : wrap64 (a / 2 + 1) = a / 2 + 1 := by unfold wrap64; omega
  have hs : ∀ x c : Int, 0 ≤ x → x ≤ 549755813900 → 0 < c → c ≤ 549755813900 → shaS x c = (x * 1000 / c, 0) := by
    intro x c h0 h1 c0 c1
    have c1' : c ≤ 549755813900 := c1
    unfold shaS
    rw [if_neg (show ¬ (x < 0 ∨ c < 0 ∨ c = 0 ∧ x > 0) by omega), if_neg (show ¬ (x > 1099511627776 ∨ c > 1099511627776) by omega), if_neg (show ¬ c = 0 by omega), show wrap64 (x * 1000) = x * 1000 by unfold wrap64; omega, Int.tdiv_eq_ediv_of_nonneg (by omega)]
    have q0 : 0 ≤ x * 1000 / c := Int.ediv_nonneg (by omega) (by omega)
    have q1 : x * 1000 / c ≤ x * 1000 := Int.ediv_le_self c (by omega)
    rw [show wrap64 (x * 1000 / c) = x * 1000 / c by unfold wrap64; omega]
  obtain ⟨j, rfl⟩ : ∃ j, k = j + 1 := ⟨k - 1, by omega⟩
  rw [drayagelaw01_QuantSums.j5, if_neg (show ¬ false = true by decide), ea, eb, ea1, Share_f, Share_f, Option.bind_some, Option.bind_some, hs (a / 2) (b / 2 + 1) (by omega) (by omega) (by omega) (by omega), hs (a / 2 + 1) (b / 2 + 1) (by omega) (by omega) (by omega) (by omega), if_pos (show (0 : Int) = 0 from rfl), if_pos (show (0 : Int) = 0 from rfl),
    if_pos (show a / 2 * 1000 / (b / 2 + 1) ≤ (a / 2 + 1) * 1000 / (b / 2 + 1) from Int.ediv_le_ediv (by omega) (by omega)), works_at (j + 1) (by omega)]
  rfl
theorem sums_j3 (a b : Int) (ha : 0 ≤ a ∧ a < 1099511627778) (hb : 0 ≤ b ∧ b < 1099511627778) (k : Nat) (hk : 30 ≤ k) : drayagelaw01_QuantSums.j3 (k + 3) a b false = some true := by
  have m0 : 0 ≤ Int.tmod b 4096 := by rw [Int.tmod_eq_emod_of_nonneg hb.1]; omega
  have m1 : Int.tmod b 4096 < 4096 := Int.tmod_lt_of_pos b (by decide)
  have hab0 : 0 ≤ a * Int.tmod b 4096 := Int.mul_nonneg ha.1 m0
  rw [drayagelaw01_QuantSums.j3, if_neg (show ¬ false = true by decide), Mul_f, Option.bind_some]
  have fin := sums_j5 a b ha hb k hk
  have j4o : drayagelaw01_QuantSums.j4 (k + 2) a b 0 10 true = some true := by
    rw [drayagelaw01_QuantSums.j4, if_neg (show ¬ (((10 : Int) == 0) == true) = true by decide), if_neg (show ¬ (10 : Int) = 0 by decide)]
    exact fin
  unfold mulS
  rw [if_neg (show ¬ (a < 0 ∨ Int.tmod b 4096 < 0) by omega)]
  by_cases h1 : a > 1099511627776
  · rw [if_pos (show a > 1099511627776 ∨ Int.tmod b 4096 > 1099511627776 from Or.inl h1)]
    dsimp only
    rw [if_pos (show a > 1099511627776 from h1)]
    exact j4o
  · have h1' : a ≤ 1099511627776 := by omega
    have hab1 : a * Int.tmod b 4096 ≤ 1099511627776 * 4096 := Int.mul_le_mul h1' (by omega) m0 (by decide)
    have hw : wrap64 (a * Int.tmod b 4096) = a * Int.tmod b 4096 := by unfold wrap64; omega
    rw [if_neg (show ¬ (a > 1099511627776 ∨ Int.tmod b 4096 > 1099511627776) by omega)]
    by_cases h2 : a * Int.tmod b 4096 > 1099511627776
    · have hc : 0 < Int.tmod b 4096 := by
        rcases Int.lt_or_eq_of_le m0 with h | h
        · exact h
        · rw [← h, Int.mul_zero] at h2; omega
      have hq0 : 0 ≤ (1099511627776 : Int) / Int.tmod b 4096 := Int.ediv_nonneg (by decide) m0
      have hq1 : (1099511627776 : Int) / Int.tmod b 4096 ≤ 1099511627776 := Int.ediv_le_self _ (by decide)
      have hq : wrap64 ((1099511627776 : Int) / Int.tmod b 4096) = (1099511627776 : Int) / Int.tmod b 4096 := by unfold wrap64; omega
      have hgt : a > wrap64 ((1099511627776 : Int) / Int.tmod b 4096) := by
        rw [hq]
        exact (Int.ediv_lt_iff_lt_mul hc).2 h2
      rw [if_pos (show Int.tmod b 4096 > 0 ∧ a > wrap64 ((1099511627776 : Int) / Int.tmod b 4096) from ⟨hc, hgt⟩)]
      dsimp only
      rw [if_neg (show ¬ a > 1099511627776 from h1), hw, decide_eq_true (show a * Int.tmod b 4096 > 1099511627776 from h2)]
      exact j4o
    · have hng : ¬ (Int.tmod b 4096 > 0 ∧ a > wrap64 ((1099511627776 : Int) / Int.tmod b 4096)) := by
        intro ⟨hc, hgt⟩
        have hq0 : 0 ≤ (1099511627776 : Int) / Int.tmod b 4096 := Int.ediv_nonneg (by decide) m0
        have hq1 : (1099511627776 : Int) / Int.tmod b 4096 ≤ 1099511627776 := Int.ediv_le_self _ (by decide)
        rw [show wrap64 ((1099511627776 : Int) / Int.tmod b 4096) = (1099511627776 : Int) / Int.tmod b 4096 by unfold wrap64; omega] at hgt
        exact h2 ((Int.ediv_lt_iff_lt_mul hc).1 hgt)
      rw [if_neg hng]
      dsimp only
      rw [if_neg (show ¬ a > 1099511627776 from h1), hw, decide_eq_false (show ¬ a * Int.tmod b 4096 > 1099511627776 from h2), drayagelaw01_QuantSums.j4, if_neg (show ¬ (((0 : Int) == 0) == false) = true by decide), if_pos (show (0 : Int) = 0 from rfl), hw, show (a * Int.tmod b 4096 != a * Int.tmod b 4096) = false by simp]
      exact fin
theorem sums_j2 (a b : Int) (ha : 0 ≤ a ∧ a < 1099511627778) (hb : 0 ≤ b ∧ b < 1099511627778) (k : Nat) (hk : 30 ≤ k) : drayagelaw01_QuantSums.j2 (k + 4) a b false = some true := by
  have hM : 0 ≤ mx a b ∧ mx a b < 1099511627778 := by unfold mx; split <;> omega
  have hm : 0 ≤ mn a b ∧ mn a b < 1099511627778 := by unfold mn; split <;> omega
  have hle : mn a b ≤ mx a b := by unfold mx mn; split <;> split <;> omega
  rw [drayagelaw01_QuantSums.j2, if_neg (show ¬ false = true by decide), Sub_f, Option.bind_some]
  have fin := sums_j3 a b ha hb k hk
  generalize mx a b = x at hM hle
  generalize mn a b = y at hm hle
  unfold subS
  rw [if_neg (show ¬ (x < 0 ∨ y < 0 ∨ y > x) by omega)]
  by_cases h : x > 1099511627776
  · rw [if_pos h]
    dsimp only
    rw [decide_eq_false (show ¬ x ≤ 1099511627776 from Int.not_le.2 h), if_neg (show ¬ (((10 : Int) == 0) != false) = true by decide), if_neg (show ¬ (10 : Int) = 0 by decide)]
    exact fin
  · have h' : x ≤ 1099511627776 := Int.not_lt.1 h
    rw [if_neg h]
    dsimp only
    rw [decide_eq_true (show x ≤ 1099511627776 from h'), if_neg (show ¬ (((0 : Int) == 0) != true) = true by decide), if_pos (show (0 : Int) = 0 from rfl), show wrap64 (x - y + y) = x by unfold wrap64; omega, show (x != x) = false by simp]
    exact fin
theorem sums_j1 (a b : Int) (ha : 0 ≤ a ∧ a < 1099511627778) (hb : 0 ≤ b ∧ b < 1099511627778) (row : List Int) (hl : row.length ≤ 20) (hr : ∀ x ∈ row, 0 ≤ x ∧ x < 137438953472) (k : Nat) (hk : 40 ≤ k) : drayagelaw01_QuantSums.j1 (k + 5) a b (tot row) (decide (tot row ≤ 1099511627776)) row = some true := by
  have fin := sums_j2 a b ha hb k (by omega)
  rw [drayagelaw01_QuantSums.j1, Add_f row (by omega) (k + 4) (by omega), Option.bind_some]
  have hs : sumS row = if tot row ≤ 1099511627776 then (tot row, 0) else (0, 10) := by
    unfold sumS
    rw [if_neg (by
      intro h
      obtain ⟨x, hx, hx2⟩ := List.any_eq_true.1 h
      have := hr x hx
      unfold belowB at hx2
      simp only [decide_eq_true_eq] at hx2
      omega), addS_tot row 0 hr (by decide), Int.zero_add]
  rw [hs]
  by_cases h : tot row ≤ 1099511627776
  · rw [if_pos h, decide_eq_true h]
    dsimp only
    rw [if_neg (show ¬ (((0 : Int) == 0) != true) = true by decide), if_pos (show true = true from rfl), if_pos (show tot row = tot row from rfl)]
    exact fin
  · rw [if_neg h, decide_eq_false h]
    dsimp only
    rw [if_neg (show ¬ (((10 : Int) == 0) != false) = true by decide), if_neg (show ¬ false = true by decide), show ((10 : Int) != 10) = false by decide]
    exact fin
theorem sums_l0 (l : List Int) (a b : Int) (ha : 0 ≤ a ∧ a < 1099511627778) (hb : 0 ≤ b ∧ b < 1099511627778) : ∀ (n : Nat) (i : Nat) (row : List Int), i + n = 20 → row.length = i → (i : Int) ≤ l.length → (∀ x ∈ row, 0 ≤ x ∧ x < 137438953472) →
    drayagelaw01_QuantSums.l0 (n + 60) l a b (tot row) (decide (tot row ≤ 1099511627776)) row (i : Int) = some true := by
  intro n
  induction n with
  | zero =>
    intro i row h hl hi hr
    rw [show 0 + 60 = 54 + 5 + 1 by omega, drayagelaw01_QuantSums.l0]
    have fin := sums_j1 a b ha hb row (by omega) hr 54 (by decide)
    by_cases h1 : (i : Int) < (l.length : Int)
    · rw [if_pos h1, if_neg (show ¬ (i : Int) < 20 by omega)]
      exact fin
    · rw [if_neg h1]
      exact fin
  | succ n ih =>
    intro i row h hl hi hr
    rw [show n + 1 + 60 = n + 55 + 5 + 1 by omega, drayagelaw01_QuantSums.l0]
    by_cases h1 : (i : Int) < (l.length : Int)
    · obtain ⟨x, hx, x0, x1⟩ := bring_bd (rd l (i : Int)) 137438953472 (by decide) (by decide)
      have hr' : ∀ y ∈ row ++ [x], 0 ≤ y ∧ y < 137438953472 := by
        intro y hy
        rcases List.mem_append.1 hy with hy | hy
        · exact hr y hy
        · rw [List.mem_singleton] at hy; subst hy; exact ⟨x0, x1⟩
      have hb1 := tot_bd row hr
      have ht := tot_snoc row x
      rw [if_pos h1, if_pos (show (i : Int) < 20 by omega), if_pos (show (0 : Int) ≤ (i : Int) by omega), hx, Option.bind_some, if_pos (show row.length < 17592186044416 by omega), Option.bind_some, show wrap64 (tot row + x) = tot (row ++ [x]) by rw [ht]; unfold wrap64; omega, show wrap64 ((i : Int) + 1) = ((i + 1 : Nat) : Int) by unfold wrap64; omega]
      have next := ih (i + 1) (row ++ [x]) (by omega) (by rw [List.length_append, List.length_singleton]; omega) (by omega) hr'
      by_cases h2 : tot row ≤ 1099511627776
      · rw [decide_eq_true h2, if_pos (show true = true from rfl)]
        exact next
      · rw [decide_eq_false h2, if_neg (show ¬ false = true by decide)]
        rw [decide_eq_false (show ¬ tot (row ++ [x]) ≤ 1099511627776 by omega)] at next
        exact next
    · rw [if_neg h1]
      exact sums_j1 a b ha hb row (by omega) hr (n + 55) (by omega)
theorem QuantSums : drayagelaw01_QuantSums.Pure := by
  intro l0 a1 a2 _ _ _ _ _
  refine ⟨80, ?_⟩
  obtain ⟨x, hx, x0, x1⟩ := bring_bd a1 1099511627778 (by decide) (by decide)
  obtain ⟨y, hy, y0, y1⟩ := bring_bd a2 1099511627778 (by decide) (by decide)
  unfold drayagelaw01_QuantSums.f
  rw [hx, hy, Option.bind_some, Option.bind_some]
  exact sums_l0 l0 x y ⟨x0, x1⟩ ⟨y0, y1⟩ 20 0 [] rfl rfl (by omega) (fun _ h => by cases h)
end Go.Proofs.YtkpoipjgbdcdjaaDoor.Pure
