import Derived.Test.YtceepgleeelohaaDoorPf32
import Derived.Test.YtceepgleeelohaaDoorPf47
import Derived.Test.YtceepgleeelohaaDoorPf30
import Derived.Test.YtceepgleeelohaaDoorPf48
import Derived.Test.YtceepgleeelohaaDoorPf34
import Derived.Test.YtceepgleeelohaaDoorPf49
import Derived.Test.YtceepgleeelohaaDoorPf46
import Derived.Test.YtceepgleeelohaaDoorPf50
/- What the sums, differences, products and shares of quant come to. -/
namespace Go.Proofs.YtceepgleeelohaaDoor.P
set_option linter.unusedVariables false
set_option linter.unusedSimpArgs false
open Go.RowKit Go.Proofs.YtceepgleeelohaaDoorW.PrintWords Go.Proofs.YtceepgleeelohaaDoorW.PrintLast Go.Proofs.YtceepgleeelohaaDoorW.PrintMore
theorem chk2 (a b : Int) : checkedI [a, b] = if a < 0 ∨ b < 0 then 2 else if a > 1099511627776 ∨ b > 1099511627776 then 10 else 0 := by
  unfold checkedI belowB aboveB
  simp only [List.any_cons, List.any_nil, Bool.or_false, Bool.or_eq_true, decide_eq_true_eq]
theorem chk_f (l : List Int) : quant_checked.f l = some (checkedI l) := rfl
/-- what Sub answers -/
def subS (a b : Int) : Int × Int := if a < 0 ∨ b < 0 ∨ b > a then (0, 2) else if a > 1099511627776 then (0, 10) else (a - b, 0)
theorem Sub_f (a b : Int) : quant_Sub.f a b = some (subS a b) := by
  unfold quant_Sub.f subS
  rw [chk_f, chk2, Option.bind_some]
  by_cases h1 : b > a
  · rw [if_pos h1, if_pos (Or.inr (Or.inr h1))]
  · rw [if_neg h1]
    by_cases h2 : a < 0 ∨ b < 0
    · rw [if_pos h2, if_neg (by decide), if_pos (by omega)]
    · rw [if_neg h2, if_neg (show ¬ (a < 0 ∨ b < 0 ∨ b > a) by omega)]
      by_cases h3 : a > 1099511627776
      · rw [if_pos (Or.inl h3), if_neg (by decide), if_pos h3]
      · rw [if_neg (show ¬ (a > 1099511627776 ∨ b > 1099511627776) by omega), if_pos rfl, if_neg h3]
        have h4 : a ≤ 1099511627776 := by omega
        rw [show wrap64 (a - b) = a - b by unfold wrap64; omega]
theorem refSub_f (a b : Int) (k : Nat) : drayageref01_Sub.f (k + 1) a b = some (subS a b) := by
  unfold drayageref01_Sub.f subS
  by_cases h1 : a < 0
  · rw [if_pos h1, drayageref01_Sub.j0, if_pos rfl, if_pos (Or.inl h1)]
  rw [if_neg h1]
  by_cases h2 : b < 0
  · rw [if_pos h2, drayageref01_Sub.j0, if_pos rfl, if_pos (Or.inr (Or.inl h2))]
  rw [if_neg h2, drayageref01_Sub.j0]
  by_cases h3 : b > a
  · rw [decide_eq_true h3, if_pos rfl, if_pos (Or.inr (Or.inr h3))]
  rw [decide_eq_false h3, if_neg (by decide), if_neg (show ¬ (a < 0 ∨ b < 0 ∨ b > a) by omega)]
  by_cases h4 : a > 1099511627776
  · have h4' : a > 1099511627776 := h4
    rw [if_pos h4', if_pos h4]
  · have h4' : ¬ a > 1099511627776 := h4
    rw [if_neg h4', if_neg h4, show wrap64 (a - b) = a - b by unfold wrap64; omega]
/-- what Mul answers -/
def mulS (a b : Int) : Int × Int := if a < 0 ∨ b < 0 then (0, 2) else if a > 1099511627776 ∨ b > 1099511627776 then (0, 10) else if b > 0 ∧ a > wrap64 ((1099511627776 : Int) / b) then (0, 10) else (wrap64 (a * b), 0)
theorem Mul_f (a b : Int) : quant_Mul.f a b = some (mulS a b) := by
  unfold quant_Mul.f mulS
  rw [chk_f, chk2, Option.bind_some]
  by_cases h1 : a < 0 ∨ b < 0
  · rw [if_pos h1, if_neg (by decide), if_pos h1]
  rw [if_neg h1, if_neg h1]
  by_cases h2 : a > 1099511627776 ∨ b > 1099511627776
  · rw [if_pos h2, if_neg (by decide), if_pos h2]
  rw [if_neg h2, if_pos rfl, if_neg h2]
  by_cases h3 : b > 0
  · rw [if_pos h3, if_neg (by omega)]
    by_cases h4 : a > wrap64 ((1099511627776 : Int) / b)
    · rw [if_pos h4, if_pos ⟨h3, h4⟩]
    · rw [if_neg h4, if_neg (fun h => h4 h.2)]
  · rw [if_neg h3, if_neg (fun h => h3 h.1)]
theorem refMul_f (a b : Int) (k : Nat) : drayageref01_Mul.f (k + 1) a b = some (mulS a b) := by
  unfold drayageref01_Mul.f mulS
  by_cases h1 : a < 0
  · rw [if_pos h1, drayageref01_Mul.j0, if_pos rfl, if_pos (Or.inl h1)]
  rw [if_neg h1, drayageref01_Mul.j0]
  by_cases h2 : b < 0
  · rw [decide_eq_true h2, if_pos rfl, if_pos (Or.inr h2)]
  rw [decide_eq_false h2, if_neg (by decide), if_neg (show ¬ (a < 0 ∨ b < 0) from fun h => h.elim h1 h2)]
  by_cases h3 : a > 1099511627776
  · have h3' : a > 1099511627776 := h3
    rw [if_pos h3', if_pos (Or.inl h3)]
  have h3' : ¬ a > 1099511627776 := h3
  rw [if_neg h3']
  by_cases h4 : b > 1099511627776
  · have h4' : b > 1099511627776 := h4
    rw [if_pos h4', if_pos (Or.inr h4)]
  have h4' : ¬ b > 1099511627776 := h4
  rw [if_neg h4', if_neg (show ¬ (a > 1099511627776 ∨ b > 1099511627776) from fun h => h.elim h3 h4)]
  by_cases h5 : b > 0
  · rw [if_pos h5, if_neg (by omega)]
    by_cases h6 : a > wrap64 ((1099511627776 : Int) / b)
    · rw [if_pos h6, if_pos ⟨h5, h6⟩]
    · rw [if_neg h6, if_neg (fun h => h6 h.2)]
  · rw [if_neg h5, if_neg (fun h => h5 h.1)]
/-- what Share answers -/
def shaS (a b : Int) : Int × Int := if a < 0 ∨ b < 0 ∨ (b = 0 ∧ a > 0) then (0, 2) else if a > 1099511627776 ∨ b > 1099511627776 then (0, 10) else if b = 0 then (0, 0) else (wrap64 (Int.tdiv (wrap64 (a * 1000)) b), 0)
theorem w_zero : wrap64 (Int.tdiv (wrap64 (0 * 1000)) 1) = 0 := by kernel_rfl
theorem Share_f (a b : Int) (k : Nat) : quant_Share.f (k + 1) a b = some (shaS a b) := by
  have go : ¬ (b = 0 ∧ a > 0) → ((quant_checked.f (([a, b] : List Int))).bind fun t159 => (if t159 = 0 then (if (mx b 1) = 0 then (none) else (some (wrap64 (Int.tdiv (wrap64 (a * 1000)) (mx b 1)), (0 : Int)))) else (some (0, t159)))) = some (shaS a b) := by
    intro h0
    unfold shaS
    rw [chk_f, chk2, Option.bind_some]
    by_cases h1 : a < 0 ∨ b < 0
    · rw [if_pos h1, if_neg (by decide), if_pos (h1.elim Or.inl (fun h => Or.inr (Or.inl h)))]
    rw [if_neg h1, if_neg (show ¬ (a < 0 ∨ b < 0 ∨ (b = 0 ∧ a > 0)) by omega)]
    by_cases h2 : a > 1099511627776 ∨ b > 1099511627776
    · rw [if_pos h2, if_neg (by decide), if_pos h2]
    rw [if_neg h2, if_pos rfl, if_neg h2]
    by_cases h3 : b = 0
    · have ha : a = 0 := by omega
      subst h3 ha
      rw [if_pos rfl, show mx 0 1 = 1 from rfl, if_neg (by decide), w_zero]
    · have hm : mx b 1 = b := by unfold mx; split <;> omega
      rw [hm, if_neg h3, if_neg h3]
  unfold quant_Share.f
  by_cases hb : b = 0
  · rw [if_pos hb, quant_Share.j0]
    by_cases ha : a > 0
    · rw [decide_eq_true ha, if_pos rfl]
      unfold shaS
      rw [if_pos (Or.inr (Or.inr ⟨hb, ha⟩))]
    · rw [decide_eq_false ha, if_neg (by decide)]
      exact go (fun h => ha h.2)
  · rw [if_neg hb, quant_Share.j0, if_neg (by decide)]
    exact go (fun h => hb h.1)
theorem refShare_f (a b : Int) (k : Nat) : drayageref01_Share.f (k + 2) a b = some (shaS a b) := by
  unfold drayageref01_Share.f shaS
  by_cases h1 : a < 0
  · rw [if_pos h1, drayageref01_Share.j0, if_pos rfl, if_pos (Or.inl h1)]
  rw [if_neg h1]
  by_cases h2 : b < 0
  · rw [if_pos h2, drayageref01_Share.j0, if_pos rfl, if_pos (Or.inr (Or.inl h2))]
  rw [if_neg h2]
  have rest : ¬ (b = 0 ∧ a > 0) → drayageref01_Share.j0 (k + 2) a b false = some (if a < 0 ∨ b < 0 ∨ (b = 0 ∧ a > 0) then (0, 2) else if a > 1099511627776 ∨ b > 1099511627776 then (0, 10) else if b = 0 then (0, 0) else (wrap64 (Int.tdiv (wrap64 (a * 1000)) b), 0)) := by
    intro h0
    rw [drayageref01_Share.j0, if_neg (by decide), if_neg (show ¬ (a < 0 ∨ b < 0 ∨ (b = 0 ∧ a > 0)) by omega)]
    by_cases h3 : a > 1099511627776
    · have h3' : a > 1099511627776 := h3
      rw [if_pos h3', drayageref01_Share.j1, if_pos rfl, if_pos (Or.inl h3)]
    have h3' : ¬ a > 1099511627776 := h3
    rw [if_neg h3', drayageref01_Share.j1]
    by_cases h4 : b > 1099511627776
    · have h4' : b > 1099511627776 := h4
      rw [decide_eq_true h4', if_pos rfl, if_pos (Or.inr h4)]
    have h4' : ¬ b > 1099511627776 := h4
    rw [decide_eq_false h4', if_neg (by decide), if_neg (show ¬ (a > 1099511627776 ∨ b > 1099511627776) from fun h => h.elim h3 h4)]
    by_cases h5 : b = 0
    · rw [if_pos h5, if_pos h5]
    · rw [if_neg h5, if_neg h5]
  by_cases hb : b = 0
  · rw [if_pos hb]
    by_cases ha : a > 0
    · rw [decide_eq_true ha, drayageref01_Share.j0, if_pos rfl, if_pos (Or.inr (Or.inr ⟨hb, ha⟩))]
    · rw [decide_eq_false ha]
      exact rest (fun h => ha h.2)
  · rw [if_neg hb]
    exact rest (fun h => hb h.1)
/-- a sum of numbers none of which is below 0 -/
def addS : Int → List Int → Int × Int
  | acc, [] => (acc, 0)
  | acc, x :: r => if x > 1099511627776 ∨ acc + x > 1099511627776 then (0, 10) else addS (acc + x) r
theorem add_over : ∀ (l : List Int) (acc : Int), (∃ x ∈ l, x > 1099511627776) → addS acc l = (0, 10)
  | [], _, h => by obtain ⟨x, hx, _⟩ := h; cases hx
  | x :: r, acc, h => by
    unfold addS
    by_cases hc : x > 1099511627776 ∨ acc + x > 1099511627776
    · rw [if_pos hc]
    · rw [if_neg hc]
      obtain ⟨y, hy, hy2⟩ := h
      rcases List.mem_cons.1 hy with e | hy
      · subst e; exact absurd (Or.inl hy2) hc
      · exact add_over r _ ⟨y, hy, hy2⟩
theorem add_q (l : List Int) (hl : l.length ≤ 100) (h0 : ∀ x ∈ l, 0 ≤ x ∧ x ≤ 1099511627776) : ∀ (n m i : Nat) (acc : Int), i + n = l.length → 0 ≤ acc → acc ≤ 1099511627776 → quant_Add.l0 (n + 1 + m) acc l (l.length : Int) (i : Int) = some (addS acc (l.drop i))
  | 0, m, i, acc, h, _, _ => by
    rw [show 0 + 1 + m = m + 1 by omega, quant_Add.l0, if_neg (by omega), List.drop_of_length_le (by omega)]
    rfl
  | n + 1, m, i, acc, h, a0, a1 => by
    have hlt : i < l.length := by omega
    have hx := h0 _ (List.getElem_mem hlt)
    have a1' : acc ≤ 1099511627776 := a1
    have hx2 : l[i] ≤ 1099511627776 := hx.2
    rw [show n + 1 + 1 + m = n + 1 + m + 1 by omega, quant_Add.l0, if_pos (by omega), if_pos (by omega), if_pos (by omega), rd_get l i hlt, show wrap64 (acc + l[i]) = acc + l[i] by unfold wrap64; omega, above_f, Option.bind_some, List.drop_eq_getElem_cons hlt]
    unfold addS aboveB
    by_cases hc : acc + l[i] > 1099511627776
    · have hc' : acc + l[i] > 1099511627776 := hc
      rw [if_pos (Or.inr hc), decide_eq_true hc', if_pos rfl]
    · have hc' : ¬ acc + l[i] > 1099511627776 := hc
      rw [if_neg (show ¬ (l[i] > 1099511627776 ∨ acc + l[i] > 1099511627776) by omega), decide_eq_false hc', if_neg (by decide), show wrap64 ((i : Int) + 1) = ((i + 1 : Nat) : Int) by unfold wrap64; omega]
      exact add_q l hl h0 n m (i + 1) _ (by omega) (by omega) (by omega)
theorem add_r (l : List Int) (hl : l.length ≤ 100) (h0 : ∀ x ∈ l, 0 ≤ x ∧ x ≤ 9223372036854775807) : ∀ (n m i : Nat) (acc : Int), i + n = l.length → 0 ≤ acc → acc ≤ 1099511627776 → drayageref01_Add.l1 (n + 1 + m) l acc (i : Int) = some (addS acc (l.drop i))
  | 0, m, i, acc, h, _, _ => by
    rw [show 0 + 1 + m = m + 1 by omega, drayageref01_Add.l1, if_neg (by omega), List.drop_of_length_le (by omega)]
    rfl
  | n + 1, m, i, acc, h, a0, a1 => by
    have hlt : i < l.length := by omega
    have hx := h0 _ (List.getElem_mem hlt)
    have a1' : acc ≤ 1099511627776 := a1
    rw [show n + 1 + 1 + m = n + 1 + m + 1 by omega, drayageref01_Add.l1, if_pos (by omega), if_pos (by omega), rd_get l i hlt, List.drop_eq_getElem_cons hlt]
    unfold addS
    by_cases hb : l[i] > 1099511627776
    · have hb' : l[i] > 1099511627776 := hb
      rw [if_pos hb', if_pos (Or.inl hb)]
    have hb' : ¬ l[i] > 1099511627776 := hb
    rw [if_neg hb', show wrap64 (acc + l[i]) = acc + l[i] by unfold wrap64; omega]
    by_cases hc : acc + l[i] > 1099511627776
    · have hc' : acc + l[i] > 1099511627776 := hc
      rw [if_pos hc', if_pos (Or.inr hc)]
    · have hc' : ¬ acc + l[i] > 1099511627776 := hc
      rw [if_neg hc', if_neg (show ¬ (l[i] > 1099511627776 ∨ acc + l[i] > 1099511627776) from fun h => h.elim hb hc), show wrap64 ((i : Int) + 1) = ((i + 1 : Nat) : Int) by unfold wrap64; omega]
      exact add_r l hl h0 n m (i + 1) _ (by omega) (by omega) (by omega)
theorem add_r0 (l : List Int) (hl : l.length ≤ 100) : ∀ (n m i : Nat), i + n = l.length → drayageref01_Add.l0 (n + 1 + m) l (i : Int) = if (l.drop i).any belowB = true then some (0, 2) else drayageref01_Add.l1 m l 0 0
  | 0, m, i, h => by
    rw [show 0 + 1 + m = m + 1 by omega, drayageref01_Add.l0, if_neg (by omega), List.drop_of_length_le (by omega), List.any_nil, if_neg (by decide)]
  | n + 1, m, i, h => by
    have hlt : i < l.length := by omega
    rw [show n + 1 + 1 + m = n + 1 + m + 1 by omega, drayageref01_Add.l0, if_pos (by omega), if_pos (by omega), rd_get l i hlt, List.drop_eq_getElem_cons hlt, List.any_cons, show wrap64 ((i : Int) + 1) = ((i + 1 : Nat) : Int) by unfold wrap64; omega, add_r0 l hl n m (i + 1) (by omega)]
    unfold belowB
    by_cases hc : l[i] < 0
    · rw [if_pos hc, decide_eq_true hc, Bool.true_or, if_pos rfl]
    · rw [if_neg hc, decide_eq_false hc, Bool.false_or]
/-- what Add answers -/
def sumS (l : List Int) : Int × Int := if l.any belowB = true then (0, 2) else addS 0 l
theorem Add_f (l : List Int) (hl : l.length ≤ 30) (k : Nat) (hk : 40 ≤ k) : quant_Add.f k l = some (sumS l) := by
  unfold quant_Add.f sumS
  rw [chk_f, Option.bind_some]
  unfold checkedI
  by_cases h1 : l.any belowB = true
  · rw [if_pos h1, if_neg (by decide), if_pos h1]
  rw [if_neg h1, if_neg h1]
  by_cases h2 : l.any aboveB = true
  · rw [if_pos h2, if_neg (by decide), add_over l 0]
    obtain ⟨x, hx, hx2⟩ := List.any_eq_true.1 h2
    unfold aboveB at hx2
    exact ⟨x, hx, by simpa using hx2⟩
  rw [if_neg h2, if_pos rfl]
  have h3 : ∀ x ∈ l, 0 ≤ x ∧ x ≤ 1099511627776 := by
    intro x hx
    constructor
    · rw [Bool.not_eq_true, List.any_eq_false] at h1
      have := h1 x hx
      unfold belowB at this
      simp only [decide_eq_true_eq] at this
      omega
    · rw [Bool.not_eq_true, List.any_eq_false] at h2
      have := h2 x hx
      unfold aboveB at this
      simp only [decide_eq_true_eq] at this
      show x ≤ 1099511627776
      omega
  have := add_q l (by omega) h3 l.length (k - (l.length + 1)) 0 0 (Nat.zero_add _) (Int.le_refl 0) (by decide)
  rw [show l.length + 1 + (k - (l.length + 1)) = k by omega] at this
  exact this
theorem refAdd_f (l : List Int) (hl : l.length ≤ 30) (hw : ∀ x ∈ l, x ≤ 9223372036854775807) (k : Nat) (hk : 80 ≤ k) : drayageref01_Add.f k l = some (sumS l) := by
  unfold drayageref01_Add.f sumS
  have h0 := add_r0 l (by omega) l.length (k - (l.length + 1)) 0 (Nat.zero_add _)
  rw [show l.length + 1 + (k - (l.length + 1)) = k by omega] at h0
  have h0' : drayageref01_Add.l0 k l 0 = _ := h0
  rw [h0', List.drop_zero]
  by_cases h1 : l.any belowB = true
  · rw [if_pos h1, if_pos h1]
  rw [if_neg h1, if_neg h1]
  have h3 : ∀ x ∈ l, 0 ≤ x ∧ x ≤ 9223372036854775807 := by
    intro x hx
    refine ⟨?_, hw x hx⟩
    rw [Bool.not_eq_true, List.any_eq_false] at h1
    have := h1 x hx
    unfold belowB at this
    simp only [decide_eq_true_eq] at this
    omega
  have := add_r l (by omega) h3 l.length (k - (l.length + 1) - (l.length + 1)) 0 0 (Nat.zero_add _) (Int.le_refl 0) (by decide)
  rw [show l.length + 1 + (k - (l.length + 1) - (l.length + 1)) = k - (l.length + 1) by omega] at this
  exact this
end Go.Proofs.YtceepgleeelohaaDoor.P
