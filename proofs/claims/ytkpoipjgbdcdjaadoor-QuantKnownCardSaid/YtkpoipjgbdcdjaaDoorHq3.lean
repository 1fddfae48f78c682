import Derived.Test.YtkpoipjgbdcdjaaDoorHq2
import Derived.Test.YtkpoipjgbdcdjaaDoorPf12
import Derived.Test.YtkpoipjgbdcdjaaDoorPf14
namespace Go.Proofs.YtkpoipjgbdcdjaaDoor.P
set_option linter.unusedVariables false
set_option linter.unusedSimpArgs false
open Go.RowKit Go.Proofs.YtkpoipjgbdcdjaaDoorW.PrintWords Go.Proofs.YtkpoipjgbdcdjaaDoorW.PrintLast Go.Proofs.YtkpoipjgbdcdjaaDoorW.PrintMore

theorem digit_f (t : ByteArray) (p : Nat) : drayageref01_digit.f t (p : Int) = some (dgB t p) := by
 unfold drayageref01_digit.f dgB
 by_cases h : p < t.size
 ·rw [if_pos (by omega), if_pos (by omega), decide_eq_true h, Bool.true_and]
  by_cases h2 : bt t (p : Int) ≥ 48
  ·rw [if_pos h2, decide_eq_true (show 48 ≤ gb t p from h2), Bool.true_and]
  ·rw [if_neg h2, decide_eq_false (show ¬ 48 ≤ gb t p from h2), Bool.false_and]
 ·rw [if_neg (by omega), decide_eq_false h]
  rfl
theorem mn_min (a b : Int) : mn a b = min a b := by unfold mn; split <;> omega
abbrev up (x : Int × Nat × Int) : Int × Int × Int := (x.1, (x.2.1 : Int), x.2.2)
theorem w_nat (p : Nat) (h : p ≤ 2000000) : wrap64 ((p : Int) + 1) = ((p + 1 : Nat) : Int) := by unfold wrap64; omega
theorem ref_whole (t : ByteArray) (ht : t.size ≤ 1000000) : ∀ (j : Nat) (n : Int) (p : Nat), t.size < j + p → p ≤ t.size → 0 ≤ n → n ≤ huge → drayageref01_whole.l0 (j + 1) t n (p : Int) = some (up (wlC t j n p))
 | 0, n, p, h, hp, _, _ => by omega
 | j + 1, n, p, h, hp, h0, h1 => by
  have h1' : n ≤ 1125899906842624 := h1
  have hg := gb_rg t p
  rw [drayageref01_whole.l0, digit_f, Option.bind_some]
  unfold wlC
  by_cases hd : dgB t p = true
  ·obtain ⟨d1, d2, d3⟩ := dg_iff.1 hd
   have ee : mn (wrap64 ((wrap64 (10 * n)) + (((bt t (p : Int)) - 48) % 256))) 1125899906842624 = min (10 * n + (gb t p - 48)) huge := by
    rw [mn_min, show wrap64 (10 * n) = 10 * n by unfold wrap64; omega, show (bt t (p : Int) - 48) % 256 = gb t p - 48 by show (gb t p - 48) % 256 = _; omega, show wrap64 (10 * n + (gb t p - 48)) = 10 * n + (gb t p - 48) by unfold wrap64; omega]
   have next := ref_whole t ht j (min (10 * n + (gb t p - 48)) huge) (p + 1) (by omega) (by omega) (by show 0 ≤ min _ (1125899906842624 : Int); omega) (by show min _ (1125899906842624 : Int) ≤ 1125899906842624; omega)
   rw [hd, if_pos rfl, if_pos rfl, ee, w_nat p (by omega)]
   by_cases hp1 : p = 1
   ·subst hp1
    rw [if_pos (show ((1 : Nat) : Int) = 1 from rfl), if_pos (show (0 : Int) < (t.size : Int) by omega)]
    by_cases hz : gb t 0 = 48
    ·rw [if_pos (show bt t 0 = 48 from hz), if_pos (show 1 = 1 ∧ gb t 0 = 48 from ⟨rfl, hz⟩)]
    ·rw [if_neg (show ¬ bt t 0 = 48 from hz), if_neg (show ¬ (1 = 1 ∧ gb t 0 = 48) from fun h => hz h.2), if_pos (show (0 : Int) ≤ ((1 : Nat) : Int) by omega), if_pos (show ((1 : Nat) : Int) < (t.size : Int) by omega)]
     exact next
   ·rw [if_neg (show ¬ (p : Int) = 1 by omega), if_neg (show ¬ (p = 1 ∧ gb t 0 = 48) from fun h => hp1 h.1), if_pos (show (0 : Int) ≤ (p : Int) by omega), if_pos (show (p : Int) < (t.size : Int) by omega)]
    exact next
  ·rw [if_neg hd, if_neg hd]
   by_cases hq : p = 0
   ·subst hq
    rw [if_pos (show ((0 : Nat) : Int) = 0 from rfl), if_pos (show (0 : Nat) = 0 from rfl), drayageref01_whole.j1]
    by_cases hz : t.size = 0
    ·rw [if_pos hz, if_pos (show ((t.size : Int) == 0) = true by rw [hz]; rfl)]
     rfl
    ·rw [if_neg hz, if_neg (show ¬ ((t.size : Int) == 0) = true by rw [beq_iff_eq]; omega), if_pos (show ((0 : Nat) : Int) = 0 from rfl)]
     rfl
   ·rw [if_neg (show ¬ (p : Int) = 0 by omega), if_neg hq, drayageref01_whole.j1, if_neg (show ¬ false = true by decide), if_neg (show ¬ (p : Int) = 0 by omega)]
theorem whole_f (t : ByteArray) (ht : t.size ≤ 1000000) (k : Nat) (hk : t.size + 3 ≤ k) : drayageref01_whole.f k t = some (up (wlC t (k - 1) 0 0)) := by
 unfold drayageref01_whole.f
 have := ref_whole t ht (k - 1) 0 0 (by omega) (Nat.zero_le _) (Int.le_refl 0) (by decide)
 rw [show k - 1 + 1 = k by omega] at this
 exact this
theorem wl_fuel (t : ByteArray) : ∀ (k k' : Nat) (n : Int) (p : Nat), t.size < k + p → t.size < k' + p → p ≤ t.size → wlC t k n p = wlC t k' n p
 | 0, _, _, _, h, _, hp => by omega
 | _ + 1, 0, _, _, _, h, hp => by omega
 | k + 1, k' + 1, n, p, h, h', hp => by
  unfold wlC
  by_cases hd : dgB t p = true
  ·have := (dg_iff.1 hd).1
   rw [if_pos hd, if_pos hd, wl_fuel t k k' _ (p + 1) (by omega) (by omega) (by omega)]
  ·rw [if_neg hd, if_neg hd]
theorem ten_succ (d : Nat) : ten (d + 1) = 10 * ten d := by
 unfold ten
 rw [Nat.pow_succ]
 omega
theorem ten_pos (d : Nat) : 1 ≤ ten d := by
 have h : 0 < 10 ^ d := Nat.pow_pos (by decide)
 have h2 : (1 : Int) ≤ ((10 ^ d : Nat) : Int) := by omega
 exact h2
theorem ref_l1 (x1 many : Int) (hm : many ≤ 100) (r : Nat) : ∀ (d : Nat) (c m : Int), c + d = many → 0 ≤ c → 0 ≤ m → m * ten d ≤ 1000000000 → drayageref01_point.l1 (d + 1 + r) x1 many m c = some (m * ten d, x1, 0)
 | 0, c, m, h, _, h0, _ => by
  rw [show 0 + 1 + r = r + 1 by omega, drayageref01_point.l1, if_neg (by omega), show m * ten 0 = m from Int.mul_one m]
 | d + 1, c, m, h, hc, h0, h1 => by
  have ht := ten_pos d
  rw [ten_succ] at h1 ⊢
  have e : m * (10 * ten d) = 10 * m * ten d := by rw [← Int.mul_assoc, Int.mul_comm m 10]
  have hm1 : m ≤ 100000000 := by
   have h2 : 10 * m * 1 ≤ 10 * m * ten d := Int.mul_le_mul_of_nonneg_left ht (by omega)
   omega
  rw [show d + 1 + 1 + r = d + 1 + r + 1 by omega, drayageref01_point.l1, if_pos (by omega), show wrap64 (10 * m) = 10 * m by unfold wrap64; omega, show wrap64 (c + 1) = c + 1 by unfold wrap64; omega, ref_l1 x1 many hm r d (c + 1) (10 * m) (by omega) (by omega) (by omega) (by omega), e]
def finC (t : ByteArray) (many : Nat) (x : Int × Nat × Nat) : Int × Nat × Int := if x.2.2 = 0 then (0, x.2.1, if x.2.1 = t.size then 3 else 4) else (x.1 * ten (many - x.2.2), x.2.1, 0)
theorem ref_pl (t : ByteArray) (ht : t.size ≤ 1000000) (many : Nat) (hm : many ≤ 3) : ∀ (j : Nat) (m : Int) (p c : Nat), t.size < j + p → p ≤ t.size → c ≤ many → c ≤ p → 0 ≤ m → m < ten c → drayageref01_point.l0 (j + 9) t (p : Int) (many : Int) ((p - c : Nat) : Int) m = some (up (finC t many (plC t many j m p c)))
 | 0, m, p, c, h, hp, _, _, _, _ => by omega
 | j + 1, m, p, c, h, hp, hc, hcp, h0, h1 => by
  have hg := gb_rg t p
  have ht1 := ten_bd c (by omega)
  have stop : ¬ (dgB t p = true ∧ c < many) → drayageref01_point.j2 (j + 9) t (p : Int) (many : Int) ((p - c : Nat) : Int) m = some (up (finC t many (m, p, c))) := by
   intro _
   rw [show j + 9 = j + 8 + 1 by omega, drayageref01_point.j2]
   unfold finC
   dsimp only
   by_cases hc0 : c = 0
   ·subst hc0
    rw [if_pos (by omega), if_pos rfl, show j + 8 = j + 7 + 1 by omega, drayageref01_point.j3]
    by_cases he : p = t.size
    ·rw [if_pos (by rw [beq_iff_eq]; omega), if_pos he]
    ·rw [if_neg (by rw [beq_iff_eq]; omega), if_pos (by omega), if_neg he]
   ·rw [if_neg (by omega), if_neg hc0, show j + 8 = j + 7 + 1 by omega, drayageref01_point.j3, if_neg (by decide), if_neg (by omega), show wrap64 ((p : Int) - ((p - c : Nat) : Int)) = (c : Int) by unfold wrap64; omega]
    have ht2 := ten_bd (many - c) (by omega)
    have h2 : m * ten (many - c) ≤ 1000 * 1000 := Int.mul_le_mul (by omega) ht2.2 (by omega) (by decide)
    have := ref_l1 (p : Int) (many : Int) (by omega) (j + 7 - (many - c + 1)) (many - c) (c : Int) m (by omega) (by omega) h0 (by omega)
    rw [show many - c + 1 + (j + 7 - (many - c + 1)) = j + 7 by omega] at this
    rw [this]
  rw [show j + 1 + 9 = j + 9 + 1 by omega, drayageref01_point.l0, digit_f, Option.bind_some]
  unfold plC
  by_cases hd : dgB t p = true
  ·obtain ⟨d1, d2, d3⟩ := dg_iff.1 hd
   rw [hd, if_pos rfl, show wrap64 (((p - c : Nat) : Int) + (many : Int)) = (p : Int) - c + many by unfold wrap64; omega]
   by_cases hlt : c < many
   ·rw [if_pos (by omega), if_pos (by omega), if_pos (by omega), if_pos ⟨rfl, hlt⟩, w_nat p (by omega),
     show wrap64 ((wrap64 (10 * m)) + (((bt t (p : Int)) - 48) % 256)) = 10 * m + (gb t p - 48) by
      have e1 : (bt t (p : Int) - 48) % 256 = gb t p - 48 := by show (gb t p - 48) % 256 = _; omega
      rw [e1]; unfold wrap64; omega]
    have := ref_pl t ht many hm j (10 * m + (gb t p - 48)) (p + 1) (c + 1) (by omega) (by omega) (by omega) (by omega) (by omega) (by rw [ten_succ]; omega)
    rw [show p + 1 - (c + 1) = p - c by omega] at this
    exact this
   ·rw [if_neg (by omega), if_neg (fun h => hlt h.2)]
    exact stop (fun h => hlt h.2)
  ·rw [if_neg hd, if_neg (fun h => hd h.1)]
   exact stop (fun h => hd h.1)
def ptC (t : ByteArray) (many p : Nat) : Int × Nat × Int := if p < t.size ∧ gb t p = 46 then finC t many (plC t many (t.size + 1) 0 (p + 1) 0) else (0, p, 0)
theorem point_f (t : ByteArray) (ht : t.size ≤ 1000000) (many : Nat) (hm : many ≤ 3) (p : Nat) (hp : p ≤ t.size) (k : Nat) (hk : t.size + 20 ≤ k) : drayageref01_point.f k t (p : Int) (many : Int) = some (up (ptC t many p)) := by
 unfold drayageref01_point.f ptC
 obtain ⟨k, rfl⟩ : ∃ j, k = j + 1 := ⟨k - 1, by omega⟩
 by_cases h : p < t.size
 ·rw [if_neg (by omega), if_pos (by omega), if_pos (by omega), drayageref01_point.j0]
  by_cases h2 : gb t p = 46
  ·rw [if_neg (by rw [show bt t (p : Int) = 46 from h2]; decide), if_pos ⟨h, h2⟩, w_nat p (by omega)]
   have := ref_pl t ht many hm (k - 9) 0 (p + 1) 0 (by omega) (by omega) (Nat.zero_le _) (Nat.zero_le _) (Int.le_refl 0) (by decide)
   rw [show k - 9 + 9 = k by omega, Nat.sub_zero] at this
   rw [this, pl_fuel t many (k - 9) (t.size + 1) 0 (p + 1) 0 (by omega) (by omega) (by omega)]
  ·rw [if_pos (by rw [bne_iff_ne]; exact h2), if_neg (fun h => h2 h.2)]
 ·rw [if_pos (by omega), drayageref01_point.j0, if_pos rfl, if_neg (fun h' => h h'.1)]
theorem ref_j6 (t : ByteArray) (p : Nat) (hp : p ≤ 1000000) (s : Int) (fl : Bool) (k : Nat) : drayageref01_suffix.j6 (k + 1) t (p : Int) s fl = some (up (if fl = true then (if p + 1 < t.size then (0, p + 1, 4) else (s, p + 1, 0)) else if p < t.size then (0, p, 4) else (s, p, 0))) := by
 rw [drayageref01_suffix.j6, w_nat p (by omega)]
 cases fl with
 | true =>
  show (if ((p + 1 : Nat) : Int) < (t.size : Int) then some (0, ((p + 1 : Nat) : Int), 4) else some (s, ((p + 1 : Nat) : Int), 0)) = some (up (if p + 1 < t.size then (0, p + 1, 4) else (s, p + 1, 0)))
  by_cases h : p + 1 < t.size
  ·rw [if_pos h, if_pos (show ((p + 1 : Nat) : Int) < (t.size : Int) by omega)]
  ·rw [if_neg h, if_neg (show ¬ ((p + 1 : Nat) : Int) < (t.size : Int) by omega)]
 | false =>
  show (if (p : Int) < (t.size : Int) then some (0, (p : Int), 4) else some (s, (p : Int), 0)) = some (up (if p < t.size then (0, p, 4) else (s, p, 0)))
  by_cases h : p < t.size
  ·rw [if_pos h, if_pos (show (p : Int) < (t.size : Int) by omega)]
  ·rw [if_neg h, if_neg (show ¬ (p : Int) < (t.size : Int) by omega)]
theorem ref_j5 (t : ByteArray) (p : Nat) (hp : p < 1000000) (s c : Int) (b : Bool) (k : Nat) : drayageref01_suffix.j5 (k + 2) t (p : Int) s c b = some (up (if (b && (c != 109 && c != 107)) = true then (if p + 2 < t.size then (0, p + 2, 4) else (s, p + 2, 0)) else if p + 1 < t.size then (0, p + 1, 4) else (s, p + 1, 0))) := by
 rw [drayageref01_suffix.j5, w_nat p (by omega)]
 cases b with
 | false => rw [if_neg (show ¬ false = true by decide), ref_j6 t (p + 1) (by omega) s false k, Bool.false_and]
 | true =>
  rw [if_pos (show true = true from rfl), Bool.true_and]
  by_cases h : c = 109
  ·rw [if_pos h, ref_j6 t (p + 1) (by omega) s false k, h, show ((109 : Int) != 109 && (109 : Int) != 107) = false from rfl]
  ·have e : (c != 109) = true := bne_iff_ne.2 h
   rw [if_neg h, e, Bool.true_and, ref_j6 t (p + 1) (by omega) s (c != 107) k]
theorem suffix_f (t : ByteArray) (ht : t.size ≤ 1000000) (p : Nat) (hp : p ≤ t.size) (k : Nat) : drayageref01_suffix.f (k + 7) t (p : Int) = some (up (sfC t p)) := by
 unfold drayageref01_suffix.f
 by_cases h : p < t.size
 ·rw [if_neg (by omega), if_pos (by omega), if_pos (by omega), w_nat p (by omega)]
  have e0 : (if ((p + 1 : Nat) : Int) < (t.size : Int) then (if (0 : Int) ≤ ((p + 1 : Nat) : Int) then (drayageref01_suffix.j0 (k + 7) t (p : Int) (bt t (p : Int)) ((bt t ((p + 1 : Nat) : Int)) == 105)) else none) else drayageref01_suffix.j0 (k + 7) t (p : Int) (bt t (p : Int)) false) = drayageref01_suffix.j0 (k + 7) t (p : Int) (gb t p) (decide (p + 1 < t.size ∧ gb t (p + 1) = 105)) := by
   by_cases h1 : p + 1 < t.size
   ·rw [if_pos (by omega), if_pos (by omega)]
    congr 1
    by_cases h2 : gb t (p + 1) = 105
    ·rw [decide_eq_true ⟨h1, h2⟩, beq_iff_eq]; exact h2
    ·rw [decide_eq_false (fun h => h2 h.2), beq_eq_false_iff_ne]; exact h2
   ·rw [if_neg (by omega), decide_eq_false (fun h => h1 h.1)]
  rw [e0]
  obtain ⟨b, hb⟩ : ∃ b, decide (p + 1 < t.size ∧ gb t (p + 1) = 105) = b := ⟨_, rfl⟩
  have hb1 : ∀ {α : Type} (x y : α), (if p + 1 < t.size ∧ gb t (p + 1) = 105 then x else y) = if b = true then x else y := by
   intro α x y
   rw [← hb]
   by_cases h2 : p + 1 < t.size ∧ gb t (p + 1) = 105
   ·rw [if_pos h2, if_pos (decide_eq_true h2)]
   ·rw [if_neg h2, if_neg (by rw [decide_eq_false h2]; decide)]
  have hb2 : b = true → p + 1 < t.size := fun h2 => by rw [← hb] at h2; exact (of_decide_eq_true h2).1
  rw [hb, drayageref01_suffix.j0]
  by_cases c1 : gb t p = 109
  ·rw [if_pos c1, show k + 6 = k + 4 + 2 by omega, ref_j5 t p (by omega), sf109 h c1, c1]
   cases b <;> rfl
  rw [if_neg c1]
  by_cases c2 : gb t p = 107
  ·rw [if_pos c2, show k + 6 = k + 4 + 2 by omega, ref_j5 t p (by omega), sf107 h c2, c2]
   cases b <;> rfl
  rw [if_neg c2]
  have j1 : ∀ x, (x = true → gb t p = 75 ∧ b = true) → (gb t p = 75 → x = b) → drayageref01_suffix.j1 (k + 6) t (p : Int) (gb t p) b x = some (up (sfC t p)) := by
   intro x hx hx2
   rw [drayageref01_suffix.j1]
   by_cases hxt : x = true
   ·obtain ⟨c3, hbt⟩ := hx hxt
    rw [if_pos hxt, show k + 5 = k + 3 + 2 by omega, ref_j5 t p (by omega), sf75 h c3, hb1, hbt, c3]
    rfl
   rw [if_neg hxt]
   by_cases c3 : gb t p = 75
   ·have hbf : b = false := by have := hx2 c3; rw [← this]; simpa using hxt
    rw [if_pos c3, drayageref01_suffix.j2, w_nat p (by omega), sf75 h c3, hb1, hbf, if_neg (show ¬ false = true by decide)]
    by_cases h1 : p + 1 < t.size
    ·rw [if_pos h1, if_neg (show ¬ (((p + 1 : Nat) : Int) == (t.size : Int)) = true by rw [beq_iff_eq]; omega), if_pos c3]
    ·rw [if_neg h1, if_pos (show (((p + 1 : Nat) : Int) == (t.size : Int)) = true by rw [beq_iff_eq]; omega)]
   rw [if_neg c3, drayageref01_suffix.j2, if_neg (show ¬ false = true by decide), if_neg c3]
   have j4 : ∀ y, (y = true → gb t p = 71 ∧ b = true) → (gb t p = 71 → y = b) → gb t p ≠ 77 → drayageref01_suffix.j4 (k + 3) t (p : Int) (gb t p) b y = some (up (sfC t p)) := by
    intro y hy hy2 c4
    rw [drayageref01_suffix.j4]
    by_cases hyt : y = true
    ·obtain ⟨c5, hbt⟩ := hy hyt
     rw [if_pos hyt, show k + 2 = k + 0 + 2 by omega, ref_j5 t p (by omega), sf71 h c5, hb1, hbt, c5]
     rfl
    rw [if_neg hyt]
    by_cases c5 : gb t p = 71
    ·have hbf : b = false := by have := hy2 c5; rw [← this]; simpa using hyt
     rw [if_pos c5, show k + 2 = k + 0 + 2 by omega, ref_j5 t p (by omega), sf71 h c5, hb1, hbf]
     rfl
    ·rw [if_neg c5]
     unfold sfC
     rw [if_pos h, if_neg c1, if_neg c2, if_neg c3, if_neg c4, if_neg c5]
   have j3 : ∀ y, (y = true → gb t p = 77 ∧ b = true) → (gb t p = 77 → y = b) → drayageref01_suffix.j3 (k + 4) t (p : Int) (gb t p) b y = some (up (sfC t p)) := by
    intro y hy hy2
    rw [drayageref01_suffix.j3]
    by_cases hyt : y = true
    ·obtain ⟨c4, hbt⟩ := hy hyt
     rw [if_pos hyt, show k + 3 = k + 1 + 2 by omega, ref_j5 t p (by omega), sf77 h c4, hb1, hbt, c4]
     rfl
    rw [if_neg hyt]
    by_cases c4 : gb t p = 77
    ·have hbf : b = false := by have := hy2 c4; rw [← this]; simpa using hyt
     rw [if_pos c4, show k + 3 = k + 1 + 2 by omega, ref_j5 t p (by omega), sf77 h c4, hb1, hbf]
     rfl
    ·rw [if_neg c4]
     by_cases c5 : gb t p = 71
     ·rw [if_pos c5]
      exact j4 b (fun h => ⟨c5, h⟩) (fun _ => rfl) c4
     ·rw [if_neg c5]
      exact j4 false (fun h => by cases h) (fun h => absurd h c5) c4
   by_cases c4 : gb t p = 77
   ·rw [if_pos c4]
    exact j3 b (fun h => ⟨c4, h⟩) (fun _ => rfl)
   ·rw [if_neg c4]
    exact j3 false (fun h => by cases h) (fun h => absurd h c4)
  by_cases c3 : gb t p = 75
  ·rw [if_pos c3]
   exact j1 b (fun h => ⟨c3, h⟩) (fun _ => rfl)
  ·rw [if_neg c3]
   exact j1 false (fun h => by cases h) (fun h => absurd h c3)
 ·rw [if_pos (by omega)]
  unfold sfC
  rw [if_neg h]
end Go.Proofs.YtkpoipjgbdcdjaaDoor.P
