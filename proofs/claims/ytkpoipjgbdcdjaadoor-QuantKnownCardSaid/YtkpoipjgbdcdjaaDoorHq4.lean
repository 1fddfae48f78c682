import Derived.Test.YtkpoipjgbdcdjaaDoorHq3
import Derived.Test.YtkpoipjgbdcdjaaDoorHparse
namespace Go.Proofs.YtkpoipjgbdcdjaaDoor.P
set_option linter.unusedVariables false
set_option linter.unusedSimpArgs false
open Go.RowKit Go.Proofs.YtkpoipjgbdcdjaaDoorW.PrintWords Go.Proofs.YtkpoipjgbdcdjaaDoorW.PrintLast Go.Proofs.YtkpoipjgbdcdjaaDoorW.PrintMore

theorem parC_bad {t : ByteArray} {many : Nat} {sf : Nat → Int × Nat × Int} (h : (wlC t (t.size + 1) 0 0).2.2 ≠ 0) : parC t many sf = ⟨0, 0, 0, (wlC t (t.size + 1) 0 0).2.1, (wlC t (t.size + 1) 0 0).2.2⟩ := by
 unfold parC
 rw [if_pos h]
theorem parC_pt {t : ByteArray} {many : Nat} {sf : Nat → Int × Nat × Int} (h : (wlC t (t.size + 1) 0 0).2.2 = 0) : parC t many sf = if (ptC t many (wlC t (t.size + 1) 0 0).2.1).2.2 = 0 then tailC (wlC t (t.size + 1) 0 0).1 (ptC t many (wlC t (t.size + 1) 0 0).2.1).1 (sf (ptC t many (wlC t (t.size + 1) 0 0).2.1).2.1) else ⟨0, 0, 0, (ptC t many (wlC t (t.size + 1) 0 0).2.1).2.1, (ptC t many (wlC t (t.size + 1) 0 0).2.1).2.2⟩ := by
 unfold parC ptC
 rw [if_neg (fun h' => h' h)]
 by_cases h46 : (wlC t (t.size + 1) 0 0).2.1 < t.size ∧ gb t (wlC t (t.size + 1) 0 0).2.1 = 46
 ·rw [if_pos h46, if_pos h46]
  unfold finC
  by_cases hc : (plC t many (t.size + 1) 0 ((wlC t (t.size + 1) 0 0).2.1 + 1) 0).2.2 = 0
  ·rw [if_pos hc, if_pos hc]
   dsimp only
   by_cases he : (plC t many (t.size + 1) 0 ((wlC t (t.size + 1) 0 0).2.1 + 1) 0).2.1 = t.size
   ·rw [if_pos he, if_neg (show ¬ (3 : Int) = 0 by decide)]
   ·rw [if_neg he, if_neg (show ¬ (4 : Int) = 0 by decide)]
  ·rw [if_neg hc, if_neg hc]
   rfl
 ·rw [if_neg h46, if_neg h46]
  rfl
theorem pl_le (t : ByteArray) (many : Nat) : ∀ (k : Nat) (m : Int) (p c : Nat), p ≤ t.size → (plC t many k m p c).2.1 ≤ t.size
 | 0, _, _, _, hp => hp
 | k + 1, m, p, c, hp => by
  unfold plC
  by_cases hd : dgB t p = true ∧ c < many
  ·rw [if_pos hd]
   have := (dg_iff.1 hd.1).1
   exact pl_le t many k _ _ _ (by omega)
  ·rw [if_neg hd]
   exact hp
theorem pt_le (t : ByteArray) (many p : Nat) (hp : p ≤ t.size) : (ptC t many p).2.1 ≤ t.size := by
 unfold ptC
 by_cases h : p < t.size ∧ gb t p = 46
 ·rw [if_pos h]
  have := pl_le t many (t.size + 1) 0 (p + 1) 0 (by omega)
  unfold finC
  split
  ·exact this
  ·exact this
 ·rw [if_neg h]
  exact hp
theorem ref_head (t : ByteArray) (ht : t.size ≤ 1000000) (k : Nat) (hk : t.size + 30 ≤ k) : drayageref01_whole.f k t = some (up (wlC t (t.size + 1) 0 0)) := by
 rw [whole_f t ht k (by omega), wl_fuel t (k - 1) (t.size + 1) 0 0 (by omega) (by omega) (Nat.zero_le _)]
theorem wl_le (t : ByteArray) : (wlC t (t.size + 1) 0 0).2.1 ≤ t.size := (wl_bd t (t.size + 1) 0 0 (Int.le_refl 0) (by decide) (Nat.zero_le _)).2.2
theorem refParse_parts (t : ByteArray) (ht : t.size ≤ 1000000) (milli : Bool) (k : Nat) (hk : t.size + 30 ≤ k) :
  drayageref01_Parse.f k t milli = if (parC t 3 (sfC t)).e = 0 then drayageref01_Parse.j0 k (parC t 3 (sfC t)).n (parC t 3 (sfC t)).f (parC t 3 (sfC t)).s (unitI milli) else some (0, ((parC t 3 (sfC t)).at_ : Int), (parC t 3 (sfC t)).e) := by
 unfold drayageref01_Parse.f
 rw [ref_head t ht k hk, Option.bind_some]
 dsimp only [up]
 by_cases he : (wlC t (t.size + 1) 0 0).2.2 = 0
 ·have hp := point_f t ht 3 (by decide) (wlC t (t.size + 1) 0 0).2.1 (wl_le t) k (by omega)
  rw [show ((3 : Nat) : Int) = 3 from rfl] at hp
  rw [if_pos he, hp, Option.bind_some, parC_pt he]
  dsimp only [up]
  have hle := pt_le t 3 (wlC t (t.size + 1) 0 0).2.1 (wl_le t)
  by_cases h2 : (ptC t 3 (wlC t (t.size + 1) 0 0).2.1).2.2 = 0
  ·rw [if_pos h2, if_pos h2]
   have hs := suffix_f t ht (ptC t 3 (wlC t (t.size + 1) 0 0).2.1).2.1 hle (k - 7)
   rw [show k - 7 + 7 = k by omega] at hs
   rw [hs, Option.bind_some]
   dsimp only [up]
   unfold tailC
   by_cases h3 : (sfC t (ptC t 3 (wlC t (t.size + 1) 0 0).2.1).2.1).2.2 = 0
   ·rw [if_pos h3, if_pos h3]
    cases milli <;> rfl
   ·rw [if_neg h3, if_neg h3]
    exact (if_neg h3).symm
  ·rw [if_neg h2, if_neg h2]
   exact (if_neg h2).symm
 ·rw [if_neg he, parC_bad he]
  exact (if_neg he).symm
theorem ref_over (k : Nat) (n f s : Int) (milli : Bool) (hn0 : 0 ≤ n) (hn1 : n ≤ 1125899906842624) (hf0 : 0 ≤ f) (hf1 : f ≤ 999000) (hs0 : 0 ≤ s) (hs1 : s ≤ 1073741824000) :
  drayageref01_Parse.j0 (k + 2) n f s (unitI milli) = some (overS ((1000 * n + f) * s) (unitI milli)) := by
 have hw : IntKind.u64.wrap (wrap64 ((wrap64 (1000 * n)) + f)) = 1000 * n + f := by
  rw [show wrap64 (1000 * n) = 1000 * n by unfold wrap64; omega, show wrap64 (1000 * n + f) = 1000 * n + f by unfold wrap64; omega, w64]
  omega
 have hs : IntKind.u64.wrap s = s := by rw [w64]; omega
 have hu : unitI milli = 1000 ∨ unitI milli = 1000000 := by cases milli <;> decide
 have hm0 : 0 ≤ (1000 * n + f) * s := Int.mul_nonneg (by omega) hs0
 rw [drayageref01_Parse.j0, hw, hs]
 have hmul : bits_Mul64.f (1000 * n + f) s = some ((1000 * n + f) * s / 18446744073709551616, (1000 * n + f) * s % 18446744073709551616) := by
  unfold bits_Mul64.f
  rw [if_pos ⟨by omega, by omega, hs0, by omega⟩]
 rw [hmul, Option.bind_some]
 dsimp only
 generalize (1000 * n + f) * s = a at hm0
 have hh0 : 0 ≤ a / 18446744073709551616 := by omega
 have hl0 : 0 ≤ a % 18446744073709551616 := by omega
 have hl1 : a % 18446744073709551616 < 18446744073709551616 := by omega
 unfold overS
 by_cases h1 : unitI milli ≤ a / 18446744073709551616
 ·rw [if_pos h1, if_pos (show a / 18446744073709551616 ≥ unitI milli from h1)]
 ·have hdiv : bits_Div64.f (a / 18446744073709551616) (a % 18446744073709551616) (unitI milli) = some (divP (a / 18446744073709551616) (a % 18446744073709551616) (unitI milli)) := by
   unfold bits_Div64.f
   rw [if_pos ⟨hu, hh0, by omega, hl0, hl1⟩]
  have hnn := divP_nn (a / 18446744073709551616) (a % 18446744073709551616) (unitI milli) hu hh0 (by omega) hl0 hl1
  rw [if_neg h1, if_neg (show ¬ a / 18446744073709551616 ≥ unitI milli from h1), hdiv, Option.bind_some]
  generalize divP (a / 18446744073709551616) (a % 18446744073709551616) (unitI milli) = qr at hnn
  obtain ⟨q, r⟩ := qr
  dsimp only at hnn ⊢
  by_cases h2 : q > 1099511627776
  ·rw [if_pos h2, drayageref01_Parse.j1, if_pos (show true = true from rfl), if_pos (Or.inl h2)]
  rw [if_neg h2]
  have hq : wrap64 q = q := by unfold wrap64; omega
  by_cases h3 : q = 1099511627776
  ·rw [if_pos h3, drayageref01_Parse.j1, hq]
   by_cases h4 : r > 0
   ·rw [if_pos (decide_eq_true h4), if_pos (Or.inr ⟨h3, h4⟩)]
   ·rw [if_neg (show ¬ decide (r > 0) = true by rw [decide_eq_false h4]; decide), if_neg h4, if_neg (show ¬ (1099511627776 < q ∨ q = 1099511627776 ∧ 0 < r) by omega), if_neg (show ¬ 0 < r from h4)]
  ·rw [if_neg h3, drayageref01_Parse.j1, if_neg (show ¬ false = true by decide), hq, if_neg (show ¬ (1099511627776 < q ∨ q = 1099511627776 ∧ 0 < r) by omega)]
   by_cases h4 : 0 < r
   ·rw [if_pos h4, if_pos (show r > 0 from h4)]
   ·rw [if_neg h4, if_neg (show ¬ r > 0 from h4)]
theorem refParse_f (t : ByteArray) (ht : t.size ≤ 1000000) (milli : Bool) (k : Nat) (hk : t.size + 40 ≤ k) : drayageref01_Parse.f k t milli = some (parseS t milli) := by
 rw [refParse_parts t ht milli k (by omega)]
 obtain ⟨h1, h2, h3⟩ := read_par asc_beg (sp_parse t 3) (by decide)
 have hb := read_bd begB endB t 3 (by decide) (by decide)
 rw [show ((3 : Nat) : Int) = 3 from rfl] at h1 h2 h3
 unfold parseS
 by_cases he : (parC t 3 (sfC t)).e = 0
 ·obtain ⟨e1, e2, e3⟩ := h3 he
  rw [if_pos he, if_neg (show ¬ (readS begB endB t 3).2.2 ≠ 0 from fun h => h (h1.trans he))]
  have e3' : (sufV (readS begB endB t 3).1.sx.data.toList).getD 0 = (parC t 3 (sfC t)).s := e3
  have hs := suf_bd (readS begB endB t 3).1.sx.data.toList
  rw [e3'] at hs
  rw [e1, e2] at hb
  rw [e1, e2, e3', show k = k - 2 + 2 by omega]
  exact ref_over (k - 2) _ _ _ milli hb.1 hb.2.1 hb.2.2.1 hb.2.2.2.1 hs.1 hs.2
 ·rw [if_neg he, if_pos (show (readS begB endB t 3).2.2 ≠ 0 from fun h => he (h1.symm.trans h)), h1, h2]
theorem pct_tail (t : ByteArray) (ht : t.size ≤ 1000000) (p : Nat) (hle : p ≤ t.size) (n f : Int) :
  (if (p : Int) ≥ (t.size : Int) then (some ((0 : Int), (p : Int), (3 : Int))) else (if 0 ≤ (p : Int) then (if (p : Int) < (t.size : Int) then (if (bt t (p : Int)) = 37 then (if (wrap64 ((p : Int) + 1)) < (t.size : Int) then (some (0, wrap64 ((p : Int) + 1), 4)) else (if (wrap64 ((wrap64 (10 * n)) + f)) > 1000 then (some (0, 0, 10)) else (some (wrap64 ((wrap64 (10 * n)) + f), 0, 0)))) else (some (0, (p : Int), 4))) else (none)) else (none)))
  = if (tailC n f (pcC t p)).e = 0 then (if (wrap64 ((wrap64 (10 * (tailC n f (pcC t p)).n)) + (tailC n f (pcC t p)).f)) > 1000 then (some (0, 0, 10)) else (some (wrap64 ((wrap64 (10 * (tailC n f (pcC t p)).n)) + (tailC n f (pcC t p)).f), 0, 0))) else some (0, ((tailC n f (pcC t p)).at_ : Int), (tailC n f (pcC t p)).e) := by
 by_cases c1 : p < t.size
 ·rw [if_neg (show ¬ (p : Int) ≥ (t.size : Int) by omega), if_pos (show (0 : Int) ≤ (p : Int) by omega), if_pos (show (p : Int) < (t.size : Int) by omega)]
  by_cases c2 : gb t p = 37
  ·rw [if_pos (show bt t (p : Int) = 37 from c2), w_nat p (by omega)]
   by_cases c3 : p + 1 < t.size
   ·rw [show pcC t p = (0, p + 1, 4) by unfold pcC; rw [if_pos c1, if_pos c2, if_pos c3], if_pos (show ((p + 1 : Nat) : Int) < (t.size : Int) by omega)]
    rfl
   ·rw [show pcC t p = (0, p + 1, 0) by unfold pcC; rw [if_pos c1, if_pos c2, if_neg c3], if_neg (show ¬ ((p + 1 : Nat) : Int) < (t.size : Int) by omega)]
    rfl
  ·rw [show pcC t p = (0, p, 4) by unfold pcC; rw [if_pos c1, if_neg c2], if_neg (show ¬ bt t (p : Int) = 37 from c2)]
   rfl
 ·rw [show pcC t p = (0, p, 3) by unfold pcC; rw [if_neg c1], if_pos (show (p : Int) ≥ (t.size : Int) by omega)]
  rfl
theorem refPercent_f (t : ByteArray) (ht : t.size ≤ 1000000) (k : Nat) (hk : t.size + 40 ≤ k) : drayageref01_Percent.f k t = some (pctS t) := by
 obtain ⟨h1, h2, h3⟩ := read_par asc_pct (sp_pct t 1) (by decide)
 have hb := read_bd pctB pctB t 1 (by decide) (by decide)
 rw [show ((1 : Nat) : Int) = 1 from rfl] at h1 h2 h3
 have A : drayageref01_Percent.f k t = if (parC t 1 (pcC t)).e = 0 then (if (wrap64 ((wrap64 (10 * (parC t 1 (pcC t)).n)) + (parC t 1 (pcC t)).f)) > 1000 then (some (0, 0, 10)) else (some (wrap64 ((wrap64 (10 * (parC t 1 (pcC t)).n)) + (parC t 1 (pcC t)).f), 0, 0))) else some (0, ((parC t 1 (pcC t)).at_ : Int), (parC t 1 (pcC t)).e) := by
  unfold drayageref01_Percent.f
  rw [ref_head t ht k (by omega), Option.bind_some]
  dsimp only [up]
  by_cases he : (wlC t (t.size + 1) 0 0).2.2 = 0
  ·have hp := point_f t ht 1 (by decide) (wlC t (t.size + 1) 0 0).2.1 (wl_le t) k (by omega)
   rw [show ((1 : Nat) : Int) = 1 from rfl] at hp
   rw [if_pos he, hp, Option.bind_some, parC_pt he]
   dsimp only [up]
   have hle := pt_le t 1 (wlC t (t.size + 1) 0 0).2.1 (wl_le t)
   by_cases h2 : (ptC t 1 (wlC t (t.size + 1) 0 0).2.1).2.2 = 0
   ·rw [if_pos h2, if_pos h2]
    exact pct_tail t ht _ hle _ _
   ·rw [if_neg h2, if_neg h2]
    exact (if_neg h2).symm
  ·rw [if_neg he, parC_bad he]
   exact (if_neg he).symm
 rw [A]
 unfold pctS
 by_cases he : (parC t 1 (pcC t)).e = 0
 ·obtain ⟨e1, e2, _⟩ := h3 he
  rw [if_pos he, if_neg (show ¬ (readS pctB pctB t 1).2.2 ≠ 0 from fun h => h (h1.trans he))]
  rw [e1, e2] at hb
  rw [e1, e2]
  have hw : wrap64 ((wrap64 (10 * (parC t 1 (pcC t)).n)) + (parC t 1 (pcC t)).f) = 10 * (parC t 1 (pcC t)).n + (parC t 1 (pcC t)).f := by
   have hb1 := hb.1; have hb2 := hb.2.1; have hb3 := hb.2.2.1; have hb4 := hb.2.2.2.1
   unfold wrap64
   omega
  rw [hw]
  split
  ·rfl
  ·rfl
 ·rw [if_neg he, if_pos (show (readS pctB pctB t 1).2.2 ≠ 0 from fun h => he (h1.symm.trans h)), h1, h2]
end Go.Proofs.YtkpoipjgbdcdjaaDoor.P
