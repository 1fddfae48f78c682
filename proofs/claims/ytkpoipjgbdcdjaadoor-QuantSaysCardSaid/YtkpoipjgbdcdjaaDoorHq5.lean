import Derived.Test.YtkpoipjgbdcdjaaDoorHq4
import Derived.Test.YtkpoipjgbdcdjaaDoorHqp
/- What the reader makes of a text that begins with a number's digits. -/
namespace Go.Proofs.YtkpoipjgbdcdjaaDoor.P
set_option linter.unusedVariables false
set_option linter.unusedSimpArgs false
open Go.RowKit Go.Proofs.YtkpoipjgbdcdjaaDoorW.PrintWords Go.Proofs.YtkpoipjgbdcdjaaDoorW.PrintLast Go.Proofs.YtkpoipjgbdcdjaaDoorW.PrintMore

theorem parse_par (t : ByteArray) (milli : Bool) : parseS t milli = if (parC t 3 (sfC t)).e = 0 then overS ((1000 * (parC t 3 (sfC t)).n + (parC t 3 (sfC t)).f) * (parC t 3 (sfC t)).s) (unitI milli) else (0, ((parC t 3 (sfC t)).at_ : Int), (parC t 3 (sfC t)).e) := by
  obtain ⟨h1, h2, h3⟩ := read_par asc_beg (sp_parse t 3) (by decide)
  rw [show ((3 : Nat) : Int) = 3 from rfl] at h1 h2 h3
  unfold parseS
  by_cases he : (parC t 3 (sfC t)).e = 0
  · obtain ⟨e1, e2, e3⟩ := h3 he
    have e3' : (sufV (readS begB endB t 3).1.sx.data.toList).getD 0 = (parC t 3 (sfC t)).s := e3
    rw [if_pos he, if_neg (show ¬ (readS begB endB t 3).2.2 ≠ 0 from fun h => h (h1.trans he)), e1, e2, e3']
  · rw [if_neg he, if_pos (show (readS begB endB t 3).2.2 ≠ 0 from fun h => he (h1.symm.trans h)), h1, h2]
theorem par_bd (t : ByteArray) (he : (parC t 3 (sfC t)).e = 0) : 0 ≤ (1000 * (parC t 3 (sfC t)).n + (parC t 3 (sfC t)).f) * (parC t 3 (sfC t)).s := by
  obtain ⟨h1, h2, h3⟩ := read_par asc_beg (sp_parse t 3) (by decide)
  have hb := read_bd begB endB t 3 (by decide) (by decide)
  rw [show ((3 : Nat) : Int) = 3 from rfl] at h1 h2 h3
  obtain ⟨e1, e2, e3⟩ := h3 he
  have e3' : (sufV (readS begB endB t 3).1.sx.data.toList).getD 0 = (parC t 3 (sfC t)).s := e3
  have hs := suf_bd (readS begB endB t 3).1.sx.data.toList
  rw [e3'] at hs
  rw [e1, e2] at hb
  exact Int.mul_nonneg (by omega) hs.1
theorem pct_par (t : ByteArray) : pctS t = if (parC t 1 (pcC t)).e = 0 then (if 1000 < 10 * (parC t 1 (pcC t)).n + (parC t 1 (pcC t)).f then (0, 0, 10) else (10 * (parC t 1 (pcC t)).n + (parC t 1 (pcC t)).f, 0, 0)) else (0, ((parC t 1 (pcC t)).at_ : Int), (parC t 1 (pcC t)).e) := by
  obtain ⟨h1, h2, h3⟩ := read_par asc_pct (sp_pct t 1) (by decide)
  rw [show ((1 : Nat) : Int) = 1 from rfl] at h1 h2 h3
  unfold pctS
  by_cases he : (parC t 1 (pcC t)).e = 0
  · obtain ⟨e1, e2, _⟩ := h3 he
    rw [if_pos he, if_neg (show ¬ (readS pctB pctB t 1).2.2 ≠ 0 from fun h => h (h1.trans he)), e1, e2]
  · rw [if_neg he, if_pos (show (readS pctB pctB t 1).2.2 ≠ 0 from fun h => he (h1.symm.trans h)), h1, h2]
theorem par_le (t : ByteArray) (many : Nat) (sf : Nat → Int × Nat × Int) (hsf : ∀ p, p ≤ t.size → (sf p).2.1 ≤ t.size) : (parC t many sf).at_ ≤ t.size := by
  by_cases he : (wlC t (t.size + 1) 0 0).2.2 = 0
  · rw [parC_pt he]
    have h1 := pt_le t many _ (wl_le t)
    split
    · unfold tailC
      split
      · exact Nat.zero_le _
      · exact hsf _ h1
    · exact h1
  · rw [parC_bad he]
    exact wl_le t
theorem sf_le (t : ByteArray) (p : Nat) (hp : p ≤ t.size) : (sfC t p).2.1 ≤ t.size := by
  unfold sfC
  repeat' split
  all_goals (dsimp only; omega)

/-- a text of these bytes -/
abbrev mk (l : List UInt8) : ByteArray := ⟨l.toArray⟩
theorem mk_app (a b : List UInt8) : mk a ++ mk b = mk (a ++ b) := by
  apply ByteArray.ext
  rw [ByteArray.data_append]
  show a.toArray ++ b.toArray = (a ++ b).toArray
  simp
theorem mk_size (l : List UInt8) : (mk l).size = l.length := by
  show l.toArray.size = l.length
  simp
theorem gb_mk (l : List UInt8) (p : Nat) (h : p < l.length) : gb (mk l) p = (l[p].toNat : Int) := by
  show bt (mk l) (p : Int) = _
  unfold bt
  rw [dif_pos (show (p : Int).toNat < (mk l).size by rw [mk_size]; omega)]
  rfl
theorem gb_at0 (pre : List UInt8) (c : UInt8) (r : List UInt8) : gb (mk (pre ++ c :: r)) pre.length = (c.toNat : Int) := by
  rw [gb_mk _ _ (by rw [List.length_append, List.length_cons]; omega), List.getElem_append_right (Nat.le_refl _)]
  simp
theorem gb_at1 (pre : List UInt8) (c d : UInt8) (r : List UInt8) : gb (mk (pre ++ c :: d :: r)) (pre.length + 1) = (d.toNat : Int) := by
  rw [gb_mk _ _ (by rw [List.length_append, List.length_cons, List.length_cons]; omega), List.getElem_append_right (by omega)]
  simp
theorem dgs_pos (k u : Nat) : 1 ≤ (dgs (k + 1) u).length := by
  unfold dgs
  split
  · simp
  · rw [List.length_append, List.length_singleton]; omega
theorem dg_toNat (d : Nat) (h : d < 10) : (UInt8.ofNat (48 + d)).toNat = 48 + d := by
  rw [UInt8.toNat_ofNat']
  omega
theorem wl_dgs : ∀ (k u : Nat) (rest : List UInt8) (F : Nat), u < 10 ^ (k + 1) → u ≤ 1125899906842624 → (dgs (k + 1) u).length ≤ F →
    wlC (mk (dgs (k + 1) u ++ rest)) F 0 0 = wlC (mk (dgs (k + 1) u ++ rest)) (F - (dgs (k + 1) u).length) (u : Int) (dgs (k + 1) u).length ∧ ((dgs (k + 1) u).length = 1 → gb (mk (dgs (k + 1) u ++ rest)) 0 = 48 + (u : Int)) := by
  intro k
  induction k with
  | zero =>
    intro u rest F hu hh hF
    have hu' : u < 10 := by omega
    have e : dgs 1 u = [UInt8.ofNat (48 + u)] := if_pos hu'
    rw [show 0 + 1 = 1 from rfl, e] at hF ⊢
    have hg : gb (mk ([UInt8.ofNat (48 + u)] ++ rest)) 0 = 48 + (u : Int) := by
      rw [gb_mk _ _ (by simp)]
      show ((UInt8.ofNat (48 + u)).toNat : Int) = _
      rw [dg_toNat u hu']; omega
    refine ⟨?_, fun _ => hg⟩
    obtain ⟨f, rfl⟩ : ∃ f, F = f + 1 := ⟨F - 1, by simp only [List.length_singleton] at hF; omega⟩
    have hd : dgB (mk ([UInt8.ofNat (48 + u)] ++ rest)) 0 = true := dg_iff.2 ⟨by rw [mk_size]; simp, by omega, by omega⟩
    rw [wlC, if_pos hd, if_neg (show ¬ ((0 : Nat) = 1 ∧ gb (mk ([UInt8.ofNat (48 + u)] ++ rest)) 0 = 48) from fun h => by cases h.1), hg,
      show min (10 * (0 : Int) + (48 + (u : Int) - 48)) huge = (u : Int) by show min _ (1125899906842624 : Int) = _; omega]
    rfl
  | succ k ih =>
    intro u rest F hu hh hF
    by_cases hu' : u < 10
    · have e : dgs (k + 1 + 1) u = [UInt8.ofNat (48 + u)] := if_pos hu'
      rw [e] at hF ⊢
      have hg : gb (mk ([UInt8.ofNat (48 + u)] ++ rest)) 0 = 48 + (u : Int) := by
        rw [gb_mk _ _ (by simp)]
        show ((UInt8.ofNat (48 + u)).toNat : Int) = _
        rw [dg_toNat u hu']; omega
      refine ⟨?_, fun _ => hg⟩
      obtain ⟨f, rfl⟩ : ∃ f, F = f + 1 := ⟨F - 1, by simp only [List.length_singleton] at hF; omega⟩
      have hd : dgB (mk ([UInt8.ofNat (48 + u)] ++ rest)) 0 = true := dg_iff.2 ⟨by rw [mk_size]; simp, by omega, by omega⟩
      rw [wlC, if_pos hd, if_neg (show ¬ ((0 : Nat) = 1 ∧ gb (mk ([UInt8.ofNat (48 + u)] ++ rest)) 0 = 48) from fun h => by cases h.1), hg,
        show min (10 * (0 : Int) + (48 + (u : Int) - 48)) huge = (u : Int) by show min _ (1125899906842624 : Int) = _; omega]
      rfl
    · have e : dgs (k + 1 + 1) u = dgs (k + 1) (u / 10) ++ [UInt8.ofNat (48 + u % 10)] := if_neg hu'
      rw [e] at hF ⊢
      rw [List.length_append, List.length_singleton] at hF ⊢
      rw [List.append_assoc, List.singleton_append]
      have hp := dgs_pos k (u / 10)
      obtain ⟨i1, i2⟩ := ih (u / 10) (UInt8.ofNat (48 + u % 10) :: rest) F (by rw [Nat.pow_succ] at hu; omega) (by omega) (by omega)
      refine ⟨?_, fun h => by omega⟩
      rw [i1]
      obtain ⟨f, hf⟩ : ∃ f, F - (dgs (k + 1) (u / 10)).length = f + 1 := ⟨F - (dgs (k + 1) (u / 10)).length - 1, by omega⟩
      have hg := gb_at0 (dgs (k + 1) (u / 10)) (UInt8.ofNat (48 + u % 10)) rest
      rw [dg_toNat _ (by omega)] at hg
      have hlt : (dgs (k + 1) (u / 10)).length < (mk (dgs (k + 1) (u / 10) ++ UInt8.ofNat (48 + u % 10) :: rest)).size := by rw [mk_size, List.length_append, List.length_cons]; omega
      have hd : dgB (mk (dgs (k + 1) (u / 10) ++ UInt8.ofNat (48 + u % 10) :: rest)) (dgs (k + 1) (u / 10)).length = true := dg_iff.2 ⟨hlt, by omega, by omega⟩
      rw [hf, wlC, if_pos hd, if_neg (show ¬ ((dgs (k + 1) (u / 10)).length = 1 ∧ gb (mk (dgs (k + 1) (u / 10) ++ UInt8.ofNat (48 + u % 10) :: rest)) 0 = 48) from fun h => by have := i2 h.1; have := h.2; omega), hg,
        show min (10 * ((u / 10 : Nat) : Int) + (((48 + u % 10 : Nat) : Int) - 48)) huge = (u : Int) by show min _ (1125899906842624 : Int) = _; omega,
        show F - ((dgs (k + 1) (u / 10)).length + 1) = f by omega]
/-- a row of bytes that does not go on a number -/
def Ends (l : List UInt8) : Prop := ∀ c r, l = c :: r → ¬ (48 ≤ c.toNat ∧ c.toNat ≤ 57)
theorem no_dg (pre rest : List UInt8) (hr : Ends rest) : dgB (mk (pre ++ rest)) pre.length = false := by
  rw [Bool.eq_false_iff]
  intro h
  obtain ⟨h1, h2, h3⟩ := dg_iff.1 h
  cases rest with
  | nil => rw [mk_size, List.append_nil] at h1; omega
  | cons c r =>
    rw [gb_at0] at h2 h3
    exact hr c r rfl ⟨by omega, by omega⟩
theorem wl_num (u : Nat) (rest : List UInt8) (hu : u ≤ 1125899906842624) (hr : Ends rest) : wlC (mk (dgs 20 u ++ rest)) ((mk (dgs 20 u ++ rest)).size + 1) 0 0 = ((u : Int), (dgs 20 u).length, 0) := by
  have hs : (mk (dgs 20 u ++ rest)).size = (dgs 20 u).length + rest.length := by rw [mk_size, List.length_append]
  have hp : 1 ≤ (dgs 20 u).length := dgs_pos 19 u
  have hw : wlC (mk (dgs 20 u ++ rest)) ((mk (dgs 20 u ++ rest)).size + 1) 0 0 = wlC (mk (dgs 20 u ++ rest)) ((mk (dgs 20 u ++ rest)).size + 1 - (dgs 20 u).length) (u : Int) (dgs 20 u).length :=
    (wl_dgs 19 u rest ((mk (dgs 20 u ++ rest)).size + 1) (by omega) hu (show (dgs 20 u).length ≤ (mk (dgs 20 u ++ rest)).size + 1 by omega)).1
  rw [hw]
  obtain ⟨f, hf⟩ : ∃ f, (mk (dgs 20 u ++ rest)).size + 1 - (dgs 20 u).length = f + 1 := ⟨(mk (dgs 20 u ++ rest)).size - (dgs 20 u).length, by omega⟩
  rw [hf, wlC, no_dg _ _ hr, if_neg (show ¬ false = true by decide), if_neg (show ¬ (dgs 20 u).length = 0 by omega)]
theorem par_num (u : Nat) (rest : List UInt8) (hu : u ≤ 1125899906842624) (hr : Ends rest) (h46 : ∀ r, rest ≠ 46 :: r) (many : Nat) (sf : Nat → Int × Nat × Int) : parC (mk (dgs 20 u ++ rest)) many sf = tailC u 0 (sf (dgs 20 u).length) := by
  have hw := wl_num u rest hu hr
  rw [parC_pt (by rw [hw]), hw]
  have hp : ptC (mk (dgs 20 u ++ rest)) many (dgs 20 u).length = (0, (dgs 20 u).length, 0) := by
    unfold ptC
    rw [if_neg]
    rintro ⟨h1, h2⟩
    cases rest with
    | nil => rw [mk_size, List.append_nil] at h1; omega
    | cons c r =>
      rw [gb_at0] at h2
      exact h46 r (by rw [show c = 46 from UInt8.toNat_inj.1 (by show c.toNat = 46; omega)])
  dsimp only
  rw [hp, if_pos rfl]
theorem par_pt (u : Nat) (rest : List UInt8) (hu : u ≤ 1125899906842624) (many : Nat) (sf : Nat → Int × Nat × Int) (m : Int) (q c : Nat) (hc : c ≠ 0)
    (hpl : plC (mk (dgs 20 u ++ 46 :: rest)) many ((mk (dgs 20 u ++ 46 :: rest)).size + 1) 0 ((dgs 20 u).length + 1) 0 = (m, q, c)) : parC (mk (dgs 20 u ++ 46 :: rest)) many sf = tailC u (m * ten (many - c)) (sf q) := by
  have hw := wl_num u (46 :: rest) hu (fun c r h => by injection h with h1 h2; subst h1; decide)
  rw [parC_pt (by rw [hw]), hw]
  have hp : ptC (mk (dgs 20 u ++ 46 :: rest)) many (dgs 20 u).length = (m * ten (many - c), q, 0) := by
    unfold ptC
    rw [if_pos ⟨by rw [mk_size, List.length_append, List.length_cons]; omega, by rw [gb_at0]; rfl⟩, hpl]
    unfold finC
    rw [if_neg hc]
  dsimp only
  rw [hp, if_pos rfl]
theorem sf_mk (pre s : List UInt8) (v : Int) (h : (s, v) ∈ ([([], 1000), ([109], 1), ([107], 1000000), ([77], 1000000000), ([71], 1000000000000), ([75, 105], 1024000), ([77, 105], 1048576000), ([71, 105], 1073741824000)] : List (List UInt8 × Int))) : sfC (mk (pre ++ s)) pre.length = (v, pre.length + s.length, 0) := by
  simp only [List.mem_cons, List.not_mem_nil, or_false, Prod.mk.injEq] at h
  have e1 : ∀ c : UInt8, sfC (mk (pre ++ [c])) pre.length = if gb (mk (pre ++ [c])) pre.length = 109 then (1, pre.length + 1, 0) else if gb (mk (pre ++ [c])) pre.length = 107 then (1000000, pre.length + 1, 0) else if gb (mk (pre ++ [c])) pre.length = 75 then (0, pre.length + 1, 3) else if gb (mk (pre ++ [c])) pre.length = 77 then (1000000000, pre.length + 1, 0) else if gb (mk (pre ++ [c])) pre.length = 71 then (1000000000000, pre.length + 1, 0) else (0, pre.length, 4) := by
    intro c
    have hs : (mk (pre ++ [c])).size = pre.length + 1 := by rw [mk_size, List.length_append, List.length_singleton]
    unfold sfC
    simp only [hs, Nat.lt_irrefl, false_and, if_false, show pre.length < pre.length + 1 by omega, if_true]
  have e2 : ∀ c : UInt8, (c.toNat = 75 ∨ c.toNat = 77 ∨ c.toNat = 71) → sfC (mk (pre ++ [c, 105])) pre.length = if c.toNat = 75 then (1024000, pre.length + 2, 0) else if c.toNat = 77 then (1048576000, pre.length + 2, 0) else (1073741824000, pre.length + 2, 0) := by
    intro c hc
    have hs : (mk (pre ++ [c, 105])).size = pre.length + 2 := by rw [mk_size, List.length_append]; rfl
    have g0 := gb_at0 pre c [105]
    have g1 := gb_at1 pre c 105 []
    have hlt : pre.length < (mk (pre ++ [c, 105])).size := by omega
    have hi : pre.length + 1 < (mk (pre ++ [c, 105])).size ∧ gb (mk (pre ++ [c, 105])) (pre.length + 1) = 105 := ⟨by omega, g1⟩
    have hn : ¬ pre.length + 2 < (mk (pre ++ [c, 105])).size := by omega
    rcases hc with hc | hc | hc
    · rw [sf75 hlt (by rw [g0, hc]; rfl), if_pos hi, if_neg hn, if_pos hc]
    · rw [sf77 hlt (by rw [g0, hc]; rfl), if_pos hi, if_neg hn, if_neg (by omega), if_pos hc]
    · rw [sf71 hlt (by rw [g0, hc]; rfl), if_pos hi, if_neg hn, if_neg (by omega), if_neg (by omega)]
  rcases h with ⟨rfl, rfl⟩ | ⟨rfl, rfl⟩ | ⟨rfl, rfl⟩ | ⟨rfl, rfl⟩ | ⟨rfl, rfl⟩ | ⟨rfl, rfl⟩ | ⟨rfl, rfl⟩ | ⟨rfl, rfl⟩
  · have hs : (mk (pre ++ [])).size = pre.length := by rw [mk_size, List.append_nil]
    unfold sfC
    rw [if_neg (by omega)]
    rfl
  · rw [e1, gb_at0]; rfl
  · rw [e1, gb_at0]; rfl
  · rw [e1, gb_at0]; rfl
  · rw [e1, gb_at0]; rfl
  · rw [e2 75 (by decide)]; rfl
  · rw [e2 77 (by decide)]; rfl
  · rw [e2 71 (by decide)]; rfl
theorem over_lo (a u : Int) (hu : u = 1000 ∨ u = 1000000) (h0 : 0 ≤ a) (h1 : a < 18446744073709551616) : overS a u = if 1099511627776 * u < a then (0, 0, 10) else if a % u ≠ 0 then (0, 0, 4) else (a / u, 0, 0) := by
  have e : a / 18446744073709551616 = 0 := by omega
  have e2 : a % 18446744073709551616 = a := by omega
  unfold overS
  rw [e, e2, if_neg (show ¬ u ≤ 0 by omega), show divP 0 a u = (a / u, a % u) from if_pos rfl]
  dsimp only
  rcases hu with rfl | rfl
  · by_cases c1 : 1099511627776 * 1000 < a
    · rw [if_pos c1, if_pos (by omega)]
    · rw [if_neg c1, if_neg (by omega)]
      by_cases c2 : a % 1000 = 0
      · rw [if_neg (show ¬ a % 1000 ≠ 0 from fun h => h c2), if_neg (by omega)]
      · rw [if_pos c2, if_pos (by omega)]
  · by_cases c1 : 1099511627776 * 1000000 < a
    · rw [if_pos c1, if_pos (by omega)]
    · rw [if_neg c1, if_neg (by omega)]
      by_cases c2 : a % 1000000 = 0
      · rw [if_neg (show ¬ a % 1000000 ≠ 0 from fun h => h c2), if_neg (by omega)]
      · rw [if_pos c2, if_pos (by omega)]
end Go.Proofs.YtkpoipjgbdcdjaaDoor.P
