import Derived.Test.YtceepgleeelohaaDoorHqp
import Derived.Test.YtceepgleeelohaaDoorHparse
import Derived.Test.YtceepgleeelohaaDoorHq2
/- The document's Parse and Percent come to the same. -/
namespace Go.Proofs.YtceepgleeelohaaDoor.P
set_option linter.unusedVariables false
set_option linter.unusedSimpArgs false
open Go.RowKit Go.Proofs.YtceepgleeelohaaDoorW.PrintWords Go.Proofs.YtceepgleeelohaaDoorW.PrintLast Go.Proofs.YtceepgleeelohaaDoorW.PrintMore

theorem mn_min (a b : Int) : mn a b = min a b := by unfold mn; split <;> omega
abbrev up (x : Int × Nat × Int) : Int × Int × Int := (x.1, (x.2.1 : Int), x.2.2)
theorem w_nat (p : Nat) (h : p ≤ 2000000) : wrap64 ((p : Int) + 1) = ((p + 1 : Nat) : Int) := by unfold wrap64; omega
theorem wl_fuel (t : ByteArray) : ∀ (k k' : Nat) (n : Int) (p : Nat), t.size < k + p → t.size < k' + p → p ≤ t.size → wlC t k n p = wlC t k' n p
  | 0, _, _, _, h, _, hp => by omega
  | _ + 1, 0, _, _, _, h, hp => by omega
  | k + 1, k' + 1, n, p, h, h', hp => by
    unfold wlC
    by_cases hd : dgB t p = true
    · have := (dg_iff.1 hd).1
      rw [if_pos hd, if_pos hd, wl_fuel t k k' _ (p + 1) (by omega) (by omega) (by omega)]
    · rw [if_neg hd, if_neg hd]
theorem ten_succ (d : Nat) : ten (d + 1) = 10 * ten d := by
  unfold ten
  rw [Nat.pow_succ]
  omega
theorem ten_pos (d : Nat) : 1 ≤ ten d := by
  have h : 0 < 10 ^ d := Nat.pow_pos (by decide)
  have h2 : (1 : Int) ≤ ((10 ^ d : Nat) : Int) := by omega
  exact h2
/-- what stands at a point's end -/
def finC (t : ByteArray) (many : Nat) (x : Int × Nat × Nat) : Int × Nat × Int := if x.2.2 = 0 then (0, x.2.1, if x.2.1 = t.size then 3 else 4) else (x.1 * ten (many - x.2.2), x.2.1, 0)
def ptC (t : ByteArray) (many p : Nat) : Int × Nat × Int := if p < t.size ∧ gb t p = 46 then finC t many (plC t many (t.size + 1) 0 (p + 1) 0) else (0, p, 0)
end Go.Proofs.YtceepgleeelohaaDoor.P
/- The document's Parse and Percent answer as the program's. -/
namespace Go.Proofs.YtceepgleeelohaaDoor.P
set_option linter.unusedVariables false
set_option linter.unusedSimpArgs false
open Go.RowKit Go.Proofs.YtceepgleeelohaaDoorW.PrintWords Go.Proofs.YtceepgleeelohaaDoorW.PrintLast Go.Proofs.YtceepgleeelohaaDoorW.PrintMore

theorem parC_bad {t : ByteArray} {many : Nat} {sf : Nat → Int × Nat × Int} (h : (wlC t (t.size + 1) 0 0).2.2 ≠ 0) : parC t many sf = ⟨0, 0, 0, (wlC t (t.size + 1) 0 0).2.1, (wlC t (t.size + 1) 0 0).2.2⟩ := by
  unfold parC
  rw [if_pos h]
theorem parC_pt {t : ByteArray} {many : Nat} {sf : Nat → Int × Nat × Int} (h : (wlC t (t.size + 1) 0 0).2.2 = 0) : parC t many sf = if (ptC t many (wlC t (t.size + 1) 0 0).2.1).2.2 = 0 then tailC (wlC t (t.size + 1) 0 0).1 (ptC t many (wlC t (t.size + 1) 0 0).2.1).1 (sf (ptC t many (wlC t (t.size + 1) 0 0).2.1).2.1) else ⟨0, 0, 0, (ptC t many (wlC t (t.size + 1) 0 0).2.1).2.1, (ptC t many (wlC t (t.size + 1) 0 0).2.1).2.2⟩ := by
  unfold parC ptC
  rw [if_neg (fun h' => h' h)]
  by_cases h46 : (wlC t (t.size + 1) 0 0).2.1 < t.size ∧ gb t (wlC t (t.size + 1) 0 0).2.1 = 46
  · rw [if_pos h46, if_pos h46]
    unfold finC
    by_cases hc : (plC t many (t.size + 1) 0 ((wlC t (t.size + 1) 0 0).2.1 + 1) 0).2.2 = 0
    · rw [if_pos hc, if_pos hc]
      dsimp only
      by_cases he : (plC t many (t.size + 1) 0 ((wlC t (t.size + 1) 0 0).2.1 + 1) 0).2.1 = t.size
      · rw [if_pos he, if_neg (show ¬ (3 : Int) = 0 by decide)]
      · rw [if_neg he, if_neg (show ¬ (4 : Int) = 0 by decide)]
    · rw [if_neg hc, if_neg hc]
      rfl
  · rw [if_neg h46, if_neg h46]
    rfl
theorem pl_le (t : ByteArray) (many : Nat) : ∀ (k : Nat) (m : Int) (p c : Nat), p ≤ t.size → (plC t many k m p c).2.1 ≤ t.size
  | 0, _, _, _, hp => hp
  | k + 1, m, p, c, hp => by
    unfold plC
    by_cases hd : dgB t p = true ∧ c < many
    · rw [if_pos hd]
      have := (dg_iff.1 hd.1).1
      exact pl_le t many k _ _ _ (by omega)
    · rw [if_neg hd]
      exact hp
theorem pt_le (t : ByteArray) (many p : Nat) (hp : p ≤ t.size) : (ptC t many p).2.1 ≤ t.size := by
  unfold ptC
  by_cases h : p < t.size ∧ gb t p = 46
  · rw [if_pos h]
    have := pl_le t many (t.size + 1) 0 (p + 1) 0 (by omega)
    unfold finC
    split
    · exact this
    · exact this
  · rw [if_neg h]
    exact hp
theorem wl_le (t : ByteArray) : (wlC t (t.size + 1) 0 0).2.1 ≤ t.size := (wl_bd t (t.size + 1) 0 0 (Int.le_refl 0) (by decide) (Nat.zero_le _)).2.2
theorem pct_tail (t : ByteArray) (ht : t.size ≤ 1000000) (p : Nat) (hle : p ≤ t.size) (n f : Int) :
    (if (p : Int) ≥ (t.size : Int) then (some ((0 : Int), (p : Int), (3 : Int))) else (if 0 ≤ (p : Int) then (if (p : Int) < (t.size : Int) then (if (bt t (p : Int)) = 37 then (if (wrap64 ((p : Int) + 1)) < (t.size : Int) then (some (0, wrap64 ((p : Int) + 1), 4)) else (if (wrap64 ((wrap64 (10 * n)) + f)) > 1000 then (some (0, 0, 10)) else (some (wrap64 ((wrap64 (10 * n)) + f), 0, 0)))) else (some (0, (p : Int), 4))) else (none)) else (none)))
    = if (tailC n f (pcC t p)).e = 0 then (if (wrap64 ((wrap64 (10 * (tailC n f (pcC t p)).n)) + (tailC n f (pcC t p)).f)) > 1000 then (some (0, 0, 10)) else (some (wrap64 ((wrap64 (10 * (tailC n f (pcC t p)).n)) + (tailC n f (pcC t p)).f), 0, 0))) else some (0, ((tailC n f (pcC t p)).at_ : Int), (tailC n f (pcC t p)).e) := by
  by_cases c1 : p < t.size
  · rw [if_neg (show ¬ (p : Int) ≥ (t.size : Int) by omega), if_pos (show (0 : Int) ≤ (p : Int) by omega), if_pos (show (p : Int) < (t.size : Int) by omega)]
    by_cases c2 : gb t p = 37
    · rw [if_pos (show bt t (p : Int) = 37 from c2), w_nat p (by omega)]
      by_cases c3 : p + 1 < t.size
      · rw [show pcC t p = (0, p + 1, 4) by unfold pcC; rw [if_pos c1, if_pos c2, if_pos c3], if_pos (show ((p + 1 : Nat) : Int) < (t.size : Int) by omega)]
        rfl
      · rw [show pcC t p = (0, p + 1, 0) by unfold pcC; rw [if_pos c1, if_pos c2, if_neg c3], if_neg (show ¬ ((p + 1 : Nat) : Int) < (t.size : Int) by omega)]
        rfl
    · rw [show pcC t p = (0, p, 4) by unfold pcC; rw [if_pos c1, if_neg c2], if_neg (show ¬ bt t (p : Int) = 37 from c2)]
      rfl
  · rw [show pcC t p = (0, p, 3) by unfold pcC; rw [if_neg c1], if_pos (show (p : Int) ≥ (t.size : Int) by omega)]
    rfl
end Go.Proofs.YtceepgleeelohaaDoor.P
/- What the reader makes of a text that begins with a number's digits. -/
namespace Go.Proofs.YtceepgleeelohaaDoor.P
set_option linter.unusedVariables false
set_option linter.unusedSimpArgs false
open Go.RowKit Go.Proofs.YtceepgleeelohaaDoorW.PrintWords Go.Proofs.YtceepgleeelohaaDoorW.PrintLast Go.Proofs.YtceepgleeelohaaDoorW.PrintMore

theorem parse_par (t : ByteArray) (milli : Bool) : parseS t milli = if (parC t 3 (sfC t)).e = 0 then overS ((1000 * (parC t 3 (sfC t)).n + (parC t 3 (sfC t)).f) * (parC t 3 (sfC t)).s) (unitI milli) else (0, ((parC t 3 (sfC t)).at_ : Int), (parC t 3 (sfC t)).e) := by
  obtain ⟨h1, h2, h3⟩ := read_par asc_beg (sp_parse t 3) (by decide)
  rw [show ((3 : Nat) : Int) = 3 from rfl] at h1 h2 h3
  unfold parseS
  by_cases he : (parC t 3 (sfC t)).e = 0
  · obtain ⟨e1, e2, e3⟩ := h3 he
    have e3' : (sufV (readS begB endB t 3).1.sx.data.toList).getD 0 = (parC t 3 (sfC t)).s := e3
    rw [if_pos he, if_neg (show ¬ (readS begB endB t 3).2.2 ≠ 0 from fun h => h (h1.trans he)), e1, e2, e3']
  · rw [if_neg he, if_pos (show (readS begB endB t 3).2.2 ≠ 0 from fun h => he (h1.symm.trans h)), h1, h2]
theorem par_bd (t : ByteArray) (he : (parC t 3 (sfC t)).e = 0) : 0 ≤ (1000 * (parC t 3 (sfC t)).n + (parC t 3 (sfC t)).f) * (parC t 3 (sfC t)).s := by
  obtain ⟨h1, h2, h3⟩ := read_par asc_beg (sp_parse t 3) (by decide)
  have hb := read_bd begB endB t 3 (by decide) (by decide)
  rw [show ((3 : Nat) : Int) = 3 from rfl] at h1 h2 h3
  obtain ⟨e1, e2, e3⟩ := h3 he
  have e3' : (sufV (readS begB endB t 3).1.sx.data.toList).getD 0 = (parC t 3 (sfC t)).s := e3
  have hs := suf_bd (readS begB endB t 3).1.sx.data.toList
  rw [e3'] at hs
  rw [e1, e2] at hb
  exact Int.mul_nonneg (by omega) hs.1
theorem pct_par (t : ByteArray) : pctS t = if (parC t 1 (pcC t)).e = 0 then (if 1000 < 10 * (parC t 1 (pcC t)).n + (parC t 1 (pcC t)).f then (0, 0, 10) else (10 * (parC t 1 (pcC t)).n + (parC t 1 (pcC t)).f, 0, 0)) else (0, ((parC t 1 (pcC t)).at_ : Int), (parC t 1 (pcC t)).e) := by
  obtain ⟨h1, h2, h3⟩ := read_par asc_pct (sp_pct t 1) (by decide)
  rw [show ((1 : Nat) : Int) = 1 from rfl] at h1 h2 h3
  unfold pctS
  by_cases he : (parC t 1 (pcC t)).e = 0
  · obtain ⟨e1, e2, _⟩ := h3 he
    rw [if_pos he, if_neg (show ¬ (readS pctB pctB t 1).2.2 ≠ 0 from fun h => h (h1.trans he)), e1, e2]
  · rw [if_neg he, if_pos (show (readS pctB pctB t 1).2.2 ≠ 0 from fun h => he (h1.symm.trans h)), h1, h2]
theorem par_le (t : ByteArray) (many : Nat) (sf : Nat → Int × Nat × Int) (hsf : ∀ p, p ≤ t.size → (sf p).2.1 ≤ t.size) : (parC t many sf).at_ ≤ t.size := by
  by_cases he : (wlC t (t.size + 1) 0 0).2.2 = 0
  · rw [parC_pt he]
    have h1 := pt_le t many _ (wl_le t)
    split
    · unfold tailC
      split
      · exact Nat.zero_le _
      · exact hsf _ h1
    · exact h1
  · rw [parC_bad he]
    exact wl_le t
theorem sf_le (t : ByteArray) (p : Nat) (hp : p ≤ t.size) : (sfC t p).2.1 ≤ t.size := by
  unfold sfC
  repeat' split
  all_goals (dsimp only; omega)

/-- a text of these bytes -/
abbrev mk (l : List UInt8) : ByteArray := ⟨l.toArray⟩
theorem mk_app (a b : List UInt8) : mk a ++ mk b = mk (a ++ b) := by
  apply ByteArray.ext
  rw [ByteArray.data_append]
  show a.toArray ++ b.toArray = (a ++ b).toArray
  simp
theorem mk_size (l : List UInt8) : (mk l).size = l.length := by
  show l.toArray.size = l.length
  simp
theorem gb_mk (l : List UInt8) (p : Nat) (h : p < l.length) : gb (mk l) p = (l[p].toNat : Int) := by
  show bt (mk l) (p : Int) = _
  unfold bt
  rw [dif_pos (show (p : Int).toNat < (mk l).size by rw [mk_size]; omega)]
  rfl
theorem gb_at0 (pre : List UInt8) (c : UInt8) (r : List UInt8) : gb (mk (pre ++ c :: r)) pre.length = (c.toNat : Int) := by
  rw [gb_mk _ _ (by rw [List.length_append, List.length_cons]; omega), List.getElem_append_right (Nat.le_refl _)]
  simp
theorem gb_at1 (pre : List UInt8) (c d : UInt8) (r : List UInt8) : gb (mk (pre ++ c :: d :: r)) (pre.length + 1) = (d.toNat : Int) := by
  rw [gb_mk _ _ (by rw [List.length_append, List.length_cons, List.length_cons]; omega), List.getElem_append_right (by omega)]
  simp
theorem dgs_pos (k u : Nat) : 1 ≤ (dgs (k + 1) u).length := by
  unfold dgs
  split
  · simp
  · rw [List.length_append, List.length_singleton]; omega
theorem dg_toNat (d : Nat) (h : d < 10) : (UInt8.ofNat (48 + d)).toNat = 48 + d := by
  rw [UInt8.toNat_ofNat']
  omega
theorem wl_dgs : ∀ (k u : Nat) (rest : List UInt8) (F : Nat), u < 10 ^ (k + 1) → u ≤ 1125899906842624 → (dgs (k + 1) u).length ≤ F →
    wlC (mk (dgs (k + 1) u ++ rest)) F 0 0 = wlC (mk (dgs (k + 1) u ++ rest)) (F - (dgs (k + 1) u).length) (u : Int) (dgs (k + 1) u).length ∧ ((dgs (k + 1) u).length = 1 → gb (mk (dgs (k + 1) u ++ rest)) 0 = 48 + (u : Int)) := by
  intro k
  induction k with
  | zero =>
    intro u rest F hu hh hF
    have hu' : u < 10 := by omega
    have e : dgs 1 u = [UInt8.ofNat (48 + u)] := if_pos hu'
    rw [show 0 + 1 = 1 from rfl, e] at hF ⊢
    have hg : gb (mk ([UInt8.ofNat (48 + u)] ++ rest)) 0 = 48 + (u : Int) := by
      rw [gb_mk _ _ (by simp)]
      show ((UInt8.ofNat (48 + u)).toNat : Int) = _
      rw [dg_toNat u hu']; omega
    refine ⟨?_, fun _ => hg⟩
    obtain ⟨f, rfl⟩ : ∃ f, F = f + 1 := ⟨F - 1, by simp only [List.length_singleton] at hF; omega⟩
    have hd : dgB (mk ([UInt8.ofNat (48 + u)] ++ rest)) 0 = true := dg_iff.2 ⟨by rw [mk_size]; simp, by omega, by omega⟩
    rw [wlC, if_pos hd, if_neg (show ¬ ((0 : Nat) = 1 ∧ gb (mk ([UInt8.ofNat (48 + u)] ++ rest)) 0 = 48) from fun h => by cases h.1), hg,
      show min (10 * (0 : Int) + (48 + (u : Int) - 48)) huge = (u : Int) by show min _ (1125899906842624 : Int) = _; omega]
    rfl
  | succ k ih =>
    intro u rest F hu hh hF
    by_cases hu' : u < 10
    · have e : dgs (k + 1 + 1) u = [UInt8.ofNat (48 + u)] := if_pos hu'
      rw [e] at hF ⊢
      have hg : gb (mk ([UInt8.ofNat (48 + u)] ++ rest)) 0 = 48 + (u : Int) := by
        rw [gb_mk _ _ (by simp)]
        show ((UInt8.ofNat (48 + u)).toNat : Int) = _
        rw [dg_toNat u hu']; omega
      refine ⟨?_, fun _ => hg⟩
      obtain ⟨f, rfl⟩ : ∃ f, F = f + 1 := ⟨F - 1, by simp only [List.length_singleton] at hF; omega⟩
      have hd : dgB (mk ([UInt8.ofNat (48 + u)] ++ rest)) 0 = true := dg_iff.2 ⟨by rw [mk_size]; simp, by omega, by omega⟩
      rw [wlC, if_pos hd, if_neg (show ¬ ((0 : Nat) = 1 ∧ gb (mk ([UInt8.ofNat (48 + u)] ++ rest)) 0 = 48) from fun h => by cases h.1), hg,
        show min (10 * (0 : Int) + (48 + (u : Int) - 48)) huge = (u : Int) by show min _ (1125899906842624 : Int) = _; omega]
      rfl
    · have e : dgs (k + 1 + 1) u = dgs (k + 1) (u / 10) ++ [UInt8.ofNat (48 + u % 10)] := if_neg hu'
      rw [e] at hF ⊢
      rw [List.length_append, List.length_singleton] at hF ⊢
      rw [List.append_assoc, List.singleton_append]
      have hp := dgs_pos k (u / 10)
      obtain ⟨i1, i2⟩ := ih (u / 10) (UInt8.ofNat (48 + u % 10) :: rest) F (by rw [Nat.pow_succ] at hu; omega) (by omega) (by omega)
      refine ⟨?_, fun h => by omega⟩
      rw [i1]
      obtain ⟨f, hf⟩ : ∃ f, F - (dgs (k + 1) (u / 10)).length = f + 1 := ⟨F - (dgs (k + 1) (u / 10)).length - 1, by omega⟩
      have hg := gb_at0 (dgs (k + 1) (u / 10)) (UInt8.ofNat (48 + u % 10)) rest
      rw [dg_toNat _ (by omega)] at hg
      have hlt : (dgs (k + 1) (u / 10)).length < (mk (dgs (k + 1) (u / 10) ++ UInt8.ofNat (48 + u % 10) :: rest)).size := by rw [mk_size, List.length_append, List.length_cons]; omega
      have hd : dgB (mk (dgs (k + 1) (u / 10) ++ UInt8.ofNat (48 + u % 10) :: rest)) (dgs (k + 1) (u / 10)).length = true := dg_iff.2 ⟨hlt, by omega, by omega⟩
      rw [hf, wlC, if_pos hd, if_neg (show ¬ ((dgs (k + 1) (u / 10)).length = 1 ∧ gb (mk (dgs (k + 1) (u / 10) ++ UInt8.ofNat (48 + u % 10) :: rest)) 0 = 48) from fun h => by have := i2 h.1; have := h.2; omega), hg,
        show min (10 * ((u / 10 : Nat) : Int) + (((48 + u % 10 : Nat) : Int) - 48)) huge = (u : Int) by show min _ (1125899906842624 : Int) = _; omega,
        show F - ((dgs (k + 1) (u / 10)).length + 1) = f by omega]
/-- a row of bytes that does not go on a number -/
def Ends (l : List UInt8) : Prop := ∀ c r, l = c :: r → ¬ (48 ≤ c.toNat ∧ c.toNat ≤ 57)
theorem no_dg (pre rest : List UInt8) (hr : Ends rest) : dgB (mk (pre ++ rest)) pre.length = false := by
  rw [Bool.eq_false_iff]
  intro h
  obtain ⟨h1, h2, h3⟩ := dg_iff.1 h
  cases rest with
  | nil => rw [mk_size, List.append_nil] at h1; omega
  | cons c r =>
    rw [gb_at0] at h2 h3
    exact hr c r rfl ⟨by omega, by omega⟩
theorem wl_num (u : Nat) (rest : List UInt8) (hu : u ≤ 1125899906842624) (hr : Ends rest) : wlC (mk (dgs 20 u ++ rest)) ((mk (dgs 20 u ++ rest)).size + 1) 0 0 = ((u : Int), (dgs 20 u).length, 0) := by
  have hs : (mk (dgs 20 u ++ rest)).size = (dgs 20 u).length + rest.length := by rw [mk_size, List.length_append]
  have hp : 1 ≤ (dgs 20 u).length := dgs_pos 19 u
  have hw : wlC (mk (dgs 20 u ++ rest)) ((mk (dgs 20 u ++ rest)).size + 1) 0 0 = wlC (mk (dgs 20 u ++ rest)) ((mk (dgs 20 u ++ rest)).size + 1 - (dgs 20 u).length) (u : Int) (dgs 20 u).length :=
    (wl_dgs 19 u rest ((mk (dgs 20 u ++ rest)).size + 1) (by omega) hu (show (dgs 20 u).length ≤ (mk (dgs 20 u ++ rest)).size + 1 by omega)).1
  rw [hw]
  obtain ⟨f, hf⟩ : ∃ f, (mk (dgs 20 u ++ rest)).size + 1 - (dgs 20 u).length = f + 1 := ⟨(mk (dgs 20 u ++ rest)).size - (dgs 20 u).length, by omega⟩
  rw [hf, wlC, no_dg _ _ hr, if_neg (show ¬ false = true by decide), if_neg (show ¬ (dgs 20 u).length = 0 by omega)]
theorem par_num (u : Nat) (rest : List UInt8) (hu : u ≤ 1125899906842624) (hr : Ends rest) (h46 : ∀ r, rest ≠ 46 :: r) (many : Nat) (sf : Nat → Int × Nat × Int) : parC (mk (dgs 20 u ++ rest)) many sf = tailC u 0 (sf (dgs 20 u).length) := by
  have hw := wl_num u rest hu hr
  rw [parC_pt (by rw [hw]), hw]
  have hp : ptC (mk (dgs 20 u ++ rest)) many (dgs 20 u).length = (0, (dgs 20 u).length, 0) := by
    unfold ptC
    rw [if_neg]
    rintro ⟨h1, h2⟩
    cases rest with
    | nil => rw [mk_size, List.append_nil] at h1; omega
    | cons c r =>
      rw [gb_at0] at h2
      exact h46 r (by rw [show c = 46 from UInt8.toNat_inj.1 (by show c.toNat = 46; omega)])
  dsimp only
  rw [hp, if_pos rfl]
theorem par_pt (u : Nat) (rest : List UInt8) (hu : u ≤ 1125899906842624) (many : Nat) (sf : Nat → Int × Nat × Int) (m : Int) (q c : Nat) (hc : c ≠ 0)
    (hpl : plC (mk (dgs 20 u ++ 46 :: rest)) many ((mk (dgs 20 u ++ 46 :: rest)).size + 1) 0 ((dgs 20 u).length + 1) 0 = (m, q, c)) : parC (mk (dgs 20 u ++ 46 :: rest)) many sf = tailC u (m * ten (many - c)) (sf q) := by
  have hw := wl_num u (46 :: rest) hu (fun c r h => by injection h with h1 h2; subst h1; decide)
  rw [parC_pt (by rw [hw]), hw]
  have hp : ptC (mk (dgs 20 u ++ 46 :: rest)) many (dgs 20 u).length = (m * ten (many - c), q, 0) := by
    unfold ptC
    rw [if_pos ⟨by rw [mk_size, List.length_append, List.length_cons]; omega, by rw [gb_at0]; rfl⟩, hpl]
    unfold finC
    rw [if_neg hc]
  dsimp only
  rw [hp, if_pos rfl]
theorem sf_mk (pre s : List UInt8) (v : Int) (h : (s, v) ∈ ([([], 1000), ([109], 1), ([107], 1000000), ([77], 1000000000), ([71], 1000000000000), ([75, 105], 1024000), ([77, 105], 1048576000), ([71, 105], 1073741824000)] : List (List UInt8 × Int))) : sfC (mk (pre ++ s)) pre.length = (v, pre.length + s.length, 0) := by
  simp only [List.mem_cons, List.not_mem_nil, or_false, Prod.mk.injEq] at h
  have e1 : ∀ c : UInt8, sfC (mk (pre ++ [c])) pre.length = if gb (mk (pre ++ [c])) pre.length = 109 then (1, pre.length + 1, 0) else if gb (mk (pre ++ [c])) pre.length = 107 then (1000000, pre.length + 1, 0) else if gb (mk (pre ++ [c])) pre.length = 75 then (0, pre.length + 1, 3) else if gb (mk (pre ++ [c])) pre.length = 77 then (1000000000, pre.length + 1, 0) else if gb (mk (pre ++ [c])) pre.length = 71 then (1000000000000, pre.length + 1, 0) else (0, pre.length, 4) := by
    intro c
    have hs : (mk (pre ++ [c])).size = pre.length + 1 := by rw [mk_size, List.length_append, List.length_singleton]
    unfold sfC
    simp only [hs, Nat.lt_irrefl, false_and, if_false, show pre.length < pre.length + 1 by omega, if_true]
  have e2 : ∀ c : UInt8, (c.toNat = 75 ∨ c.toNat = 77 ∨ c.toNat = 71) → sfC (mk (pre ++ [c, 105])) pre.length = if c.toNat = 75 then (1024000, pre.length + 2, 0) else if c.toNat = 77 then (1048576000, pre.length + 2, 0) else (1073741824000, pre.length + 2, 0) := by
    intro c hc
    have hs : (mk (pre ++ [c, 105])).size = pre.length + 2 := by rw [mk_size, List.length_append]; rfl
    have g0 := gb_at0 pre c [105]
    have g1 := gb_at1 pre c 105 []
    have hlt : pre.length < (mk (pre ++ [c, 105])).size := by omega
    have hi : pre.length + 1 < (mk (pre ++ [c, 105])).size ∧ gb (mk (pre ++ [c, 105])) (pre.length + 1) = 105 := ⟨by omega, g1⟩
    have hn : ¬ pre.length + 2 < (mk (pre ++ [c, 105])).size := by omega
    rcases hc with hc | hc | hc
    · rw [sf75 hlt (by rw [g0, hc]; rfl), if_pos hi, if_neg hn, if_pos hc]
    · rw [sf77 hlt (by rw [g0, hc]; rfl), if_pos hi, if_neg hn, if_neg (by omega), if_pos hc]
    · rw [sf71 hlt (by rw [g0, hc]; rfl), if_pos hi, if_neg hn, if_neg (by omega), if_neg (by omega)]
  rcases h with ⟨rfl, rfl⟩ | ⟨rfl, rfl⟩ | ⟨rfl, rfl⟩ | ⟨rfl, rfl⟩ | ⟨rfl, rfl⟩ | ⟨rfl, rfl⟩ | ⟨rfl, rfl⟩ | ⟨rfl, rfl⟩
  · have hs : (mk (pre ++ [])).size = pre.length := by rw [mk_size, List.append_nil]
    unfold sfC
    rw [if_neg (by omega)]
    rfl
  · rw [e1, gb_at0]; rfl
  · rw [e1, gb_at0]; rfl
  · rw [e1, gb_at0]; rfl
  · rw [e1, gb_at0]; rfl
  · rw [e2 75 (by decide)]; rfl
  · rw [e2 77 (by decide)]; rfl
  · rw [e2 71 (by decide)]; rfl
theorem over_lo (a u : Int) (hu : u = 1000 ∨ u = 1000000) (h0 : 0 ≤ a) (h1 : a < 18446744073709551616) : overS a u = if 1099511627776 * u < a then (0, 0, 10) else if a % u ≠ 0 then (0, 0, 4) else (a / u, 0, 0) := by
  have e : a / 18446744073709551616 = 0 := by omega
  have e2 : a % 18446744073709551616 = a := by omega
  unfold overS
  rw [e, e2, if_neg (show ¬ u ≤ 0 by omega), show divP 0 a u = (a / u, a % u) from if_pos rfl]
  dsimp only
  rcases hu with rfl | rfl
  · by_cases c1 : 1099511627776 * 1000 < a
    · rw [if_pos c1, if_pos (by omega)]
    · rw [if_neg c1, if_neg (by omega)]
      by_cases c2 : a % 1000 = 0
      · rw [if_neg (show ¬ a % 1000 ≠ 0 from fun h => h c2), if_neg (by omega)]
      · rw [if_pos c2, if_pos (by omega)]
  · by_cases c1 : 1099511627776 * 1000000 < a
    · rw [if_pos c1, if_pos (by omega)]
    · rw [if_neg c1, if_neg (by omega)]
      by_cases c2 : a % 1000000 = 0
      · rw [if_neg (show ¬ a % 1000000 ≠ 0 from fun h => h c2), if_neg (by omega)]
      · rw [if_pos c2, if_pos (by omega)]
end Go.Proofs.YtceepgleeelohaaDoor.P
/- What was printed is read as it was. -/
namespace Go.Proofs.YtceepgleeelohaaDoor.P
set_option linter.unusedVariables false
set_option linter.unusedSimpArgs false
open Go.RowKit Go.Proofs.YtceepgleeelohaaDoorW.PrintWords Go.Proofs.YtceepgleeelohaaDoorW.PrintLast Go.Proofs.YtceepgleeelohaaDoorW.PrintMore
abbrev sufsL : List (List UInt8 × Int) := [([], 1000), ([109], 1), ([107], 1000000), ([77], 1000000000), ([71], 1000000000000), ([75, 105], 1024000), ([77, 105], 1048576000), ([71, 105], 1073741824000)]
theorem suf_ends (s : List UInt8) (v : Int) (h : (s, v) ∈ sufsL) : Ends s ∧ (∀ r, s ≠ 46 :: r) ∧ 0 ≤ v ∧ v ≤ 1073741824000 := by
  unfold Ends
  simp only [sufsL, List.mem_cons, List.not_mem_nil, or_false, Prod.mk.injEq] at h
  rcases h with ⟨rfl, rfl⟩ | ⟨rfl, rfl⟩ | ⟨rfl, rfl⟩ | ⟨rfl, rfl⟩ | ⟨rfl, rfl⟩ | ⟨rfl, rfl⟩ | ⟨rfl, rfl⟩ | ⟨rfl, rfl⟩
  · exact ⟨(fun c r h => by cases h), (fun r h => by cases h), by decide, by decide⟩
  all_goals exact ⟨(fun c r h => by injection h with h1 h2; subst h1; decide), (fun r h => by injection h with h1 h2; exact absurd h1 (by decide)), by decide, by decide⟩
theorem back_num (u : Nat) (hu : u ≤ 1125899906842624) (s : List UInt8) (v : Int) (h : (s, v) ∈ sufsL) (milli : Bool) : parseS (mk (dgs 20 u ++ s)) milli = overS (1000 * (u : Int) * v) (unitI milli) := by
  obtain ⟨h1, h2, _⟩ := suf_ends s v h
  rw [parse_par, par_num u s hu h1 h2, sf_mk _ s v h]
  show overS ((1000 * (u : Int) + 0) * v) (unitI milli) = _
  rw [Int.add_zero]
theorem itoa_mk (n : Int) (h : 0 ≤ n) : itoaK n = mk (dgs 20 n.toNat) := by
  unfold itoaK
  rw [if_neg (by omega)]
theorem print_back (x : Int) (milli : Bool) (h0 : 0 ≤ x) (h1 : x ≤ 1099511627776) : (printS x milli).2 = 0 ∧ (printS x milli).1.size ≤ 1000 ∧ parseS (printS x milli).1 milli = (x, 0, 0) := by
  unfold printS
  rw [if_neg (by omega)]
  have hlen : ∀ n : Nat, (dgs 20 n).length ≤ 20 := fun n => dgs_len 20 n
  cases milli with
  | true =>
    rw [if_pos rfl]
    refine ⟨rfl, ?_⟩
    dsimp only
    unfold printM
    by_cases hm : Int.tmod x 1000 = 0
    · rw [Int.tmod_eq_emod_of_nonneg h0] at hm
      rw [if_pos (by rw [Int.tmod_eq_emod_of_nonneg h0]; exact hm), Int.tdiv_eq_ediv_of_nonneg h0, itoa_mk _ (by omega)]
      constructor
      · rw [mk_size]; have := hlen (x / 1000).toNat; omega
      · have := back_num (x / 1000).toNat (by omega) [] 1000 (by decide) true
        rw [List.append_nil] at this
        rw [this, show (1000 * (((x / 1000).toNat : Nat) : Int) * 1000) = x * 1000 by omega, show unitI true = 1000 from rfl, over_lo (x * 1000) 1000 (Or.inl rfl) (by omega) (by omega), if_neg (by omega), if_neg (by omega), show x * 1000 / 1000 = x by omega]
    · rw [if_neg hm, itoa_mk _ h0, show (⟨#[109]⟩ : ByteArray) = mk [109] from rfl, mk_app]
      constructor
      · rw [mk_size, List.length_append]; have := hlen x.toNat; simp only [List.length_singleton]; omega
      · rw [back_num x.toNat (by omega) [109] 1 (by decide) true, show 1000 * ((x.toNat : Nat) : Int) * 1 = x * 1000 by omega, show unitI true = 1000 from rfl, over_lo (x * 1000) 1000 (Or.inl rfl) (by omega) (by omega), if_neg (by omega), if_neg (by omega), show x * 1000 / 1000 = x by omega]
  | false =>
    rw [if_neg (show ¬ false = true by decide)]
    refine ⟨rfl, ?_⟩
    dsimp only
    unfold printG
    rw [Int.tmod_eq_emod_of_nonneg h0, Int.tmod_eq_emod_of_nonneg h0, Int.tmod_eq_emod_of_nonneg h0, Int.tdiv_eq_ediv_of_nonneg h0, Int.tdiv_eq_ediv_of_nonneg h0, Int.tdiv_eq_ediv_of_nonneg h0]
    have fin : ∀ a : Int, a = x * 1000000 → overS a (unitI false) = (x, 0, 0) := by
      intro a ha
      subst ha
      rw [show unitI false = 1000000 from rfl, over_lo (x * 1000000) 1000000 (Or.inr rfl) (by omega) (by omega), if_neg (by omega), if_neg (by omega), show x * 1000000 / 1000000 = x by omega]
    by_cases c1 : 0 < x ∧ x % 1073741824 = 0
    · rw [if_pos c1, itoa_mk _ (by omega), show (⟨#[71, 105]⟩ : ByteArray) = mk [71, 105] from rfl, mk_app]
      constructor
      · rw [mk_size, List.length_append]; have := hlen (x / 1073741824).toNat; show _ + 2 ≤ 1000; omega
      · rw [back_num (x / 1073741824).toNat (by omega) [71, 105] 1073741824000 (by decide) false]
        exact fin _ (by omega)
    rw [if_neg c1]
    by_cases c2 : 0 < x ∧ x % 1048576 = 0
    · rw [if_pos c2, itoa_mk _ (by omega), show (⟨#[77, 105]⟩ : ByteArray) = mk [77, 105] from rfl, mk_app]
      constructor
      · rw [mk_size, List.length_append]; have := hlen (x / 1048576).toNat; show _ + 2 ≤ 1000; omega
      · rw [back_num (x / 1048576).toNat (by omega) [77, 105] 1048576000 (by decide) false]
        exact fin _ (by omega)
    rw [if_neg c2]
    by_cases c3 : 0 < x ∧ x % 1024 = 0
    · rw [if_pos c3, itoa_mk _ (by omega), show (⟨#[75, 105]⟩ : ByteArray) = mk [75, 105] from rfl, mk_app]
      constructor
      · rw [mk_size, List.length_append]; have := hlen (x / 1024).toNat; show _ + 2 ≤ 1000; omega
      · rw [back_num (x / 1024).toNat (by omega) [75, 105] 1024000 (by decide) false]
        exact fin _ (by omega)
    rw [if_neg c3, itoa_mk _ h0]
    constructor
    · rw [mk_size]; have := hlen x.toNat; omega
    · have := back_num x.toNat (by omega) [] 1000 (by decide) false
      rw [List.append_nil] at this
      rw [this]
      exact fin _ (by omega)
theorem dgs_one (d : Nat) (h : d < 10) : dgs 20 d = [UInt8.ofNat (48 + d)] := if_pos h
theorem pcC_at (pre : List UInt8) : pcC (mk (pre ++ [37])) pre.length = (0, pre.length + 1, 0) := by
  have hs : (mk (pre ++ [37])).size = pre.length + 1 := by rw [mk_size, List.length_append, List.length_singleton]
  unfold pcC
  rw [if_pos (by omega), if_pos (by rw [gb_at0]; rfl), if_neg (by omega)]
theorem pct_back (x : Int) (h0 : 0 ≤ x) (h1 : x ≤ 1000) : (pctP x).2 = 0 ∧ (pctP x).1.size ≤ 1000 ∧ pctS (pctP x).1 = (x, 0, 0) := by
  have hlen : ∀ n : Nat, (dgs 20 n).length ≤ 20 := fun n => dgs_len 20 n
  unfold pctP
  rw [if_neg (by omega), Int.tmod_eq_emod_of_nonneg h0, Int.tdiv_eq_ediv_of_nonneg h0]
  by_cases hm : x % 10 = 0
  · rw [if_pos hm, itoa_mk _ (by omega), show (⟨#[37]⟩ : ByteArray) = mk [37] from rfl, mk_app]
    refine ⟨rfl, ?_, ?_⟩
    · dsimp only; rw [mk_size, List.length_append]; have := hlen (x / 10).toNat; simp only [List.length_singleton]; omega
    · dsimp only
      rw [pct_par, par_num (x / 10).toNat [37] (by omega) (fun c r h => by injection h with h1 h2; subst h1; decide) (fun r h => by injection h with h1 h2; exact absurd h1 (by decide)), pcC_at]
      show (if (0 : Int) = 0 then (if 1000 < 10 * (((x / 10).toNat : Nat) : Int) + 0 then ((0 : Int), (0 : Int), (10 : Int)) else (10 * (((x / 10).toNat : Nat) : Int) + 0, 0, 0)) else _) = (x, 0, 0)
      rw [if_pos rfl, if_neg (by omega), show 10 * (((x / 10).toNat : Nat) : Int) + 0 = x by omega]
  · rw [if_neg hm, itoa_mk _ (by omega), itoa_mk _ (by omega), dgs_one (x % 10).toNat (by omega), show (⟨#[37]⟩ : ByteArray) = mk [37] from rfl, show (⟨#[46]⟩ : ByteArray) = mk [46] from rfl, mk_app, mk_app, mk_app, List.append_assoc, List.append_assoc]
    refine ⟨rfl, ?_, ?_⟩
    · dsimp only; rw [mk_size, List.length_append]; have := hlen (x / 10).toNat; show _ + 3 ≤ 1000; omega
    · dsimp only
      obtain ⟨d, hd⟩ : ∃ d, (x % 10).toNat = d := ⟨_, rfl⟩
      have hd10 : d < 10 := by omega
      rw [hd]
      show pctS (mk (dgs 20 (x / 10).toNat ++ 46 :: UInt8.ofNat (48 + d) :: [37])) = (x, 0, 0)
      obtain ⟨L, hL⟩ : ∃ L, dgs 20 (x / 10).toNat = L := ⟨_, rfl⟩
      have hs : (mk (L ++ 46 :: UInt8.ofNat (48 + d) :: [37])).size = L.length + 3 := by rw [mk_size, List.length_append]; rfl
      have g1 := gb_at1 L 46 (UInt8.ofNat (48 + d)) [37]
      rw [dg_toNat d hd10] at g1
      have hpl : plC (mk (L ++ 46 :: UInt8.ofNat (48 + d) :: [37])) 1 ((mk (L ++ 46 :: UInt8.ofNat (48 + d) :: [37])).size + 1) 0 (L.length + 1) 0 = ((d : Int), L.length + 2, 1) := by
        rw [hs, plC, if_pos ⟨dg_iff.2 ⟨by omega, by omega, by omega⟩, by decide⟩, g1, plC, if_neg (fun h => absurd h.2 (by decide))]
        rw [show 10 * (0 : Int) + (((48 + d : Nat) : Int) - 48) = (d : Int) by omega]
      rw [pct_par, par_pt (x / 10).toNat (UInt8.ofNat (48 + d) :: [37]) (by omega) 1 (pcC _) (d : Int) (L.length + 2) 1 (by decide) (by rw [hL]; exact hpl), hL]
      have hp : pcC (mk (L ++ 46 :: UInt8.ofNat (48 + d) :: [37])) (L.length + 2) = (0, L.length + 2 + 1, 0) := by
        have := pcC_at (L ++ [46, UInt8.ofNat (48 + d)])
        rw [List.append_assoc, List.length_append] at this
        exact this
      rw [hp]
      show (if (0 : Int) = 0 then (if 1000 < 10 * (((x / 10).toNat : Nat) : Int) + (d : Int) * ten 0 then ((0 : Int), (0 : Int), (10 : Int)) else (10 * (((x / 10).toNat : Nat) : Int) + (d : Int) * ten 0, 0, 0)) else _) = (x, 0, 0)
      rw [show ten 0 = 1 from rfl, if_pos rfl, if_neg (by omega), show 10 * (((x / 10).toNat : Nat) : Int) + (d : Int) * 1 = x by omega]
/-- what Parse answers, roughly -/
theorem parse_any (t : ByteArray) (milli : Bool) : ((parseS t milli).2.2 = 0 ∧ 0 ≤ (parseS t milli).1 ∧ (parseS t milli).1 ≤ 1099511627776) ∨ ((parseS t milli).2.2 ≠ 0 ∧ (parseS t milli).1 = 0 ∧ 0 ≤ (parseS t milli).2.1 ∧ (parseS t milli).2.1 ≤ (t.size : Int)) := by
  have hu : unitI milli = 1000 ∨ unitI milli = 1000000 := by cases milli <;> decide
  rw [parse_par]
  by_cases he : (parC t 3 (sfC t)).e = 0
  · rw [if_pos he]
    have h0 := par_bd t he
    generalize (1000 * (parC t 3 (sfC t)).n + (parC t 3 (sfC t)).f) * (parC t 3 (sfC t)).s = a at h0
    unfold overS
    by_cases c1 : unitI milli ≤ a / 18446744073709551616
    · rw [if_pos c1]
      exact Or.inr ⟨by decide, rfl, Int.le_refl 0, (show (0 : Int) ≤ (t.size : Int) by omega)⟩
    rw [if_neg c1]
    have hnn := divP_nn (a / 18446744073709551616) (a % 18446744073709551616) (unitI milli) hu (by omega) (by omega) (by omega) (by omega)
    generalize divP (a / 18446744073709551616) (a % 18446744073709551616) (unitI milli) = qr at hnn
    by_cases c2 : 1099511627776 < qr.1 ∨ qr.1 = 1099511627776 ∧ 0 < qr.2
    · rw [if_pos c2]
      exact Or.inr ⟨by decide, rfl, Int.le_refl 0, (show (0 : Int) ≤ (t.size : Int) by omega)⟩
    rw [if_neg c2]
    by_cases c3 : 0 < qr.2
    · rw [if_pos c3]
      exact Or.inr ⟨by decide, rfl, Int.le_refl 0, (show (0 : Int) ≤ (t.size : Int) by omega)⟩
    · rw [if_neg c3]
      exact Or.inl ⟨rfl, hnn.1, by dsimp only; omega⟩
  · rw [if_neg he]
    have hle := par_le t 3 (sfC t) (fun p hp => sf_le t p hp)
    exact Or.inr ⟨he, rfl, by dsimp only; omega, by dsimp only; omega⟩
end Go.Proofs.YtceepgleeelohaaDoor.P
