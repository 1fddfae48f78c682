import Derived.Test.YtkpoipjgbdcdjaaDoorHq6
import Derived.Lib.ValidLaws
/- Where a text is wrong, and what may stand ahead of that. -/
namespace Go.Proofs.YtkpoipjgbdcdjaaDoor.P
set_option linter.unusedVariables false
set_option linter.unusedSimpArgs false
open Go.RowKit Go.Proofs.YtkpoipjgbdcdjaaDoorW.PrintWords Go.Proofs.YtkpoipjgbdcdjaaDoorW.PrintLast Go.Proofs.YtkpoipjgbdcdjaaDoorW.PrintMore
theorem mk_self (t : ByteArray) : mk t.data.toList = t := by
  apply ByteArray.ext
  show t.data.toList.toArray = t.data
  simp
theorem size_list (t : ByteArray) : t.data.toList.length = t.size := by
  show t.data.toList.length = t.data.size
  exact Array.length_toList
/-- what stands ahead of a byte, and more behind it -/
def ahead (t : ByteArray) (q : Nat) (m : List UInt8) : ByteArray := t.extract 0 q ++ mk m
theorem ahead_mk (t : ByteArray) (q : Nat) (m : List UInt8) : ahead t q m = mk (t.data.toList.take q ++ m) := by
  unfold ahead
  apply ByteArray.ext
  rw [ByteArray.data_append, ByteArray.data_extract]
  show t.data.extract 0 q ++ m.toArray = (t.data.toList.take q ++ m).toArray
  apply Array.ext'
  simp
theorem ahead_size (t : ByteArray) (q : Nat) (m : List UInt8) (hq : q ≤ t.size) : (ahead t q m).size = q + m.length := by
  rw [ahead_mk, mk_size, List.length_append, List.length_take, size_list]
  omega
theorem ahead_lo (t : ByteArray) (q : Nat) (m : List UInt8) (hq : q ≤ t.size) (p : Nat) (hp : p < q) : gb (ahead t q m) p = gb t p := by
  have hl := size_list t
  have e : gb t p = gb (mk t.data.toList) p := by rw [mk_self]
  rw [ahead_mk, e, gb_mk _ p (by rw [List.length_append, List.length_take]; omega), gb_mk _ p (by omega), List.getElem_append_left (by rw [List.length_take]; omega), List.getElem_take]
theorem ahead_hi (t : ByteArray) (q : Nat) (m : List UInt8) (hq : q ≤ t.size) (i : Nat) (hi : i < m.length) : gb (ahead t q m) (q + i) = (m[i].toNat : Int) := by
  have hl : (t.data.toList.take q).length = q := by rw [List.length_take, size_list]; omega
  rw [ahead_mk, gb_mk _ (q + i) (by rw [List.length_append, hl]; omega), List.getElem_append_right (by omega)]
  simp only [hl, Nat.add_sub_cancel_left]
/-- two texts agree so far -/
def Agree (t t' : ByteArray) (q : Nat) : Prop := q ≤ t'.size ∧ ∀ p, p < q → gb t' p = gb t p
theorem Agree.dg {t t' : ByteArray} {q : Nat} (h : Agree t t' q) {p : Nat} (hp : p < q) (hd : dgB t p = true) : dgB t' p = true := by
  obtain ⟨d1, d2, d3⟩ := dg_iff.1 hd
  have := h.2 p hp
  have := h.1
  exact dg_iff.2 ⟨by omega, by omega, by omega⟩
theorem Agree.less {t t' : ByteArray} {q q' : Nat} (h : Agree t t' q) (hq : q' ≤ q) : Agree t t' q' := ⟨Nat.le_trans hq h.1, fun p hp => h.2 p (by omega)⟩
theorem wl_step (t : ByteArray) (k : Nat) (n : Int) (p : Nat) : wlC t (k + 1) n p = if dgB t p = true then (if p = 1 ∧ gb t 0 = 48 then (0, 1, 4) else wlC t k (min (10 * n + (gb t p - 48)) huge) (p + 1)) else if p = 0 then (0, 0, if t.size = 0 then 3 else 4) else (n, p, 0) := rfl
theorem pl_step (t : ByteArray) (many k : Nat) (m : Int) (p c : Nat) : plC t many (k + 1) m p c = if dgB t p = true ∧ c < many then plC t many k (10 * m + (gb t p - 48)) (p + 1) (c + 1) else (m, p, c) := rfl
/-- how the number's digits end -/
theorem wl_main (t : ByteArray) : ∀ (k : Nat) (n : Int) (p : Nat), t.size < k + p → p ≤ t.size → (∀ i, i < p → dgB t i = true) →
    (wlC t k n p = (0, 1, 4) ∧ 1 ≤ t.size ∧ gb t 0 = 48) ∨ wlC t k n p = (0, 0, if t.size = 0 then 3 else 4) ∨
    ((wlC t k n p).2.2 = 0 ∧ (wlC t k n p).2.1 ≠ 0 ∧ p ≤ (wlC t k n p).2.1 ∧ (wlC t k n p).2.1 ≤ t.size ∧ (∀ i, i < (wlC t k n p).2.1 → dgB t i = true) ∧
      ∀ t' k', Agree t t' (wlC t k n p).2.1 → dgB t' (wlC t k n p).2.1 = false → t'.size < k' + p → wlC t' k' n p = wlC t k n p)
  | 0, n, p, h, hp, _ => by omega
  | k + 1, n, p, h, hp, hall => by
    rw [wl_step]
    by_cases hd : dgB t p = true
    · obtain ⟨d1, d2, d3⟩ := dg_iff.1 hd
      rw [if_pos hd]
      by_cases hz : p = 1 ∧ gb t 0 = 48
      · rw [if_pos hz]
        exact Or.inl ⟨rfl, by omega, hz.2⟩
      · rw [if_neg hz]
        rcases wl_main t k (min (10 * n + (gb t p - 48)) huge) (p + 1) (by omega) (by omega) (fun i hi => by
          rcases Nat.lt_or_ge i p with h1 | h1
          · exact hall i h1
          · obtain rfl : i = p := by omega
            exact hd) with r | r | ⟨r1, r2, r3, r4, r5, r6⟩
        · exact Or.inl r
        · exact Or.inr (Or.inl r)
        · refine Or.inr (Or.inr ⟨r1, r2, by omega, r4, r5, ?_⟩)
          intro t' k' ha hdn hk
          have ha0 := ha.2 0 (by omega)
          have hap := ha.2 p (by omega)
          have := ha.1
          obtain ⟨j, rfl⟩ : ∃ j, k' = j + 1 := ⟨k' - 1, by omega⟩
          rw [wl_step, if_pos (ha.dg (by omega) hd), if_neg (show ¬ (p = 1 ∧ gb t' 0 = 48) from fun h => hz ⟨h.1, by rw [← ha0]; exact h.2⟩), hap]
          exact r6 t' j ha hdn (by omega)
    · rw [if_neg hd]
      by_cases hq : p = 0
      · rw [if_pos hq]
        exact Or.inr (Or.inl rfl)
      · rw [if_neg hq]
        refine Or.inr (Or.inr ⟨rfl, hq, Nat.le_refl _, hp, hall, ?_⟩)
        intro t' k' ha hdn hk
        have := ha.1
        dsimp only at hdn this
        obtain ⟨j, rfl⟩ : ∃ j, k' = j + 1 := ⟨k' - 1, by omega⟩
        rw [wl_step, hdn, if_neg (show ¬ false = true by decide), if_neg hq]
/-- how the digits behind a point end -/
theorem pl_main (t : ByteArray) (many : Nat) : ∀ (k : Nat) (m : Int) (p c : Nat), t.size < k + p → p ≤ t.size → c ≤ many →
    p ≤ (plC t many k m p c).2.1 ∧ (plC t many k m p c).2.1 ≤ t.size ∧ (plC t many k m p c).2.1 + c = p + (plC t many k m p c).2.2 ∧ (∀ i, p ≤ i → i < (plC t many k m p c).2.1 → dgB t i = true) ∧
      ∀ t' k', Agree t t' (plC t many k m p c).2.1 → dgB t' (plC t many k m p c).2.1 = false → t'.size < k' + p → plC t' many k' m p c = plC t many k m p c
  | 0, m, p, c, h, hp, _ => by omega
  | k + 1, m, p, c, h, hp, hc => by
    rw [pl_step]
    by_cases hd : dgB t p = true ∧ c < many
    · obtain ⟨d1, d2, d3⟩ := dg_iff.1 hd.1
      rw [if_pos hd]
      obtain ⟨r1, r2, r3, r4, r5⟩ := pl_main t many k (10 * m + (gb t p - 48)) (p + 1) (c + 1) (by omega) (by omega) (by omega)
      refine ⟨by omega, r2, by omega, ?_, ?_⟩
      · intro i h1 h2
        rcases Nat.eq_or_lt_of_le h1 with h3 | h3
        · subst h3; exact hd.1
        · exact r4 i h3 h2
      · intro t' k' ha hdn hk
        have hap := ha.2 p (by omega)
        have := ha.1
        obtain ⟨j, rfl⟩ : ∃ j, k' = j + 1 := ⟨k' - 1, by omega⟩
        rw [pl_step, if_pos (show dgB t' p = true ∧ c < many from ⟨ha.dg (by omega) hd.1, hd.2⟩), hap]
        exact r5 t' j ha hdn (by omega)
    · rw [if_neg hd]
      refine ⟨Nat.le_refl _, hp, rfl, fun i h1 h2 => by have h2' : i < p := h2; omega, ?_⟩
      intro t' k' ha hdn hk
      have := ha.1
      dsimp only at hdn this
      obtain ⟨j, rfl⟩ : ∃ j, k' = j + 1 := ⟨k' - 1, by omega⟩
      rw [pl_step, if_neg (show ¬ (dgB t' p = true ∧ c < many) from fun h => by rw [hdn] at h; cases h.1)]
/-- what is wrong with a text -/
structure Bad (t : ByteArray) (q : Nat) (e : Int) : Prop where
  le : q ≤ t.size
  asc : ∀ i, i < q → gb t i < 128
  code : (e = 3 ∧ q = t.size) ∨ e = 4
  goes : q = 0 ∨ ∃ m ∈ ([[], [48], [105], [49]] : List (List UInt8)), (parC (ahead t q m) 3 (sfC (ahead t q m))).e = 0
/-- all is read but the suffix -/
structure Pre (t : ByteArray) (q : Nat) : Prop where
  le : q ≤ t.size
  asc : ∀ i, i < q → gb t i < 128
  goes : ∃ n f, ∀ t', Agree t t' q → (q < t'.size → ¬ (48 ≤ gb t' q ∧ gb t' q ≤ 57) ∧ gb t' q ≠ 46) → parC t' 3 (sfC t') = tailC n f (sfC t' q)
set_option maxHeartbeats 3200000 in
theorem pre_bad {t : ByteArray} {q : Nat} (h : Pre t q) (he : (sfC t q).2.2 ≠ 0) : Bad t (sfC t q).2.1 (sfC t q).2.2 := by
  obtain ⟨n, f, hg⟩ := h.goes
  have hle := h.le
  have hasc := h.asc
  have fin : ∀ r m, q ≤ r → r ≤ t.size → m ∈ ([[], [48], [105], [49]] : List (List UInt8)) → (q < (ahead t r m).size → ¬ (48 ≤ gb (ahead t r m) q ∧ gb (ahead t r m) q ≤ 57) ∧ gb (ahead t r m) q ≠ 46) → (sfC (ahead t r m) q).2.2 = 0 → ∃ m ∈ ([[], [48], [105], [49]] : List (List UInt8)), (parC (ahead t r m) 3 (sfC (ahead t r m))).e = 0 := by
    intro r m h1 h2 hm h3 h4
    refine ⟨m, hm, ?_⟩
    have hs := ahead_size t r m h2
    rw [hg (ahead t r m) ⟨by omega, fun p hp => ahead_lo t r m h2 p (by omega)⟩ h3]
    unfold tailC
    rw [if_pos h4]
  have up1 : ∀ r, q < t.size → r = q + 1 → gb t q < 128 → ∀ i, i < r → gb t i < 128 := by
    intro r h1 h2 h3 i hi
    rcases Nat.lt_or_ge i q with h4 | h4
    · exact hasc i h4
    · obtain rfl : i = q := by omega
      exact h3
  have up2 : ∀ r, r = q + 2 → gb t q < 128 → gb t (q + 1) < 128 → ∀ i, i < r → gb t i < 128 := by
    intro r h2 h3 h3' i hi
    rcases Nat.lt_or_ge i q with h4 | h4
    · exact hasc i h4
    · by_cases h5 : i = q
      · subst h5; exact h3
      · obtain rfl : i = q + 1 := by omega
        exact h3'
  rcases Nat.lt_or_ge q t.size with hlt | hge
  rotate_left
  · exfalso
    apply he
    unfold sfC
    rw [if_neg (by omega)]
  have one : ∀ v : Int, gb t q < 128 → ¬ (48 ≤ gb t q ∧ gb t q ≤ 57) → gb t q ≠ 46 → (∀ t', q < t'.size → ¬ q + 1 < t'.size → gb t' q = gb t q → sfC t' q = (v, q + 1, 0)) → Bad t (q + 1) 4 := by
    intro v h1 h2 h3 h4
    have hs := ahead_size t (q + 1) [] (by omega)
    have hl := ahead_lo t (q + 1) [] (by omega) q (by omega)
    refine ⟨by omega, up1 _ hlt rfl h1, Or.inr rfl, Or.inr (fin (q + 1) [] (by omega) (by omega) (by simp) (fun _ => by rw [hl]; exact ⟨h2, h3⟩) ?_)⟩
    rw [h4 _ (by rw [hs]; simp) (by rw [hs]; simp) hl]
  have two : ∀ v : Int, q + 1 < t.size → gb t (q + 1) = 105 → gb t q < 128 → ¬ (48 ≤ gb t q ∧ gb t q ≤ 57) → gb t q ≠ 46 → (∀ t', q + 1 < t'.size → ¬ q + 2 < t'.size → gb t' q = gb t q → gb t' (q + 1) = 105 → sfC t' q = (v, q + 2, 0)) → Bad t (q + 2) 4 := by
    intro v h0 h0' h1 h2 h3 h4
    have hs := ahead_size t (q + 2) [] (by omega)
    have hl := ahead_lo t (q + 2) [] (by omega) q (by omega)
    have hl1 := ahead_lo t (q + 2) [] (by omega) (q + 1) (by omega)
    refine ⟨by omega, up2 _ rfl h1 (by omega), Or.inr rfl, Or.inr (fin (q + 2) [] (by omega) (by omega) (by simp) (fun _ => by rw [hl]; exact ⟨h2, h3⟩) ?_)⟩
    rw [h4 _ (by rw [hs]; simp) (by rw [hs]; simp) hl (by rw [hl1, h0'])]
  have d109 : ∀ t', q < t'.size → ¬ q + 1 < t'.size → gb t' q = 109 → sfC t' q = (1, q + 1, 0) := fun t' h1 h2 h3 => by rw [sf109 h1 h3, if_neg h2]
  have d107 : ∀ t', q < t'.size → ¬ q + 1 < t'.size → gb t' q = 107 → sfC t' q = (1000000, q + 1, 0) := fun t' h1 h2 h3 => by rw [sf107 h1 h3, if_neg h2]
  have d77 : ∀ t', q < t'.size → ¬ q + 1 < t'.size → gb t' q = 77 → sfC t' q = (1000000000, q + 1, 0) := fun t' h1 h2 h3 => by rw [sf77 h1 h3, if_neg (fun h => h2 h.1), if_neg h2]
  have d71 : ∀ t', q < t'.size → ¬ q + 1 < t'.size → gb t' q = 71 → sfC t' q = (1000000000000, q + 1, 0) := fun t' h1 h2 h3 => by rw [sf71 h1 h3, if_neg (fun h => h2 h.1), if_neg h2]
  have i75 : ∀ t', q + 1 < t'.size → ¬ q + 2 < t'.size → gb t' q = 75 → gb t' (q + 1) = 105 → sfC t' q = (1024000, q + 2, 0) := fun t' h1 h2 h3 h4 => by rw [sf75 (by omega) h3, if_pos ⟨h1, h4⟩, if_neg h2]
  have i77 : ∀ t', q + 1 < t'.size → ¬ q + 2 < t'.size → gb t' q = 77 → gb t' (q + 1) = 105 → sfC t' q = (1048576000, q + 2, 0) := fun t' h1 h2 h3 h4 => by rw [sf77 (by omega) h3, if_pos ⟨h1, h4⟩, if_neg h2]
  have i71 : ∀ t', q + 1 < t'.size → ¬ q + 2 < t'.size → gb t' q = 71 → gb t' (q + 1) = 105 → sfC t' q = (1073741824000, q + 2, 0) := fun t' h1 h2 h3 h4 => by rw [sf71 (by omega) h3, if_pos ⟨h1, h4⟩, if_neg h2]
  by_cases c1 : gb t q = 109
  · rw [sf109 hlt c1] at he ⊢
    by_cases h1 : q + 1 < t.size
    · rw [if_pos h1] at he ⊢
      exact one 1 (by omega) (by omega) (by omega) (fun t' a b c => d109 t' a b (c.trans c1))
    · rw [if_neg h1] at he
      exact absurd rfl he
  by_cases c2 : gb t q = 107
  · rw [sf107 hlt c2] at he ⊢
    by_cases h1 : q + 1 < t.size
    · rw [if_pos h1] at he ⊢
      exact one 1000000 (by omega) (by omega) (by omega) (fun t' a b c => d107 t' a b (c.trans c2))
    · rw [if_neg h1] at he
      exact absurd rfl he
  by_cases c3 : gb t q = 75
  · rw [sf75 hlt c3] at he ⊢
    by_cases h1 : q + 1 < t.size ∧ gb t (q + 1) = 105
    · rw [if_pos h1] at he ⊢
      by_cases h2 : q + 2 < t.size
      · rw [if_pos h2] at he ⊢
        exact two 1024000 h1.1 h1.2 (by omega) (by omega) (by omega) (fun t' a b c d => i75 t' a b (c.trans c3) d)
      · rw [if_neg h2] at he
        exact absurd rfl he
    · rw [if_neg h1] at he ⊢
      have hs := ahead_size t (q + 1) [105] (by omega)
      have hl := ahead_lo t (q + 1) [105] (by omega) q (by omega)
      have hh := ahead_hi t (q + 1) [105] (by omega) 0 (by simp)
      have hg := fin (q + 1) [105] (by omega) (by omega) (by simp) (fun _ => by rw [hl]; omega) (by rw [i75 _ (by rw [hs]; simp) (by rw [hs]; simp) (hl.trans c3) hh])
      by_cases h2 : q + 1 < t.size
      · rw [if_pos h2] at he ⊢
        exact ⟨(show q + 1 ≤ t.size by omega), up1 _ hlt rfl (by omega), Or.inr rfl, Or.inr hg⟩
      · rw [if_neg h2] at he ⊢
        exact ⟨(show q + 1 ≤ t.size by omega), up1 _ hlt rfl (by omega), Or.inl ⟨rfl, by show q + 1 = t.size; omega⟩, Or.inr hg⟩
  by_cases c4 : gb t q = 77
  · rw [sf77 hlt c4] at he ⊢
    by_cases h1 : q + 1 < t.size ∧ gb t (q + 1) = 105
    · rw [if_pos h1] at he ⊢
      by_cases h2 : q + 2 < t.size
      · rw [if_pos h2] at he ⊢
        exact two 1048576000 h1.1 h1.2 (by omega) (by omega) (by omega) (fun t' a b c d => i77 t' a b (c.trans c4) d)
      · rw [if_neg h2] at he
        exact absurd rfl he
    · rw [if_neg h1] at he ⊢
      by_cases h2 : q + 1 < t.size
      · rw [if_pos h2] at he ⊢
        exact one 1000000000 (by omega) (by omega) (by omega) (fun t' a b c => d77 t' a b (c.trans c4))
      · rw [if_neg h2] at he
        exact absurd rfl he
  by_cases c5 : gb t q = 71
  · rw [sf71 hlt c5] at he ⊢
    by_cases h1 : q + 1 < t.size ∧ gb t (q + 1) = 105
    · rw [if_pos h1] at he ⊢
      by_cases h2 : q + 2 < t.size
      · rw [if_pos h2] at he ⊢
        exact two 1073741824000 h1.1 h1.2 (by omega) (by omega) (by omega) (fun t' a b c d => i71 t' a b (c.trans c5) d)
      · rw [if_neg h2] at he
        exact absurd rfl he
    · rw [if_neg h1] at he ⊢
      by_cases h2 : q + 1 < t.size
      · rw [if_pos h2] at he ⊢
        exact one 1000000000000 (by omega) (by omega) (by omega) (fun t' a b c => d71 t' a b (c.trans c5))
      · rw [if_neg h2] at he
        exact absurd rfl he
  · have hx : sfC t q = (0, q, 4) := by
      unfold sfC
      rw [if_pos hlt, if_neg c1, if_neg c2, if_neg c3, if_neg c4, if_neg c5]
    rw [hx]
    have hs := ahead_size t q [] (by omega)
    refine ⟨hle, hasc, Or.inr rfl, Or.inr (fin q [] (Nat.le_refl _) hle (by simp) (fun h => absurd h (by rw [hs]; simp)) ?_)⟩
    unfold sfC
    rw [if_neg (by rw [hs]; simp)]
set_option maxHeartbeats 3200000 in
theorem par_bad (t : ByteArray) (h : (parC t 3 (sfC t)).e ≠ 0) : Bad t (parC t 3 (sfC t)).at_ (parC t 3 (sfC t)).e := by
  have hwl := wl_main t (t.size + 1) 0 0 (by omega) (Nat.zero_le _) (fun i hi => by omega)
  rcases hwl with ⟨h1, h2, h3⟩ | h1 | ⟨h1, h2, _, h4, h5, h6⟩
  · rw [parC_bad (by rw [h1]; decide), h1]
    refine ⟨h2, fun i hi => by obtain rfl : i = 0 := by { have hi' : i < 1 := hi; omega }; rw [h3]; decide, Or.inr rfl, Or.inr ⟨[], by simp, ?_⟩⟩
    have hs := ahead_size t 1 [] h2
    have hl := ahead_lo t 1 [] h2 0 (by decide)
    have hs' : (ahead t 1 []).size = 1 := by rw [hs]; rfl
    show (parC (ahead t 1 []) 3 (sfC (ahead t 1 []))).e = 0
    have hd1 : dgB (ahead t 1 []) 1 = false := by
      rw [Bool.eq_false_iff]
      intro hd
      have := (dg_iff.1 hd).1
      omega
    have hw : wlC (ahead t 1 []) ((ahead t 1 []).size + 1) 0 0 = (0, 1, 0) := by
      rw [hs', wlC, if_pos (dg_iff.2 ⟨by omega, by omega, by omega⟩), if_neg (fun h => by cases h.1), hl, h3, wlC, hd1, if_neg (show ¬ false = true by decide), if_neg (by decide)]
      rfl
    have hp : ptC (ahead t 1 []) 3 1 = (0, 1, 0) := by
      unfold ptC
      rw [if_neg (fun h => by have := h.1; omega)]
    rw [parC_pt (by rw [hw]), hw]
    dsimp only
    rw [hp, if_pos rfl]
    have hsf : sfC (ahead t 1 []) 1 = (1000, 1, 0) := by
      unfold sfC
      rw [if_neg (by omega)]
    dsimp only
    rw [hsf]
    rfl
  · rw [parC_bad (by rw [h1]; dsimp only; split <;> decide), h1]
    refine ⟨Nat.zero_le _, fun i hi => by have hi' : i < 0 := hi; omega, ?_, Or.inl rfl⟩
    dsimp only
    split
    · exact Or.inl ⟨rfl, by omega⟩
    · exact Or.inr rfl
  · obtain ⟨x, hx⟩ : ∃ x, wlC t (t.size + 1) 0 0 = x := ⟨_, rfl⟩
    rw [parC_pt h1] at h ⊢
    rw [hx] at h1 h2 h4 h5 h6 h ⊢
    obtain ⟨n, q, e0⟩ := x
    dsimp only at h1 h2 h4 h5 h6 h ⊢
    subst h1
    have hdig : ∀ i, i < q → gb t i < 128 := fun i hi => by have := (dg_iff.1 (h5 i hi)).2.2; omega
    have same : ∀ t', Agree t t' q → dgB t' q = false → wlC t' (t'.size + 1) 0 0 = (n, q, 0) := fun t' ha hd => h6 t' (t'.size + 1) ha hd (by omega)
    by_cases h46 : q < t.size ∧ gb t q = 46
    · have hpt : ptC t 3 q = finC t 3 (plC t 3 (t.size + 1) 0 (q + 1) 0) := by
        unfold ptC
        rw [if_pos h46]
      rw [hpt] at h ⊢
      have hpl := pl_main t 3 (t.size + 1) 0 (q + 1) 0 (by omega) (by omega) (Nat.zero_le _)
      obtain ⟨y, hy⟩ : ∃ y, plC t 3 (t.size + 1) 0 (q + 1) 0 = y := ⟨_, rfl⟩
      rw [hy] at h hpl ⊢
      obtain ⟨m, r, c⟩ := y
      obtain ⟨p1, p2, p3, p4, p5⟩ := hpl
      dsimp only at p1 p2 p3 p4 p5
      have hasc : ∀ i, i < r → gb t i < 128 := by
        intro i hi
        rcases Nat.lt_or_ge i q with h7 | h7
        · exact hdig i h7
        · rcases Nat.eq_or_lt_of_le h7 with h8 | h8
          · subst h8; rw [h46.2]; decide
          · have := (dg_iff.1 (p4 i (by omega) hi)).2.2
            omega
      have hnd : ∀ t', Agree t t' (q + 1) → dgB t' q = false := by
        intro t' ha
        rw [Bool.eq_false_iff]
        intro hd
        have h9 := ha.2 q (by omega)
        have := (dg_iff.1 hd).2
        omega
      have hpt' : ∀ t', Agree t t' (q + 1) → ptC t' 3 q = finC t' 3 (plC t' 3 (t'.size + 1) 0 (q + 1) 0) := by
        intro t' ha
        unfold ptC
        rw [if_pos ⟨by have := ha.1; omega, (ha.2 q (by omega)).trans h46.2⟩]
      unfold finC at h ⊢
      dsimp only at h ⊢
      by_cases hc : c = 0
      · subst hc
        obtain rfl : r = q + 1 := by omega
        rw [if_pos rfl] at h ⊢
        have h7 : ¬ (if q + 1 = t.size then (3 : Int) else 4) = 0 := by split <;> decide
        dsimp only at h ⊢
        rw [if_neg h7]
        dsimp only
        refine ⟨p2, hasc, ?_, Or.inr ⟨[48], by simp, ?_⟩⟩
        · split
          · rename_i h8; exact Or.inl ⟨rfl, h8⟩
          · exact Or.inr rfl
        · have hs := ahead_size t (q + 1) [48] p2
          have ha : Agree t (ahead t (q + 1) [48]) (q + 1) := ⟨by omega, fun p hp => ahead_lo t (q + 1) [48] p2 p hp⟩
          have hh := ahead_hi t (q + 1) [48] p2 0 (by simp)
          have hh' : gb (ahead t (q + 1) [48]) (q + 1) = 48 := hh
          have hw := same (ahead t (q + 1) [48]) (ha.less (by omega)) (hnd _ ha)
          have hp' := hpt' _ ha
          have hs' : (ahead t (q + 1) [48]).size = q + 2 := by rw [hs]; rfl
          generalize ahead t (q + 1) [48] = t' at ha hh' hw hp' hs'
          have hd2 : dgB t' (q + 1 + 1) = false := by
            rw [Bool.eq_false_iff]
            intro hd
            have := (dg_iff.1 hd).1
            omega
          have hpl' : plC t' 3 (t'.size + 1) 0 (q + 1) 0 = (0, q + 1 + 1, 1) := by
            rw [hs', plC, if_pos ⟨dg_iff.2 ⟨by omega, by omega, by omega⟩, by decide⟩, hh', plC, if_neg (fun h => by rw [hd2] at h; cases h.1)]
            rfl
          rw [hpl'] at hp'
          rw [parC_pt (by rw [hw]), hw]
          dsimp only
          rw [hp']
          rw [show finC t' 3 (0, q + 1 + 1, 1) = (0, q + 1 + 1, 0) from rfl]
          dsimp only
          rw [if_pos (show (0 : Int) = 0 from rfl)]
          have hsf : sfC t' (q + 1 + 1) = (1000, q + 1 + 1, 0) := by
            unfold sfC
            rw [if_neg (by omega)]
          rw [hsf]
          rfl
      · rw [if_neg hc] at h ⊢
        dsimp only at h ⊢
        rw [if_pos rfl] at h ⊢
        have hpre : Pre t r := by
          refine ⟨p2, hasc, n, m * ten (3 - c), ?_⟩
          intro t' ha hn
          have hd : dgB t' r = false := by
            rw [Bool.eq_false_iff]
            intro hd
            obtain ⟨d1, d2⟩ := dg_iff.1 hd
            exact (hn d1).1 d2
          have hw := same t' (ha.less (by omega)) (hnd t' (ha.less (by omega)))
          rw [parC_pt (by rw [hw]), hw]
          dsimp only
          rw [hpt' t' (ha.less (by omega)), p5 t' (t'.size + 1) ha hd (by omega)]
          unfold finC
          rw [if_neg hc]
          dsimp only
          rw [if_pos rfl]
        have he : (sfC t r).2.2 ≠ 0 := by
          intro he
          apply h
          unfold tailC
          rw [if_pos he]
        unfold tailC
        rw [if_neg he]
        exact pre_bad hpre he
    · have hpt : ptC t 3 q = (0, q, 0) := by
        unfold ptC
        rw [if_neg h46]
      rw [hpt] at h ⊢
      dsimp only at h ⊢
      rw [if_pos rfl] at h ⊢
      have hpre : Pre t q := by
        refine ⟨h4, hdig, n, 0, ?_⟩
        intro t' ha hn
        have hd : dgB t' q = false := by
          rw [Bool.eq_false_iff]
          intro hd
          obtain ⟨d1, d2⟩ := dg_iff.1 hd
          exact (hn d1).1 d2
        have hw := same t' ha hd
        have hp' : ptC t' 3 q = (0, q, 0) := by
          unfold ptC
          rw [if_neg (fun h => (hn h.1).2 h.2)]
        rw [parC_pt (by rw [hw]), hw]
        dsimp only
        rw [hp', if_pos rfl]
      have he : (sfC t q).2.2 ≠ 0 := by
        intro he
        apply h
        unfold tailC
        rw [if_pos he]
      unfold tailC
      rw [if_neg he]
      exact pre_bad hpre he
end Go.Proofs.YtkpoipjgbdcdjaaDoor.P
