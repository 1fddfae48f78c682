import Derived.Test.YtceepgleeelohaaDoorHparse
/- What the reader of quant answers, byte by byte: whole numbers, points, suffixes. -/
namespace Go.Proofs.YtceepgleeelohaaDoor.P
set_option linter.unusedVariables false
set_option linter.unusedSimpArgs false
open Go.RowKit Go.Proofs.YtceepgleeelohaaDoorW.PrintWords Go.Proofs.YtceepgleeelohaaDoorW.PrintLast Go.Proofs.YtceepgleeelohaaDoorW.PrintMore

/-- a byte, as a number -/
abbrev gb (s : ByteArray) (p : Nat) : Int := bt s (p : Int)
theorem gb_at (s : ByteArray) (p : Nat) (h : p < s.size) : gb s p = ((s[p]'h).toNat : Int) := by
  have := bt_at s (p : Int) (by simpa using h)
  unfold gb
  simpa using this.symm
theorem gb_rg (s : ByteArray) (p : Nat) : 0 ≤ gb s p ∧ gb s p ≤ 255 := bt_range s _
theorem dec_lo {t : ByteArray} {p : Nat} (h : p < t.size) (hb : gb t p < 128) : Utf8.decode t p = ((gb t p).toNat, 1) := by
  have e := gb_at t p h
  rw [Go.decode_ascii t p h (by omega), e]
  rfl
theorem dec_hi {t : ByteArray} {p : Nat} (h : p < t.size) (hb : ¬ gb t p < 128) : 128 ≤ (Utf8.decode t p).1 := by
  have e := gb_at t p h
  exact (Go.decode_high t p h (by omega)).1
theorem enc_lo : ∀ n : Nat, n < 128 → Utf8.encode (n : Int) = ⟨#[UInt8.ofNat n]⟩ := by decide +kernel
theorem enc_hi (c : Int) (h : 128 ≤ c) : ∃ b r, (Utf8.encode c).data.toList = b :: r ∧ 128 ≤ b.toNat := by
  by_cases hv : Utf8.valid c = true
  · have hc : ¬ c.toNat < 128 := by omega
    have hv2 : c.toNat < 1114112 := by
      unfold Utf8.valid at hv
      simp only [Bool.and_eq_true, Bool.or_eq_true, decide_eq_true_eq] at hv
      omega
    unfold Utf8.encode
    simp only [hv, if_true, hc, if_false]
    split
    · exact ⟨_, _, rfl, by simp; omega⟩
    · split
      · exact ⟨_, _, rfl, by simp; omega⟩
      · exact ⟨_, _, rfl, by simp; omega⟩
  · unfold Utf8.encode
    have hc : Utf8.valid c = false := by simpa using hv
    rw [hc]
    simp only [Bool.false_eq_true, if_false]
    exact ⟨239, [191, 189], by decide, by decide⟩
theorem suf_lo : ∀ k ∈ sufE.map (·.1), ∀ b ∈ k, b.toNat < 128 := by decide +kernel
theorem beg_hi (s : ByteArray) (c : Int) (h : 128 ≤ c) : begB (s ++ Utf8.encode c) = false := by
  obtain ⟨b, r, hb, h1⟩ := enc_hi c h
  unfold begB
  rw [List.any_eq_false]
  intro k hk hp
  have hp2 : (s ++ Utf8.encode c).data.toList <+: k := List.isPrefixOf_iff_prefix.1 hp
  rw [ByteArray.data_append, Array.toList_append, hb] at hp2
  have hm : b ∈ k := hp2.subset (List.mem_append_right _ List.mem_cons_self)
  have := suf_lo k hk b hm
  omega
theorem pct_hi (s : ByteArray) (c : Int) (h : 128 ≤ c) : pctB (s ++ Utf8.encode c) = false := by
  obtain ⟨b, r, hb, h1⟩ := enc_hi c h
  unfold pctB
  rw [ByteArray.toList_eq, ByteArray.data_append, Array.toList_append, hb, beq_eq_false_iff_ne]
  intro he
  have hm : b ∈ s.data.toList ++ b :: r := List.mem_append_right _ List.mem_cons_self
  rw [he, List.mem_singleton] at hm
  subst hm
  exact absurd h1 (by decide)
/-- a test of suffixes that knows ASCII alone -/
def Asc (kn : ByteArray → Bool) : Prop := ∀ s c, 128 ≤ c → kn (s ++ Utf8.encode c) = false
theorem goes_hi {kn : ByteArray → Bool} (hk : Asc kn) (r : Rd) (c : Int) (h : 128 ≤ c) : goesS kn r c = none := by
  unfold goesS
  rw [if_neg (by omega), if_neg (by omega), if_pos (Or.inr (Or.inr (hk _ _ h)))]
/-- what the byte at p does -/
def stepB (kn : ByteArray → Bool) (t : ByteArray) (r : Rd) (p : Nat) : Option Rd := if gb t p < 128 then goesS kn r (gb t p) else none
theorem rd_none {kn : ByteArray → Bool} (hk : Asc kn) {t : ByteArray} {k p : Nat} {r : Rd} (h : p < t.size) (hs : stepB kn t r p = none) : rdL kn t (k + 1) p r = (r, p, false) := by
  unfold stepB at hs
  by_cases hb : gb t p < 128
  · rw [if_pos hb] at hs
    have hr := gb_rg t p
    have hd := dec_lo h hb
    refine rdL_none h (hp_bad t p (by rw [hd]; dsimp only; omega)) ?_
    rw [hd]
    dsimp only
    rw [Int.toNat_of_nonneg hr.1]
    exact hs
  · have hd := dec_hi h hb
    by_cases hbad : badR t p = true
    · exact rdL_bad h hbad
    · exact rdL_none h (by simpa using hbad) (goes_hi hk _ _ (by omega))
theorem rd_some {kn : ByteArray → Bool} {t : ByteArray} {k p : Nat} {r r' : Rd} (h : p < t.size) (hs : stepB kn t r p = some r') : rdL kn t (k + 1) p r = rdL kn t k (p + 1) r' := by
  unfold stepB at hs
  split at hs
  · rename_i hb
    have hr := gb_rg t p
    have hd := dec_lo h hb
    have := rdL_some (k := k) h (hp_bad t p (by rw [hd]; dsimp only; omega)) (r' := r') (r := r) (kn := kn) (by
      rw [hd]
      dsimp only
      rw [Int.toNat_of_nonneg hr.1]
      exact hs)
    rw [this, hd]
  · cases hs
def dgB (t : ByteArray) (p : Nat) : Bool := decide (p < t.size) && (decide (48 ≤ gb t p) && decide (gb t p ≤ 57))
theorem dg_iff {t : ByteArray} {p : Nat} : dgB t p = true ↔ p < t.size ∧ 48 ≤ gb t p ∧ gb t p ≤ 57 := by
  unfold dgB
  simp only [Bool.and_eq_true, decide_eq_true_eq]
abbrev huge : Int := 1125899906842624
abbrev nil : ByteArray := ⟨#[]⟩
/-- the digits that a text begins with -/
def wlC (t : ByteArray) : Nat → Int → Nat → Int × Nat × Int
  | 0, n, p => (n, p, 0)
  | k + 1, n, p => if dgB t p = true then (if p = 1 ∧ gb t 0 = 48 then (0, 1, 4) else wlC t k (min (10 * n + (gb t p - 48)) huge) (p + 1))
    else if p = 0 then (0, 0, if t.size = 0 then 3 else 4) else (n, p, 0)
theorem goes_dg (kn : ByteArray → Bool) (n m ps ms dg c : Int) (h0 : 48 ≤ c) (h1 : c ≤ 57) : goesS kn ⟨n, dg, m, ps, ms, nil⟩ c = (if ps < 0 then (if dg = 1 ∧ n = 0 then none else some ⟨min (10 * n + (c - 48)) huge, dg + 1, m, ps, ms, nil⟩) else if ps = ms then none else some ⟨n, dg, 10 * m + (c - 48), ps + 1, ms, nil⟩) := by
  unfold goesS
  rw [if_pos ⟨h0, h1, rfl⟩]
theorem ph1 {kn : ByteArray → Bool} (hk : Asc kn) (t : ByteArray) (ms : Int) : ∀ (k : Nat) (n : Int) (p : Nat), t.size < k + p → p ≤ t.size → (p = 0 → n = 0) → (p = 1 → n = gb t 0 - 48) →
    (∃ r', rdL kn t k p ⟨n, p, 0, -1, ms, nil⟩ = (r', 1, false) ∧ wlC t k n p = (0, 1, 4)) ∨
    (∃ k' n' q, t.size < k' + q ∧ q ≤ t.size ∧ p ≤ q ∧ dgB t q = false ∧ rdL kn t k p ⟨n, p, 0, -1, ms, nil⟩ = rdL kn t k' q ⟨n', (q : Nat), 0, -1, ms, nil⟩ ∧ wlC t k n p = if q = 0 then (0, 0, if t.size = 0 then 3 else 4) else (n', q, 0))
  | 0, n, p, h, hp, _, _ => by omega
  | k + 1, n, p, h, hp, h0, h1 => by
    unfold wlC
    by_cases hd : dgB t p = true
    · obtain ⟨d1, d2, d3⟩ := dg_iff.1 hd
      rw [if_pos hd]
      have hst : stepB kn t ⟨n, p, 0, -1, ms, nil⟩ p = (if (p : Int) = 1 ∧ n = 0 then none else some ⟨min (10 * n + (gb t p - 48)) huge, (p : Int) + 1, 0, -1, ms, nil⟩) := by
        unfold stepB
        rw [if_pos (by omega), goes_dg _ _ _ _ _ _ _ d2 d3, if_pos (by decide)]
      by_cases hz : p = 1 ∧ gb t 0 = 48
      · left
        obtain ⟨rfl, hz⟩ := hz
        rw [if_pos ⟨rfl, hz⟩]
        have := h1 rfl
        rw [if_pos ⟨by rfl, by omega⟩] at hst
        exact ⟨_, rd_none hk d1 hst, rfl⟩
      · rw [if_neg hz]
        rw [if_neg (fun hq => by
          have q3 : p = 1 := by omega
          have := h1 q3
          exact hz ⟨q3, by omega⟩)] at hst
        rw [rd_some d1 hst]
        have ih := ph1 hk t ms k (min (10 * n + (gb t p - 48)) huge) (p + 1) (by omega) (by omega) (fun h => by omega) (fun hq => by
          have hp0 : p = 0 := by omega
          subst hp0
          have := h0 rfl
          have := gb_rg t 0
          show min _ (1125899906842624 : Int) = _
          omega)
        have e : (((p + 1 : Nat) : Int)) = (p : Int) + 1 := by omega
        rw [e] at ih
        rcases ih with ih | ⟨k', n', q, i1, i2, i3, i4, i5, i6⟩
        · exact Or.inl ih
        · exact Or.inr ⟨k', n', q, i1, i2, by omega, i4, i5, i6⟩
    · right
      rw [if_neg hd]
      refine ⟨k + 1, n, p, h, hp, Nat.le_refl _, by simpa using hd, rfl, ?_⟩
      by_cases hq : p = 0
      · rw [if_pos hq]
        try rw [if_pos hq]
      · rw [if_neg hq]
        try rw [if_neg hq]
theorem wl_bd (t : ByteArray) : ∀ (k : Nat) (n : Int) (p : Nat), 0 ≤ n → n ≤ huge → p ≤ t.size → 0 ≤ (wlC t k n p).1 ∧ (wlC t k n p).1 ≤ huge ∧ (wlC t k n p).2.1 ≤ t.size
  | 0, n, p, h0, h1, hp => ⟨h0, h1, hp⟩
  | k + 1, n, p, h0, h1, hp => by
    unfold wlC
    split
    · rename_i hd
      obtain ⟨d1, d2, d3⟩ := dg_iff.1 hd
      split
      · exact ⟨Int.le_refl 0, by show (0 : Int) ≤ 1125899906842624; decide, by show 1 ≤ t.size; omega⟩
      · exact wl_bd t k _ _ (by show 0 ≤ min _ (1125899906842624 : Int); omega) (by show min _ (1125899906842624 : Int) ≤ 1125899906842624; omega) (by omega)
    · split
      · exact ⟨Int.le_refl 0, by show (0 : Int) ≤ 1125899906842624; decide, Nat.zero_le _⟩
      · exact ⟨h0, h1, hp⟩
/-- so many digits behind a point -/
def plC (t : ByteArray) (many : Nat) : Nat → Int → Nat → Nat → Int × Nat × Nat
  | 0, m, p, c => (m, p, c)
  | k + 1, m, p, c => if dgB t p = true ∧ c < many then plC t many k (10 * m + (gb t p - 48)) (p + 1) (c + 1) else (m, p, c)
theorem ph2 (kn : ByteArray → Bool) (t : ByteArray) (n dg : Int) (many : Nat) : ∀ (k : Nat) (m : Int) (p c : Nat), t.size < k + p → p ≤ t.size → c ≤ many →
    ∃ k', t.size < k' + (plC t many k m p c).2.1 ∧ (plC t many k m p c).2.1 ≤ t.size ∧ p ≤ (plC t many k m p c).2.1 ∧ (plC t many k m p c).2.1 = p + ((plC t many k m p c).2.2 - c) ∧ c ≤ (plC t many k m p c).2.2 ∧ (plC t many k m p c).2.2 ≤ many ∧ (dgB t (plC t many k m p c).2.1 = true → (plC t many k m p c).2.2 = many) ∧
      rdL kn t k p ⟨n, dg, m, (c : Nat), (many : Nat), nil⟩ = rdL kn t k' (plC t many k m p c).2.1 ⟨n, dg, (plC t many k m p c).1, ((plC t many k m p c).2.2 : Nat), (many : Nat), nil⟩
  | 0, m, p, c, h, hp, hc => by omega
  | k + 1, m, p, c, h, hp, hc => by
    unfold plC
    by_cases hd : dgB t p = true ∧ c < many
    · rw [if_pos hd]
      obtain ⟨d1, d2, d3⟩ := dg_iff.1 hd.1
      have hst : stepB kn t ⟨n, dg, m, (c : Nat), (many : Nat), nil⟩ p = some ⟨n, dg, 10 * m + (gb t p - 48), ((c + 1 : Nat) : Int), (many : Nat), nil⟩ := by
        unfold stepB
        rw [if_pos (by omega), goes_dg _ _ _ _ _ _ _ d2 d3, if_neg (by omega), if_neg (by omega)]
        congr 2
      obtain ⟨k', i1, i2, i3, i3b, i4, i5, i6, i7⟩ := ph2 kn t n dg many k (10 * m + (gb t p - 48)) (p + 1) (c + 1) (by omega) (by omega) (by omega)
      exact ⟨k', i1, i2, by omega, by omega, by omega, i5, i6, by rw [rd_some d1 hst]; exact i7⟩
    · rw [if_neg hd]
      exact ⟨k + 1, h, hp, Nat.le_refl _, by dsimp only; omega, Nat.le_refl _, hc, fun hq => by
        dsimp only at hq ⊢
        rcases Nat.lt_or_ge c many with hlt | hlt
        · exact absurd ⟨hq, hlt⟩ hd
        · omega, rfl⟩
end Go.Proofs.YtceepgleeelohaaDoor.P
