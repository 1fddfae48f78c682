import Derived.Test.YtceepgleeelohaaDoorHq
/- What the reader of quant answers: suffixes, and the whole of it, for quantities and for shares. -/
namespace Go.Proofs.YtceepgleeelohaaDoor.P
set_option linter.unusedVariables false
set_option linter.unusedSimpArgs false
open Go.RowKit Go.Proofs.YtceepgleeelohaaDoorW.PrintWords Go.Proofs.YtceepgleeelohaaDoorW.PrintLast Go.Proofs.YtceepgleeelohaaDoorW.PrintMore

theorem enc_gb {t : ByteArray} {q : Nat} (h : gb t q < 128) : Utf8.encode (gb t q) = ⟨#[UInt8.ofNat (gb t q).toNat]⟩ := by
  have hr := gb_rg t q
  have := enc_lo (gb t q).toNat (by omega)
  rw [Int.toNat_of_nonneg hr.1] at this
  exact this
theorem beg1 : ∀ n : Nat, n < 128 → begB (nil ++ ⟨#[UInt8.ofNat n]⟩) = (n == 71 || n == 75 || n == 77 || n == 107 || n == 109) := by decide +kernel
theorem beg2 : ∀ x ∈ ([71, 75, 77, 107, 109] : List Nat), ∀ n : Nat, n < 128 → begB ((⟨#[UInt8.ofNat x]⟩ : ByteArray) ++ ⟨#[UInt8.ofNat n]⟩) = ((x == 71 || x == 75 || x == 77) && n == 105) := by decide +kernel
theorem beg3 : ∀ x ∈ ([71, 75, 77] : List Nat), ∀ n : Nat, n < 128 → begB ((⟨#[UInt8.ofNat x, 105]⟩ : ByteArray) ++ ⟨#[UInt8.ofNat n]⟩) = false := by decide +kernel
theorem app1 : ∀ n : Nat, n < 128 → nil ++ (⟨#[UInt8.ofNat n]⟩ : ByteArray) = ⟨#[UInt8.ofNat n]⟩ := by decide +kernel
theorem app2 : ∀ x ∈ ([71, 75, 77] : List Nat), (⟨#[UInt8.ofNat x]⟩ : ByteArray) ++ ⟨#[UInt8.ofNat 105]⟩ = ⟨#[UInt8.ofNat x, 105]⟩ := by decide +kernel
theorem asc_beg : Asc begB := beg_hi
theorem asc_pct : Asc pctB := pct_hi
/-- a byte behind the first one of a suffix -/
theorem step_ne (kn : ByteArray → Bool) (t : ByteArray) {n dg m ps ms : Int} {s : ByteArray} (hs : s.size ≠ 0) (hdg : dg ≠ 0) (hps : ps ≠ 0) (q : Nat) :
    stepB kn t ⟨n, dg, m, ps, ms, s⟩ q = if gb t q < 128 ∧ gb t q ≠ 46 ∧ kn (s ++ ⟨#[UInt8.ofNat (gb t q).toNat]⟩) = true then some ⟨n, dg, m, ps, ms, s ++ ⟨#[UInt8.ofNat (gb t q).toNat]⟩⟩ else none := by
  unfold stepB
  by_cases h1 : gb t q < 128
  · rw [if_pos h1]
    unfold goesS
    rw [if_neg (fun h => hs h.2.2), enc_gb h1]
    by_cases h2 : gb t q = 46
    · rw [if_pos h2, if_pos (Or.inr (Or.inr hs)), if_neg (fun h => h.2.1 h2)]
    · rw [if_neg h2]
      by_cases h3 : kn (s ++ ⟨#[UInt8.ofNat (gb t q).toNat]⟩) = true
      · rw [if_neg (fun h => h.elim hdg (fun h => h.elim hps (fun h => by rw [h3] at h; cases h))), if_pos ⟨h1, h2, h3⟩]
      · rw [if_pos (Or.inr (Or.inr (by simpa using h3))), if_neg (fun h => h3 h.2.2)]
  · rw [if_neg h1, if_neg (fun h => h1 h.1)]
/-- a byte that can't be a digit, nor a point: the first one of a suffix -/
theorem step_one (kn : ByteArray → Bool) (t : ByteArray) {n dg m ps ms : Int} (hdg : dg ≠ 0) (hps : ps ≠ 0) (q : Nat) (hq : q < t.size) (hd : dgB t q = true → 0 ≤ ps ∧ ps = ms) (hp : gb t q = 46 → 0 ≤ ps) :
    stepB kn t ⟨n, dg, m, ps, ms, nil⟩ q = if gb t q < 128 ∧ gb t q ≠ 46 ∧ dgB t q = false ∧ kn (nil ++ ⟨#[UInt8.ofNat (gb t q).toNat]⟩) = true then some ⟨n, dg, m, ps, ms, nil ++ ⟨#[UInt8.ofNat (gb t q).toNat]⟩⟩ else none := by
  unfold stepB
  by_cases h1 : gb t q < 128
  · rw [if_pos h1]
    by_cases h0 : dgB t q = true
    · obtain ⟨_, d2, d3⟩ := dg_iff.1 h0
      have h4 := hd h0
      rw [goes_dg _ _ _ _ _ _ _ d2 d3, if_neg (by omega), if_pos h4.2, if_neg (fun h => by rw [h0] at h; cases h.2.2.1)]
    · unfold goesS
      rw [if_neg (fun h => h0 (dg_iff.2 ⟨hq, h.1, h.2.1⟩)), enc_gb h1]
      have h0' : dgB t q = false := by simpa using h0
      by_cases h2 : gb t q = 46
      · rw [if_pos h2, if_pos (Or.inr (Or.inl (hp h2))), if_neg (fun h => h.2.1 h2)]
      · rw [if_neg h2]
        by_cases h3 : kn (nil ++ ⟨#[UInt8.ofNat (gb t q).toNat]⟩) = true
        · rw [if_neg (fun h => h.elim hdg (fun h => h.elim hps (fun h => by rw [h3] at h; cases h))), if_pos ⟨h1, h2, h0', h3⟩]
        · rw [if_pos (Or.inr (Or.inr (by simpa using h3))), if_neg (fun h => h3 h.2.2.2)]
  · rw [if_neg h1, if_neg (fun h => h1 h.1)]
/-- a letter that a suffix begins with -/
theorem letter (t : ByteArray) (x : Nat) (hx : x ∈ ([71, 75, 77, 107, 109] : List Nat)) {n dg m ps ms : Int} (hdg : dg ≠ 0) (hps : ps ≠ 0) (k p : Nat) (hp : p < t.size) (hk : t.size < k + 1 + p) (hc : gb t p = (x : Int)) :
    rdL begB t (k + 1) p ⟨n, dg, m, ps, ms, nil⟩ = if (x = 71 ∨ x = 75 ∨ x = 77) ∧ p + 1 < t.size ∧ gb t (p + 1) = 105 then (⟨n, dg, m, ps, ms, ⟨#[UInt8.ofNat x, 105]⟩⟩, p + 2, decide (¬ p + 2 < t.size))
      else (⟨n, dg, m, ps, ms, ⟨#[UInt8.ofNat x]⟩⟩, p + 1, decide (¬ p + 1 < t.size)) := by
  have hx2 : 71 ≤ x ∧ x < 128 := by
    simp only [List.mem_cons, List.not_mem_nil, or_false] at hx
    omega
  have hxs : (gb t p).toNat = x := by omega
  have hd0 : dgB t p = false := by
    rw [Bool.eq_false_iff]
    intro h
    have := dg_iff.1 h
    omega
  have s1 : stepB begB t ⟨n, dg, m, ps, ms, nil⟩ p = some ⟨n, dg, m, ps, ms, ⟨#[UInt8.ofNat x]⟩⟩ := by
    rw [step_one begB t hdg hps p hp (fun h => by rw [hd0] at h; cases h) (fun h => by omega), hxs, if_pos ⟨by omega, by omega, hd0, by
      rw [beg1 x hx2.2]
      simp only [List.mem_cons, List.not_mem_nil, or_false] at hx
      rcases hx with rfl | rfl | rfl | rfl | rfl <;> rfl⟩, app1 x hx2.2]
  rw [rd_some hp s1]
  by_cases h1 : p + 1 < t.size
  · obtain ⟨k, rfl⟩ : ∃ j, k = j + 1 := ⟨k - 1, by omega⟩
    have s2 := step_ne begB t (n := n) (m := m) (ms := ms) (s := ⟨#[UInt8.ofNat x]⟩) (Nat.succ_ne_zero 0) hdg hps (p + 1)
    have hr := gb_rg t (p + 1)
    by_cases h2 : (x = 71 ∨ x = 75 ∨ x = 77) ∧ p + 1 < t.size ∧ gb t (p + 1) = 105
    · have hx3 : x ∈ ([71, 75, 77] : List Nat) := by
        simp only [List.mem_cons, List.not_mem_nil, or_false]
        exact h2.1
      have e105 : (gb t (p + 1)).toNat = 105 := by omega
      rw [if_pos h2]
      rw [e105, if_pos ⟨by omega, by omega, by
        rw [beg2 x hx 105 (by decide)]
        rcases h2.1 with rfl | rfl | rfl <;> rfl⟩, app2 x hx3] at s2
      rw [rd_some h1 s2]
      by_cases h3 : p + 2 < t.size
      · obtain ⟨k, rfl⟩ : ∃ j, k = j + 1 := ⟨k - 1, by omega⟩
        have s3 := step_ne begB t (n := n) (m := m) (ms := ms) (s := ⟨#[UInt8.ofNat x, 105]⟩) (Nat.succ_ne_zero 1) hdg hps (p + 2)
        rw [if_neg (fun h => by rw [beg3 x hx3 _ (by have := gb_rg t (p + 2); omega)] at h; cases h.2.2)] at s3
        have := rd_none asc_beg (k := k) h3 s3
        rw [show p + 1 + 1 = p + 2 by omega, this, decide_eq_false (by omega)]
      · rw [show p + 1 + 1 = p + 2 by omega, rdL_end h3, decide_eq_true h3]
    · rw [if_neg h2]
      rw [if_neg (fun h => by
        rw [beg2 x hx _ (by omega)] at h
        have h4 := h.2.2
        simp only [Bool.and_eq_true, Bool.or_eq_true, beq_iff_eq] at h4
        exact h2 ⟨by omega, h1, by omega⟩)] at s2
      rw [rd_none asc_beg h1 s2, decide_eq_false (by omega)]
  · rw [if_neg (fun h => h1 h.2.1), rdL_end h1, decide_eq_true h1]
/-- what the suffix says that stands at p -/
def sfC (t : ByteArray) (p : Nat) : Int × Nat × Int :=
  if p < t.size then
    (if gb t p = 109 then (if p + 1 < t.size then (0, p + 1, 4) else (1, p + 1, 0))
    else if gb t p = 107 then (if p + 1 < t.size then (0, p + 1, 4) else (1000000, p + 1, 0))
    else if gb t p = 75 then (if p + 1 < t.size ∧ gb t (p + 1) = 105 then (if p + 2 < t.size then (0, p + 2, 4) else (1024000, p + 2, 0)) else if p + 1 < t.size then (0, p + 1, 4) else (0, p + 1, 3))
    else if gb t p = 77 then (if p + 1 < t.size ∧ gb t (p + 1) = 105 then (if p + 2 < t.size then (0, p + 2, 4) else (1048576000, p + 2, 0)) else if p + 1 < t.size then (0, p + 1, 4) else (1000000000, p + 1, 0))
    else if gb t p = 71 then (if p + 1 < t.size ∧ gb t (p + 1) = 105 then (if p + 2 < t.size then (0, p + 2, 4) else (1073741824000, p + 2, 0)) else if p + 1 < t.size then (0, p + 1, 4) else (1000000000000, p + 1, 0))
    else (0, p, 4))
  else (1000, p, 0)
/-- what a reader of suffixes answers where this is said -/
def SP (kn en : ByteArray → Bool) (val : ByteArray → Int) (t : ByteArray) (many : Nat) (sf : Nat → Int × Nat × Int) : Prop :=
  ∀ (k p : Nat) (n dg m ps : Int), dg ≠ 0 → ps ≠ 0 → p ≤ t.size → t.size < k + p → (dgB t p = true → 0 ≤ ps ∧ ps = (many : Int)) → (p < t.size → gb t p = 46 → 0 ≤ ps) →
    ∃ s fl, rdL kn t k p ⟨n, dg, m, ps, (many : Int), nil⟩ = (⟨n, dg, m, ps, (many : Int), s⟩, (sf p).2.1, fl) ∧
      (((sf p).2.2 = 4 ∧ fl = false) ∨ ((sf p).2.2 = 3 ∧ fl = true ∧ en s = false ∧ (sf p).2.1 = t.size) ∨ ((sf p).2.2 = 0 ∧ fl = true ∧ en s = true ∧ val s = (sf p).1))
def valS (s : ByteArray) : Int := (sufV s.data.toList).getD 0
theorem sf71 {t : ByteArray} {p : Nat} (hlt : p < t.size) (hg : gb t p = 71) : sfC t p = if p + 1 < t.size ∧ gb t (p + 1) = 105 then (if p + 2 < t.size then (0, p + 2, 4) else (1073741824000, p + 2, 0)) else if p + 1 < t.size then (0, p + 1, 4) else (1000000000000, p + 1, 0) := by
  unfold sfC
  rw [if_pos hlt, hg]
  rfl
theorem v71i : endB ⟨#[UInt8.ofNat 71, 105]⟩ = true ∧ valS ⟨#[UInt8.ofNat 71, 105]⟩ = 1073741824000 := by decide +kernel
theorem v71 : endB ⟨#[UInt8.ofNat 71]⟩ = true ∧ valS ⟨#[UInt8.ofNat 71]⟩ = 1000000000000 := by decide +kernel
theorem sf75 {t : ByteArray} {p : Nat} (hlt : p < t.size) (hg : gb t p = 75) : sfC t p = if p + 1 < t.size ∧ gb t (p + 1) = 105 then (if p + 2 < t.size then (0, p + 2, 4) else (1024000, p + 2, 0)) else if p + 1 < t.size then (0, p + 1, 4) else (0, p + 1, 3) := by
  unfold sfC
  rw [if_pos hlt, hg]
  rfl
theorem v75i : endB ⟨#[UInt8.ofNat 75, 105]⟩ = true ∧ valS ⟨#[UInt8.ofNat 75, 105]⟩ = 1024000 := by decide +kernel
theorem v75 : endB ⟨#[UInt8.ofNat 75]⟩ = false := by decide +kernel
theorem sf77 {t : ByteArray} {p : Nat} (hlt : p < t.size) (hg : gb t p = 77) : sfC t p = if p + 1 < t.size ∧ gb t (p + 1) = 105 then (if p + 2 < t.size then (0, p + 2, 4) else (1048576000, p + 2, 0)) else if p + 1 < t.size then (0, p + 1, 4) else (1000000000, p + 1, 0) := by
  unfold sfC
  rw [if_pos hlt, hg]
  rfl
theorem v77i : endB ⟨#[UInt8.ofNat 77, 105]⟩ = true ∧ valS ⟨#[UInt8.ofNat 77, 105]⟩ = 1048576000 := by decide +kernel
theorem v77 : endB ⟨#[UInt8.ofNat 77]⟩ = true ∧ valS ⟨#[UInt8.ofNat 77]⟩ = 1000000000 := by decide +kernel
theorem sf107 {t : ByteArray} {p : Nat} (hlt : p < t.size) (hg : gb t p = 107) : sfC t p = if p + 1 < t.size then (0, p + 1, 4) else (1000000, p + 1, 0) := by
  unfold sfC
  rw [if_pos hlt, hg]
  rfl
theorem v107 : endB ⟨#[UInt8.ofNat 107]⟩ = true ∧ valS ⟨#[UInt8.ofNat 107]⟩ = 1000000 := by decide +kernel
theorem sf109 {t : ByteArray} {p : Nat} (hlt : p < t.size) (hg : gb t p = 109) : sfC t p = if p + 1 < t.size then (0, p + 1, 4) else (1, p + 1, 0) := by
  unfold sfC
  rw [if_pos hlt, hg]
  rfl
theorem v109 : endB ⟨#[UInt8.ofNat 109]⟩ = true ∧ valS ⟨#[UInt8.ofNat 109]⟩ = 1 := by decide +kernel
theorem v0 : endB nil = true ∧ valS nil = 1000 := by decide +kernel
theorem sp_parse (t : ByteArray) (many : Nat) : SP begB endB valS t many (sfC t) := by
  intro k p n dg m ps hdg hps hp hk hd h46
  by_cases hlt : p < t.size
  · obtain ⟨k, rfl⟩ : ∃ j, k = j + 1 := ⟨k - 1, by omega⟩
    have hr := gb_rg t p
    by_cases hx : (gb t p).toNat ∈ ([71, 75, 77, 107, 109] : List Nat)
    · simp only [List.mem_cons, List.not_mem_nil, or_false] at hx
      rcases hx with h | h | h | h | h
      · have hg : gb t p = 71 := by omega
        have hl := letter t 71 (by decide) (n := n) (m := m) (ms := (many : Int)) hdg hps k p hlt hk hg
        rw [hl, sf71 hlt hg]
        by_cases h1 : p + 1 < t.size ∧ gb t (p + 1) = 105
        · rw [if_pos ⟨by decide, h1⟩, if_pos h1]
          by_cases h2 : p + 2 < t.size
          · rw [if_pos h2]; exact ⟨_, _, rfl, Or.inl ⟨rfl, decide_eq_false (fun h => h h2)⟩⟩
          · rw [if_neg h2]; exact ⟨_, _, rfl, Or.inr (Or.inr ⟨rfl, decide_eq_true h2, v71i.1, v71i.2⟩)⟩
        · rw [if_neg (fun h => h1 h.2), if_neg h1]
          by_cases h2 : p + 1 < t.size
          · rw [if_pos h2]; exact ⟨_, _, rfl, Or.inl ⟨rfl, decide_eq_false (fun h => h h2)⟩⟩
          · rw [if_neg h2]; exact ⟨_, _, rfl, Or.inr (Or.inr ⟨rfl, decide_eq_true h2, v71.1, v71.2⟩)⟩
      · have hg : gb t p = 75 := by omega
        have hl := letter t 75 (by decide) (n := n) (m := m) (ms := (many : Int)) hdg hps k p hlt hk hg
        rw [hl, sf75 hlt hg]
        by_cases h1 : p + 1 < t.size ∧ gb t (p + 1) = 105
        · rw [if_pos ⟨by decide, h1⟩, if_pos h1]
          by_cases h2 : p + 2 < t.size
          · rw [if_pos h2]; exact ⟨_, _, rfl, Or.inl ⟨rfl, decide_eq_false (fun h => h h2)⟩⟩
          · rw [if_neg h2]; exact ⟨_, _, rfl, Or.inr (Or.inr ⟨rfl, decide_eq_true h2, v75i.1, v75i.2⟩)⟩
        · rw [if_neg (fun h => h1 h.2), if_neg h1]
          by_cases h2 : p + 1 < t.size
          · rw [if_pos h2]; exact ⟨_, _, rfl, Or.inl ⟨rfl, decide_eq_false (fun h => h h2)⟩⟩
          · rw [if_neg h2]; exact ⟨_, _, rfl, Or.inr (Or.inl ⟨rfl, decide_eq_true h2, v75, by show p + 1 = t.size; omega⟩)⟩
      · have hg : gb t p = 77 := by omega
        have hl := letter t 77 (by decide) (n := n) (m := m) (ms := (many : Int)) hdg hps k p hlt hk hg
        rw [hl, sf77 hlt hg]
        by_cases h1 : p + 1 < t.size ∧ gb t (p + 1) = 105
        · rw [if_pos ⟨by decide, h1⟩, if_pos h1]
          by_cases h2 : p + 2 < t.size
          · rw [if_pos h2]; exact ⟨_, _, rfl, Or.inl ⟨rfl, decide_eq_false (fun h => h h2)⟩⟩
          · rw [if_neg h2]; exact ⟨_, _, rfl, Or.inr (Or.inr ⟨rfl, decide_eq_true h2, v77i.1, v77i.2⟩)⟩
        · rw [if_neg (fun h => h1 h.2), if_neg h1]
          by_cases h2 : p + 1 < t.size
          · rw [if_pos h2]; exact ⟨_, _, rfl, Or.inl ⟨rfl, decide_eq_false (fun h => h h2)⟩⟩
          · rw [if_neg h2]; exact ⟨_, _, rfl, Or.inr (Or.inr ⟨rfl, decide_eq_true h2, v77.1, v77.2⟩)⟩
      · have hg : gb t p = 107 := by omega
        have hl := letter t 107 (by decide) (n := n) (m := m) (ms := (many : Int)) hdg hps k p hlt hk hg
        rw [hl, sf107 hlt hg]
        rw [if_neg (fun h => absurd h.1 (by decide))]
        by_cases h2 : p + 1 < t.size
        · rw [if_pos h2]; exact ⟨_, _, rfl, Or.inl ⟨rfl, decide_eq_false (fun h => h h2)⟩⟩
        · rw [if_neg h2]; exact ⟨_, _, rfl, Or.inr (Or.inr ⟨rfl, decide_eq_true h2, v107.1, v107.2⟩)⟩
      · have hg : gb t p = 109 := by omega
        have hl := letter t 109 (by decide) (n := n) (m := m) (ms := (many : Int)) hdg hps k p hlt hk hg
        rw [hl, sf109 hlt hg]
        rw [if_neg (fun h => absurd h.1 (by decide))]
        by_cases h2 : p + 1 < t.size
        · rw [if_pos h2]; exact ⟨_, _, rfl, Or.inl ⟨rfl, decide_eq_false (fun h => h h2)⟩⟩
        · rw [if_neg h2]; exact ⟨_, _, rfl, Or.inr (Or.inr ⟨rfl, decide_eq_true h2, v109.1, v109.2⟩)⟩
    · have hs : stepB begB t ⟨n, dg, m, ps, (many : Int), nil⟩ p = none := by
        rw [step_one begB t hdg hps p hlt hd (h46 hlt), if_neg]
        intro h
        have h4 := h.2.2.2
        rw [beg1 _ (by omega)] at h4
        simp only [Bool.or_eq_true, beq_iff_eq] at h4
        apply hx
        simp only [List.mem_cons, List.not_mem_nil, or_false]
        omega
      rw [rd_none asc_beg hlt hs]
      simp only [List.mem_cons, List.not_mem_nil, or_false, not_or] at hx
      have e : sfC t p = (0, p, 4) := by
        unfold sfC
        rw [if_pos hlt, if_neg (by omega), if_neg (by omega), if_neg (by omega), if_neg (by omega), if_neg (by omega)]
      rw [e]
      exact ⟨_, _, rfl, Or.inl ⟨rfl, rfl⟩⟩
  · have e : sfC t p = (1000, p, 0) := by
      unfold sfC
      rw [if_neg hlt]
    rw [rdL_end hlt, e]
    exact ⟨_, _, rfl, Or.inr (Or.inr ⟨rfl, rfl, v0.1, v0.2⟩)⟩
/-- the sign behind a share -/
def pcC (t : ByteArray) (p : Nat) : Int × Nat × Int := if p < t.size then (if gb t p = 37 then (if p + 1 < t.size then (0, p + 1, 4) else (0, p + 1, 0)) else (0, p, 4)) else (0, p, 3)
theorem pct1 : ∀ n : Nat, n < 128 → pctB (nil ++ ⟨#[UInt8.ofNat n]⟩) = (n == 37) := by decide +kernel
theorem pct2 : ∀ n : Nat, n < 128 → pctB ((⟨#[37]⟩ : ByteArray) ++ ⟨#[UInt8.ofNat n]⟩) = false := by decide +kernel
theorem sp_pct (t : ByteArray) (many : Nat) : SP pctB pctB (fun _ => 0) t many (pcC t) := by
  intro k p n dg m ps hdg hps hp hk hd h46
  by_cases hlt : p < t.size
  · obtain ⟨k, rfl⟩ : ∃ j, k = j + 1 := ⟨k - 1, by omega⟩
    have hr := gb_rg t p
    have hs := step_one pctB t (n := n) (m := m) (ms := (many : Int)) hdg hps p hlt hd (h46 hlt)
    unfold pcC
    rw [if_pos hlt]
    by_cases hx : gb t p = 37
    · have e37 : (gb t p).toNat = 37 := by omega
      have hd0 : dgB t p = false := by
        rw [Bool.eq_false_iff]
        intro h
        have := dg_iff.1 h
        omega
      rw [if_pos ⟨by omega, by omega, hd0, by rw [e37]; decide +kernel⟩, e37, app1 37 (by decide)] at hs
      rw [rd_some hlt hs, if_pos hx]
      by_cases h1 : p + 1 < t.size
      · obtain ⟨k, rfl⟩ : ∃ j, k = j + 1 := ⟨k - 1, by omega⟩
        have s2 := step_ne pctB t (n := n) (m := m) (ms := (many : Int)) (s := ⟨#[UInt8.ofNat 37]⟩) (by decide) hdg hps (p + 1)
        rw [if_neg (fun h => by
          have h4 := h.2.2
          have h5 := pct2 (gb t (p + 1)).toNat (by have := gb_rg t (p + 1); omega)
          rw [show (⟨#[UInt8.ofNat 37]⟩ : ByteArray) = ⟨#[37]⟩ from rfl, h5] at h4
          cases h4)] at s2
        rw [rd_none asc_pct h1 s2, if_pos h1]
        exact ⟨_, _, rfl, Or.inl ⟨rfl, rfl⟩⟩
      · rw [rdL_end h1, if_neg h1]
        exact ⟨_, _, rfl, Or.inr (Or.inr ⟨rfl, rfl, by decide +kernel, rfl⟩)⟩
    · rw [if_neg (fun h => by
        have h4 := h.2.2.2
        rw [pct1 _ (by omega)] at h4
        simp only [beq_iff_eq] at h4
        exact hx (by omega))] at hs
      rw [rd_none asc_pct hlt hs, if_neg hx]
      exact ⟨_, _, rfl, Or.inl ⟨rfl, rfl⟩⟩
  · rw [rdL_end hlt]
    unfold pcC
    rw [if_neg hlt]
    exact ⟨_, _, rfl, Or.inr (Or.inl ⟨rfl, rfl, by decide +kernel, by show p = t.size; omega⟩)⟩
theorem pl_fuel (t : ByteArray) (many : Nat) : ∀ (k k' : Nat) (m : Int) (p c : Nat), t.size < k + p → t.size < k' + p → p ≤ t.size → plC t many k m p c = plC t many k' m p c
  | 0, _, _, _, _, h, _, hp => by omega
  | _ + 1, 0, _, _, _, _, h, hp => by omega
  | k + 1, k' + 1, m, p, c, h, h', hp => by
    unfold plC
    by_cases hd : dgB t p = true ∧ c < many
    · have := (dg_iff.1 hd.1).1
      rw [if_pos hd, if_pos hd]
      exact pl_fuel t many k k' _ _ _ (by omega) (by omega) (by omega)
    · rw [if_neg hd, if_neg hd]
/-- the whole of a text: number, part, suffix; or where it is wrong -/
structure Par where
  n : Int
  f : Int
  s : Int
  at_ : Nat
  e : Int
def tailC (n f : Int) (x : Int × Nat × Int) : Par := if x.2.2 = 0 then ⟨n, f, x.1, 0, 0⟩ else ⟨0, 0, 0, x.2.1, x.2.2⟩
def parC (t : ByteArray) (many : Nat) (sf : Nat → Int × Nat × Int) : Par :=
  if (wlC t (t.size + 1) 0 0).2.2 ≠ 0 then ⟨0, 0, 0, (wlC t (t.size + 1) 0 0).2.1, (wlC t (t.size + 1) 0 0).2.2⟩
  else if (wlC t (t.size + 1) 0 0).2.1 < t.size ∧ gb t (wlC t (t.size + 1) 0 0).2.1 = 46 then
    (if (plC t many (t.size + 1) 0 ((wlC t (t.size + 1) 0 0).2.1 + 1) 0).2.2 = 0 then ⟨0, 0, 0, (plC t many (t.size + 1) 0 ((wlC t (t.size + 1) 0 0).2.1 + 1) 0).2.1, if (plC t many (t.size + 1) 0 ((wlC t (t.size + 1) 0 0).2.1 + 1) 0).2.1 = t.size then 3 else 4⟩
    else tailC (wlC t (t.size + 1) 0 0).1 ((plC t many (t.size + 1) 0 ((wlC t (t.size + 1) 0 0).2.1 + 1) 0).1 * ten (many - (plC t many (t.size + 1) 0 ((wlC t (t.size + 1) 0 0).2.1 + 1) 0).2.2)) (sf (plC t many (t.size + 1) 0 ((wlC t (t.size + 1) 0 0).2.1 + 1) 0).2.1))
  else tailC (wlC t (t.size + 1) 0 0).1 0 (sf (wlC t (t.size + 1) 0 0).2.1)
/-- what read answers comes to that -/
def Came (val : ByteArray → Int) (x : Rd × Int × Int) (c : Par) : Prop := x.2.2 = c.e ∧ x.2.1 = (c.at_ : Int) ∧ (c.e = 0 → x.1.wh = c.n ∧ x.1.pt = c.f ∧ val x.1.sx = c.s)
theorem tail_came {kn en : ByteArray → Bool} {val : ByteArray → Int} {t : ByteArray} {many : Nat} {sf : Nat → Int × Nat × Int} (hsp : SP kn en val t many sf) (hm : 1 ≤ many) (k p : Nat) (n dg m ps : Int) (hdg : dg ≠ 0) (hps : ps ≠ 0) (hp : p ≤ t.size) (hk : t.size < k + p)
    (h1 : dgB t p = true → 0 ≤ ps ∧ ps = (many : Int)) (h2 : p < t.size → gb t p = 46 → 0 ≤ ps) (hr : rdL kn t (t.size + 1) 0 (rd0 (many : Int)) = rdL kn t k p ⟨n, dg, m, ps, (many : Int), nil⟩) :
    Came val (readS kn en t (many : Int)) (tailC n (m * ten ((many : Int) - max ps 0).toNat) (sf p)) := by
  obtain ⟨s, fl, h3, h4⟩ := hsp k p n dg m ps hdg hps hp hk h1 h2
  rw [h3] at hr
  unfold readS
  rw [hr]
  dsimp only
  unfold tailC
  rcases h4 with ⟨e, rfl⟩ | ⟨e, rfl, h5, h6⟩ | ⟨e, rfl, h5, h6⟩
  · rw [if_pos rfl, e, if_neg (by decide)]
    exact ⟨rfl, rfl, fun h => by cases h⟩
  · rw [if_neg (by decide), if_pos (Or.inr (Or.inr h5)), e, if_neg (by decide), h6]
    exact ⟨rfl, rfl, fun h => by cases h⟩
  · rw [if_neg (by decide), if_neg (fun h => h.elim hdg (fun h => h.elim hps (fun h => by rw [h5] at h; cases h))), e, if_pos rfl]
    exact ⟨rfl, rfl, fun _ => ⟨rfl, rfl, h6⟩⟩
theorem readS_bad {kn en : ByteArray → Bool} {t : ByteArray} {ms : Int} {r : Rd} {p : Nat} (h : rdL kn t (t.size + 1) 0 (rd0 ms) = (r, p, false)) : readS kn en t ms = (r, (p : Int), 4) := by
  unfold readS
  rw [h]
  rfl
theorem readS_end {kn en : ByteArray → Bool} {t : ByteArray} {ms : Int} {r : Rd} {p : Nat} (h : rdL kn t (t.size + 1) 0 (rd0 ms) = (r, p, true)) (hc : r.dg = 0 ∨ r.ps = 0 ∨ en r.sx = false) : readS kn en t ms = (r, (t.size : Int), 3) := by
  unfold readS
  rw [h]
  dsimp only
  rw [if_neg (fun h => by cases h), if_pos hc]
theorem goes_none (kn : ByteArray → Bool) (r : Rd) (c : Int) (h : ¬ (48 ≤ c ∧ c ≤ 57 ∧ r.sx.size = 0)) (h2 : r.dg = 0 ∨ r.ps = 0) : goesS kn r c = none := by
  unfold goesS
  rw [if_neg h]
  split
  · rw [if_pos (h2.elim Or.inl (fun h => Or.inr (Or.inl (by omega))))]
  · rw [if_pos (h2.elim Or.inl (fun h => Or.inr (Or.inl h)))]
theorem read_par {kn en : ByteArray → Bool} {val : ByteArray → Int} (hk : Asc kn) {t : ByteArray} {many : Nat} {sf : Nat → Int × Nat × Int} (hsp : SP kn en val t many sf) (hm : 1 ≤ many) :
    Came val (readS kn en t (many : Int)) (parC t many sf) := by
  have h0 := ph1 hk t (many : Int) (t.size + 1) 0 0 (by omega) (Nat.zero_le _) (fun _ => rfl) (fun h => by cases h)
  rcases h0 with ⟨r', h1, h2⟩ | ⟨k', n', q, h1, h2, _, h3, h4, h5⟩
  · unfold parC
    rw [h2, if_pos (by decide)]
    have h1' : rdL kn t (t.size + 1) 0 (rd0 (many : Int)) = (r', 1, false) := h1
    rw [readS_bad h1']
    exact ⟨rfl, rfl, fun h => by cases h⟩
  · have h4' : rdL kn t (t.size + 1) 0 (rd0 (many : Int)) = rdL kn t k' q ⟨n', (q : Int), 0, -1, (many : Int), nil⟩ := h4
    by_cases hq : q = 0
    · rw [if_pos hq] at h5
      subst hq
      unfold parC
      rw [h5]
      by_cases hz : t.size = 0
      · rw [if_pos (show ((0 : Int), 0, if t.size = 0 then (3 : Int) else 4).2.2 ≠ 0 by dsimp only; rw [if_pos hz]; decide), if_pos hz]
        rw [readS_end (h4'.trans (rdL_end (by omega))) (Or.inl rfl)]
        exact ⟨rfl, by show (t.size : Int) = ((0 : Nat) : Int); omega, fun h => by cases h⟩
      · rw [if_pos (show ((0 : Int), 0, if t.size = 0 then (3 : Int) else 4).2.2 ≠ 0 by dsimp only; rw [if_neg hz]; decide), if_neg hz]
        obtain ⟨k', rfl⟩ : ∃ j, k' = j + 1 := ⟨k' - 1, by omega⟩
        have hs : stepB kn t ⟨n', ((0 : Nat) : Int), 0, -1, (many : Int), nil⟩ 0 = none := by
          unfold stepB
          split
          · exact goes_none kn _ _ (fun h => by rw [Bool.eq_false_iff] at h3; exact h3 (dg_iff.2 ⟨by omega, h.1, h.2.1⟩)) (Or.inl rfl)
          · rfl
        rw [readS_bad (h4'.trans (rd_none hk (by omega) hs))]
        exact ⟨rfl, rfl, fun h => by cases h⟩
    · rw [if_neg hq] at h5
      have hdg : ((q : Nat) : Int) ≠ 0 := by omega
      by_cases h46 : q < t.size ∧ gb t q = 46
      · obtain ⟨k', rfl⟩ : ∃ j, k' = j + 1 := ⟨k' - 1, by omega⟩
        have hs : stepB kn t ⟨n', (q : Int), 0, -1, (many : Int), nil⟩ q = some ⟨n', (q : Int), 0, 0, (many : Int), nil⟩ := by
          unfold stepB
          rw [if_pos (by omega)]
          unfold goesS
          rw [if_neg (by omega), if_pos h46.2, if_neg (by
            intro h
            rcases h with h | h | h
            · exact hdg h
            · have h' : (0 : Int) ≤ -1 := h
              omega
            · exact h rfl)]
        rw [rd_some h46.1 hs] at h4'
        obtain ⟨k3, i1, i2, i3, i3b, i4, i5, i6, i7⟩ := ph2 kn t n' (q : Int) many k' 0 (q + 1) 0 (by omega) (by omega) (Nat.zero_le _)
        have hf := pl_fuel t many k' (t.size + 1) 0 (q + 1) 0 (by omega) (by omega) (by omega)
        rw [hf] at i1 i2 i3 i3b i4 i5 i6 i7
        have i7' : rdL kn t k' (q + 1) ⟨n', (q : Int), 0, 0, (many : Int), nil⟩ = _ := i7
        rw [i7'] at h4'
        unfold parC
        rw [h5]
        dsimp only
        rw [if_neg (by decide), if_pos h46]
        generalize plC t many (t.size + 1) 0 (q + 1) 0 = x at i1 i2 i3 i3b i5 i6 h4'
        obtain ⟨xm, xp, xc⟩ := x
        dsimp only at i1 i2 i3 i3b i5 i6 h4' ⊢
        by_cases hc : xc = 0
        · subst hc
          rw [if_pos rfl]
          by_cases he : xp = t.size
          · rw [if_pos he]
            rw [readS_end (h4'.trans (rdL_end (by omega))) (Or.inr (Or.inl rfl))]
            exact ⟨rfl, by show (t.size : Int) = (xp : Int); omega, fun h => by cases h⟩
          · rw [if_neg he]
            obtain ⟨k3, rfl⟩ : ∃ j, k3 = j + 1 := ⟨k3 - 1, by omega⟩
            have hs : stepB kn t ⟨n', (q : Int), xm, ((0 : Nat) : Int), (many : Int), nil⟩ xp = none := by
              unfold stepB
              split
              · exact goes_none kn _ _ (fun h => by have := i6 (dg_iff.2 ⟨by omega, h.1, h.2.1⟩); omega) (Or.inr rfl)
              · rfl
            rw [readS_bad (h4'.trans (rd_none hk (by omega) hs))]
            exact ⟨rfl, rfl, fun h => by cases h⟩
        · rw [if_neg hc]
          have := tail_came hsp hm k3 xp n' (q : Int) xm (xc : Int) hdg (by omega) i2 i1 (fun h => by have := i6 h; omega) (fun _ _ => by omega) h4'
          rw [show ((many : Int) - max (xc : Int) 0).toNat = many - xc by omega] at this
          exact this
      · have := tail_came hsp hm k' q n' (q : Int) 0 (-1) hdg (by decide) h2 h1 (fun h => by rw [h3] at h; cases h) (fun h h' => absurd ⟨h, h'⟩ h46) h4'
        unfold parC
        rw [h5]
        dsimp only
        rw [if_neg (by decide), if_neg h46]
        rw [Int.zero_mul] at this
        exact this
end Go.Proofs.YtceepgleeelohaaDoor.P
