import Derived.Test.YtcpalnmodbbklaaDoorHutf
import Derived.Test.YtcpalnmodbbklaaDoorHdec
/- Plain laws: where a text is wrong. -/
namespace Go.Proofs.YtcpalnmodbbklaaDoor.P
set_option linter.unusedVariables false
set_option linter.unusedSimpArgs false
open Go.RowKit Go.Proofs.YtcpalnmodbbklaaDoorW.PrintWords Go.Proofs.YtcpalnmodbbklaaDoorW.PrintLast Go.Proofs.YtcpalnmodbbklaaDoorW.PrintMore

/-- two texts begin alike -/
def Pre (s t : ByteArray) (m : Nat) : Prop := m ≤ t.size ∧ ∀ i, i < m → t.get! i = s.get! i
theorem Pre.less {s t : ByteArray} {m k : Nat} (h : Pre s t m) (hk : k ≤ m) : Pre s t k := ⟨Nat.le_trans hk h.1, fun i hi => h.2 i (Nat.lt_of_lt_of_le hi hk)⟩
theorem stepB_10 (σ : Sc) : stepB σ 10 = (σ, 0) := by
  unfold stepB
  rw [if_pos (by decide)]
theorem goB_10 (k : Nat) : goB k 10 = false := by
  unfold goB smallB digitB greatB
  split <;> decide
theorem step_10 (σ : Sc) : ((stepS σ 10).2 = 0 ∧ (stepS σ 10).1.md = .btw) ∨ (stepS σ 10).2 = 3 := by
  obtain ⟨md, wd, gk, tx, ln, cl⟩ := σ
  cases md with
  | btw => left; unfold stepS; dsimp only; rw [stepB_10]; exact ⟨rfl, rfl⟩
  | pln => left; unfold stepS stepP; dsimp only; rw [goB_10, if_neg (by simp), if_pos (by decide), stepB_10]; exact ⟨rfl, rfl⟩
  | quo => right; rfl
  | esc => right; rfl
  | com => left; exact ⟨rfl, rfl⟩
theorem stepB_3 (σ : Sc) (c : Int) : (stepB σ c).2 ≠ 3 := by
  unfold stepB
  repeat' split
  all_goals (dsimp only; decide)
theorem step_3 (σ : Sc) (c : Int) (h : (stepS σ c).2 = 3) : c = 10 := by
  obtain ⟨md, wd, gk, tx, ln, cl⟩ := σ
  cases md with
  | btw => exact absurd h (stepB_3 _ _)
  | pln =>
    unfold stepS stepP at h
    dsimp only at h
    split at h
    · cases h
    split at h
    · exact absurd h (stepB_3 _ _)
    · cases h
  | quo =>
    unfold stepS stepQ at h
    dsimp only at h
    split at h
    · assumption
    · repeat' split at h
      all_goals cases h
  | esc =>
    unfold stepS stepE at h
    dsimp only at h
    split at h
    · assumption
    · repeat' split at h
      all_goals cases h
  | com => cases h
theorem stepS_keep (σ : Sc) (c : Int) : (stepS σ c).1.ln = σ.ln ∧ (stepS σ c).1.cl = σ.cl := by
  have hB : ∀ τ : Sc, (stepB τ c).1.ln = τ.ln ∧ (stepB τ c).1.cl = τ.cl := by
    intro τ
    unfold stepB
    repeat' split
    all_goals exact ⟨rfl, rfl⟩
  obtain ⟨md, wd, gk, tx, ln, cl⟩ := σ
  cases md with
  | btw => exact hB _
  | pln =>
    unfold stepS stepP
    dsimp only
    split
    · exact ⟨rfl, rfl⟩
    split
    · exact hB (endS ⟨.pln, wd, gk, tx, ln, cl⟩)
    · exact ⟨rfl, rfl⟩
  | quo =>
    unfold stepS stepQ
    dsimp only
    repeat' split
    all_goals exact ⟨rfl, rfl⟩
  | esc =>
    unfold stepS stepE
    dsimp only
    repeat' split
    all_goals exact ⟨rfl, rfl⟩
  | com =>
    unfold stepS stepC
    dsimp only
    split
    all_goals exact ⟨rfl, rfl⟩
/-- how many line ends stand ahead of a place -/
def nl (s : ByteArray) : Nat → Nat
  | 0 => 0
  | a + 1 => nl s a + if (s.get! a).toNat = 10 then 1 else 0
theorem nl_succ (s : ByteArray) (a : Nat) : nl s (a + 1) = nl s a + if (s.get! a).toNat = 10 then 1 else 0 := rfl
theorem nl_same {s : ByteArray} {a : Nat} : ∀ b, a ≤ b → (∀ i, a ≤ i → i < b → (s.get! i).toNat ≠ 10) → nl s b = nl s a := by
  intro b
  induction b with
  | zero =>
    intro h _
    have : a = 0 := by omega
    rw [this]
  | succ b ih =>
    intro h hn
    rcases Nat.lt_or_ge b a with h1 | h1
    · have : a = b + 1 := by omega
      rw [this]
    · rw [nl_succ, if_neg (hn b h1 (Nat.lt_succ_self b)), ih h1 (fun i h2 h3 => hn i h2 (by omega))]
      omega
theorem nl_le {s : ByteArray} {a : Nat} : ∀ b, a ≤ b → nl s a ≤ nl s b := by
  intro b
  induction b with
  | zero =>
    intro h
    have : a = 0 := by omega
    rw [this]
    exact Nat.le_refl _
  | succ b ih =>
    intro h
    rcases Nat.lt_or_ge b a with h1 | h1
    · have : a = b + 1 := by omega
      rw [this]
      exact Nat.le_refl _
    · have := ih h1
      rw [nl_succ]
      omega
/-- a line begins -/
structure LB (s : ByteArray) (a : Nat) : Prop where
  b : a = 0 ∨ (0 < a ∧ (s.get! (a - 1)).toNat = 10)
  run : ∃ n τ, n ≤ a ∧ τ.md = .btw ∧ ∀ t, Pre s t a → ∀ k, wordsGo t (n + k) 0 sc0 = wordsGo t k a τ
/-- the machine stands at a place -/
structure Tr (s : ByteArray) (p : Nat) (σ : Sc) : Prop where
  pz : p ≤ s.size
  run : ∃ n, n ≤ p ∧ ∀ t, Pre s t p → ∀ k, wordsGo t (n + k) 0 sc0 = wordsGo t k p σ
  lin : ∃ a r, a ≤ p ∧ LB s a ∧ σ.ln = ((nl s a + 1 : Nat) : Int) ∧ (∀ i, a ≤ i → i < p → (s.get! i).toNat ≠ 10) ∧ σ.cl = ((r + 1 : Nat) : Int) ∧ r ≤ p - a ∧ ∀ t, Pre s t p → ∀ k, Lib.runeCountFrom t (r + k) a = r + Lib.runeCountFrom t k p
theorem Tr.zero (s : ByteArray) : Tr s 0 sc0 :=
  ⟨Nat.zero_le _, ⟨0, Nat.le_refl _, fun t _ k => by rw [Nat.zero_add]⟩, 0, 0, Nat.le_refl _, ⟨Or.inl rfl, 0, sc0, Nat.le_refl _, rfl, fun t _ k => by rw [Nat.zero_add]⟩, rfl, fun i h1 h2 => by omega, rfl, Nat.zero_le _, fun t _ k => by rw [Nat.zero_add, Nat.zero_add]⟩
theorem pre_decode {s t : ByteArray} {p : Nat} (hp : p < s.size) (ho : oddB s p = false) (h : Pre s t (p + (Utf8.decode s p).2)) : Utf8.decode t p = Utf8.decode s p ∧ oddB t p = false := by
  have hb : ∀ i, i < (Utf8.decode s p).2 → t.get! (p + i) = s.get! (p + i) := fun i hi => h.2 (p + i) (by omega)
  exact ⟨decode_local hp ho h.1 hb, odd_local hp ho h.1 hb⟩
theorem wordsGo_step {t : ByteArray} {k p : Nat} {σ : Sc} (hp : p < t.size) (ho : oddB t p = false) (he : (stepS σ (Utf8.decode t p).1).2 = 0) :
    wordsGo t (k + 1) p σ = wordsGo t k (p + (Utf8.decode t p).2) (moveS (stepS σ (Utf8.decode t p).1).1 (Utf8.decode t p).1) := by
  conv => lhs; unfold wordsGo
  rw [if_pos hp, ho, if_neg (by simp), if_pos he]
theorem count_step {t : ByteArray} {k p : Nat} (hp : p < t.size) : Lib.runeCountFrom t (k + 1) p = 1 + Lib.runeCountFrom t k (p + (Utf8.decode t p).2) := by
  conv => lhs; unfold Lib.runeCountFrom
  rw [if_pos hp]
theorem decode_in' (s : ByteArray) (p : Nat) (h : p < s.size) : 1 ≤ (Utf8.decode s p).2 ∧ p + (Utf8.decode s p).2 ≤ s.size := by
  have h1 := (decode_range s p).2.1
  have h2 := Lib.decodeL_le (s.data.toList.drop p) (drop_ne h)
  rw [decodeL_drop] at h2
  simp at h2
  omega
theorem Tr.step {s : ByteArray} {p : Nat} {σ : Sc} (h : Tr s p σ) (hp : p < s.size) (ho : oddB s p = false) (he : (stepS σ (Utf8.decode s p).1).2 = 0) :
    Tr s (p + (Utf8.decode s p).2) (moveS (stepS σ (Utf8.decode s p).1).1 (Utf8.decode s p).1) := by
  obtain ⟨hw1, hw2⟩ := decode_in' s p hp
  obtain ⟨n, hn, hrun⟩ := h.run
  have hrun2 : ∀ t, Pre s t (p + (Utf8.decode s p).2) → ∀ k, wordsGo t (n + 1 + k) 0 sc0 = wordsGo t k (p + (Utf8.decode s p).2) (moveS (stepS σ (Utf8.decode s p).1).1 (Utf8.decode s p).1) := by
    intro t ht k
    obtain ⟨d1, d2⟩ := pre_decode hp ho ht
    rw [show n + 1 + k = n + (k + 1) by omega, hrun t (ht.less (by omega)) (k + 1), wordsGo_step (by have := ht.1; omega) d2 (by rw [d1]; exact he), d1]
  obtain ⟨a, r, hap, hlb, hln, hno, hcl, hra, hcnt⟩ := h.lin
  obtain ⟨k1, k2⟩ := stepS_keep σ ((Utf8.decode s p).1 : Int)
  refine ⟨hw2, ⟨n + 1, by omega, hrun2⟩, ?_⟩
  by_cases h10 : (Utf8.decode s p).1 = 10
  · obtain ⟨e1, e2⟩ := decode_low (s := s) (p := p) (by omega)
    have hm : moveS (stepS σ (Utf8.decode s p).1).1 (Utf8.decode s p).1 = { (stepS σ (Utf8.decode s p).1).1 with ln := (stepS σ (Utf8.decode s p).1).1.ln + 1, cl := 1 } := by
      unfold moveS
      rw [if_pos (by rw [h10]; rfl)]
    refine ⟨p + (Utf8.decode s p).2, 0, Nat.le_refl _, ⟨Or.inr ⟨by omega, by rw [e1]; simpa [h10] using e2⟩, n + 1, _, by omega, ?_, hrun2⟩, ?_, fun i h1 h2 => by omega, ?_, Nat.zero_le _, fun t _ k => by rw [Nat.zero_add, Nat.zero_add]⟩
    · rw [hm]
      have := step_10 σ
      rw [h10] at he ⊢
      rcases this with ⟨_, h2⟩ | h2
      · exact h2
      · have h3 : (stepS σ ((10 : Nat) : Int)).2 = 3 := h2
        rw [h3] at he
        cases he
    · rw [hm, e1]
      show (stepS σ (Utf8.decode s p).1).1.ln + 1 = _
      rw [k1, hln, nl_succ]
      rw [if_pos (by rw [e2, h10]), nl_same p hap hno]
      simp
    · rw [hm]; rfl
  · have hm : moveS (stepS σ (Utf8.decode s p).1).1 (Utf8.decode s p).1 = { (stepS σ (Utf8.decode s p).1).1 with cl := (stepS σ (Utf8.decode s p).1).1.cl + 1 } := by
      unfold moveS
      rw [if_neg (by omega)]
    refine ⟨a, r + 1, by omega, hlb, ?_, ?_, ?_, by omega, ?_⟩
    · rw [hm]
      show (stepS σ (Utf8.decode s p).1).1.ln = _
      rw [k1, hln]
    · intro i h1 h2
      rcases Nat.lt_or_ge i p with h3 | h3
      · exact hno i h1 h3
      · rcases Nat.lt_or_ge (Utf8.decode s p).1 128 with h4 | h4
        · obtain ⟨e1, e2⟩ := decode_low h4
          obtain rfl : i = p := by omega
          omega
        · have := decode_high h4 ho (i - p) (by omega)
          rw [show p + (i - p) = i by omega] at this
          omega
    · rw [hm]
      show (stepS σ (Utf8.decode s p).1).1.cl + 1 = _
      rw [k2, hcl]
      simp
    · intro t ht k
      obtain ⟨d1, d2⟩ := pre_decode hp ho ht
      rw [show r + 1 + k = r + (k + 1) by omega, hcnt t (ht.less (by omega)) (k + 1), count_step (by have := ht.1; omega), d1]
      omega
/-- what the machine says of a text -/
structure Bad (s : ByteArray) (r : List SW × Int × Int × Int) : Prop where
  ex : ∃ p σ, Tr s p σ ∧ r.2.1 = σ.ln ∧ r.2.2.1 = σ.cl ∧ (r.2.2.2 = 3 ↔ (p = s.size ∨ (s.get! p).toNat = 10)) ∧ (p < s.size ∨ p = s.size)
  ne : r.2.2.2 ≠ 0
theorem go_ends (s : ByteArray) : ∀ k p σ, Tr s p σ → s.size - p < k → ((wordsGo s k p σ).2 = (0, 0, 0) ∧ ∀ m, Lib.validGoD m (s.data.toList.drop p) = true) ∨ Bad s (wordsGo s k p σ) := by
  intro k
  induction k with
  | zero => intro p σ _ h; omega
  | succ k ih =>
    intro p σ h hk
    by_cases hp : p < s.size
    · cases ho : oddB s p with
      | true =>
        right
        have e : wordsGo s (k + 1) p σ = ([], σ.ln, σ.cl, 4) := by
          conv => lhs; unfold wordsGo
          rw [if_pos hp, if_pos ho]
        rw [e]
        refine ⟨⟨p, σ, h, rfl, rfl, ⟨fun h => (by cases h), fun h => ?_⟩, Or.inl hp⟩, by show (4 : Int) ≠ 0; decide⟩
        exfalso
        rcases h with h | h
        · omega
        · rw [show oddB s p = (decide ((Utf8.decode s p).1 = 65533) && decide ((Utf8.decode s p).2 = 1)) from rfl, decode_asc (by omega)] at ho
          simp at ho
          omega
      | false =>
        by_cases he : (stepS σ (Utf8.decode s p).1).2 = 0
        · rw [wordsGo_step hp ho he]
          have hw := decode_in' s p hp
          rcases ih _ _ (h.step hp ho he) (by omega) with ⟨h1, h2⟩ | h1
          · left
            refine ⟨h1, fun m => ?_⟩
            cases m with
            | zero => rfl
            | succ m =>
              unfold Lib.validGoD
              rw [if_neg (drop_ne hp), decodeL_drop, if_neg (fun hh => by
                unfold oddB at ho
                rw [decide_eq_true hh.1, decide_eq_true hh.2] at ho
                cases ho), List.drop_drop]
              exact h2 m
          · exact Or.inr h1
        · right
          have e : wordsGo s (k + 1) p σ = ([], σ.ln, σ.cl, (stepS σ (Utf8.decode s p).1).2) := by
            conv => lhs; unfold wordsGo
            rw [if_pos hp, ho, if_neg (by simp), if_neg he]
          rw [e]
          refine ⟨⟨p, σ, h, rfl, rfl, ⟨fun h3 => ?_, fun h3 => ?_⟩, Or.inl hp⟩, he⟩
          · right
            have h4 := step_3 σ _ h3
            have h5 : (Utf8.decode s p).1 = 10 := by omega
            have := (decode_low (s := s) (p := p) (by omega)).2
            omega
          · rcases h3 with h3 | h3
            · omega
            · have h5 : (Utf8.decode s p).1 = 10 := by rw [decode_asc (by omega)]; exact h3
              show (stepS σ (Utf8.decode s p).1).2 = 3
              rw [h5] at he ⊢
              rcases step_10 σ with ⟨h6, _⟩ | h6
              · exact absurd h6 he
              · exact h6
    · have hpe : p = s.size := by have := h.pz; omega
      by_cases he : (stepS σ 10).2 = 0
      · left
        have e : wordsGo s (k + 1) p σ = ((stepS σ 10).1.wd, 0, 0, 0) := by
          conv => lhs; unfold wordsGo
          rw [if_neg hp, if_pos he]
        rw [e]
        refine ⟨rfl, fun m => ?_⟩
        have hd : s.data.toList.drop p = [] := by rw [List.drop_eq_nil_iff]; simp; omega
        rw [hd]
        cases m with
        | zero => rfl
        | succ m => unfold Lib.validGoD; rw [if_pos rfl]
      · right
        have e : wordsGo s (k + 1) p σ = ([], σ.ln, σ.cl, (stepS σ 10).2) := by
          conv => lhs; unfold wordsGo
          rw [if_neg hp, if_neg he]
        rw [e]
        refine ⟨⟨p, σ, h, rfl, rfl, ⟨fun _ => Or.inl hpe, fun _ => ?_⟩, Or.inr hpe⟩, he⟩
        rcases step_10 σ with ⟨h6, _⟩ | h6
        · exact absurd h6 he
        · exact h6
end Go.Proofs.YtcpalnmodbbklaaDoor.P
