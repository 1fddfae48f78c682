import Derived.Test.YtcpalnmodbbklaaDoorHwhere
import Derived.Test.YtcpalnmodbbklaaDoorHref6
/- The program's words are the reference's. -/
namespace Go.Proofs.YtcpalnmodbbklaaDoor.P
set_option linter.unusedVariables false
set_option linter.unusedSimpArgs false
open Go.RowKit Go.Proofs.YtcpalnmodbbklaaDoorW.PrintWords Go.Proofs.YtcpalnmodbbklaaDoorW.PrintLast Go.Proofs.YtcpalnmodbbklaaDoorW.PrintMore

/-- what the machine makes of the rest of a text -/
def Wd (s : ByteArray) (p : Nat) (σ : Sc) : List SW × Int × Int × Int := wordsGo s (s.size - p + 1) p σ
theorem monoW (s : ByteArray) : ∀ k p σ, s.size - p < k → wordsGo s (k + 1) p σ = wordsGo s k p σ := by
  intro k
  induction k with
  | zero => intro p σ h; omega
  | succ k ih =>
    intro p σ h
    conv => lhs; unfold wordsGo
    conv => rhs; unfold wordsGo
    by_cases hp : p < s.size
    · have hw := decode_in' s p hp
      rw [if_pos hp, if_pos hp]
      split
      · rfl
      split
      · exact ih _ _ (by omega)
      · rfl
    · rw [if_neg hp, if_neg hp]
theorem fuelW (s : ByteArray) (k p : Nat) (σ : Sc) (h : s.size - p < k) : wordsGo s k p σ = Wd s p σ := by
  obtain ⟨j, rfl⟩ : ∃ j, k = s.size - p + 1 + j := ⟨k - (s.size - p + 1), by omega⟩
  clear h
  induction j with
  | zero => rfl
  | succ j ih => rw [← Nat.add_assoc, monoW s _ p σ (by omega)]; exact ih
theorem W_end {s : ByteArray} {p : Nat} {σ : Sc} (h : ¬ p < s.size) : Wd s p σ = if (stepS σ 10).2 = 0 then ((stepS σ 10).1.wd, 0, 0, 0) else ([], σ.ln, σ.cl, (stepS σ 10).2) := by
  unfold Wd
  conv => lhs; unfold wordsGo
  rw [if_neg h]
theorem W_odd {s : ByteArray} {p : Nat} {σ : Sc} (h : p < s.size) (ho : oddB s p = true) : Wd s p σ = ([], σ.ln, σ.cl, 4) := by
  unfold Wd
  conv => lhs; unfold wordsGo
  rw [if_pos h, if_pos ho]
theorem W_bad {s : ByteArray} {p : Nat} {σ : Sc} {c : Int} {e : Int} {τ : Sc} (h : p < s.size) (ho : oddB s p = false) (hc : rcv s p = c) (hs : stepS σ c = (τ, e)) (he : e ≠ 0) : Wd s p σ = ([], σ.ln, σ.cl, e) := by
  rw [rcv_in h] at hc
  subst hc
  unfold Wd
  conv => lhs; unfold wordsGo
  rw [if_pos h, ho, if_neg (by simp), hs, if_neg he]
theorem W_on {s : ByteArray} {p : Nat} {σ τ : Sc} {c : Int} (h : p < s.size) (ho : oddB s p = false) (hc : rcv s p = c) (hs : stepS σ c = (τ, 0)) : Wd s p σ = Wd s (p + wdt s p) { τ with ln := lnv s p τ.ln, cl := clv s p τ.cl } := by
  rw [rcv_in h] at hc
  have hw := decode_in' s p h
  unfold Wd
  conv => lhs; unfold wordsGo
  rw [if_pos h, ho, if_neg (by simp), hc, hs, if_pos rfl, fuelW s (s.size - p) _ _ (by omega)]
  unfold Wd wdt moveS lnv clv
  by_cases h10 : (Utf8.decode s p).1 = 10
  · rw [if_pos (by omega), if_pos h10, if_pos h10]
  · rw [if_neg (by omega), if_neg h10, if_neg h10]
theorem rbv_odd {s : ByteArray} {p : Nat} (h : p < s.size) : rbv s p = !oddB s p := if_pos h
theorem rcv_end {s : ByteArray} {p : Nat} (h : ¬ p < s.size) : rcv s p = -1 := if_neg h
theorem odd_rcv {s : ByteArray} {p : Nat} (h : p < s.size) (ho : oddB s p = true) : rcv s p = 65533 := by
  unfold oddB at ho
  rw [rcv_in h]
  simp at ho
  omega
theorem low_odd {s : ByteArray} {p : Nat} (h : p < s.size) (hc : rcv s p ≠ 65533) : oddB s p = false := by
  rcases Bool.eq_false_or_eq_true (oddB s p) with h1 | h1
  · exact absurd (odd_rcv h h1) hc
  · exact h1
theorem lnv_no {s : ByteArray} {p : Nat} {ln : Int} (h : rcv s p ≠ 10) (hp : p < s.size) : lnv s p ln = ln := by
  rw [rcv_in hp] at h
  unfold lnv
  rw [if_neg (by omega)]
theorem L_com (s : ByteArray) : ∀ k p (σ : Sc), p ≤ s.size → s.size - p < k → σ.md = .com →
    ((comR s k p σ.ln σ.cl).1 = false ∧ Wd s p σ = ([], (comR s k p σ.ln σ.cl).2.2.1, (comR s k p σ.ln σ.cl).2.2.2, 4)) ∨
    ((comR s k p σ.ln σ.cl).1 = true ∧ (comR s k p σ.ln σ.cl).2.1 ≤ s.size ∧ (rcv s (comR s k p σ.ln σ.cl).2.1 = 10 ∨ (comR s k p σ.ln σ.cl).2.1 = s.size) ∧ Wd s p σ = Wd s (comR s k p σ.ln σ.cl).2.1 { σ with ln := (comR s k p σ.ln σ.cl).2.2.1, cl := (comR s k p σ.ln σ.cl).2.2.2 }) := by
  intro k
  induction k with
  | zero => intro p σ _ h; omega
  | succ k ih =>
    intro p σ hps hk hm
    obtain ⟨md, wd, gk, tx, ln, cl⟩ := σ
    dsimp only at hm
    subst hm
    unfold comR
    by_cases hin : 0 ≤ rcv s p ∧ rcv s p ≠ 10
    · have hp := rcv_lt hin.1
      have hw := decode_in' s p hp
      rw [if_pos hin]
      cases ho : oddB s p with
      | true =>
        left
        rw [rbv_odd hp, ho, if_neg (by simp)]
        exact ⟨rfl, W_odd hp ho⟩
      | false =>
        rw [rbv_odd hp, ho, if_pos (by simp)]
        have hstep : stepS ⟨.com, wd, gk, tx, ln, cl⟩ (rcv s p) = (⟨.com, wd, gk, tx, ln, cl⟩, 0) := by
          unfold stepS stepC
          dsimp only
          rw [if_neg hin.2]
        rw [W_on hp ho rfl hstep]
        exact ih (p + wdt s p) ⟨.com, wd, gk, tx, lnv s p ln, clv s p cl⟩ hw.2 (by unfold wdt; omega) rfl
    · right
      rw [if_neg hin]
      refine ⟨rfl, hps, ?_, rfl⟩
      rcases Nat.lt_or_ge p s.size with h | h
      · left
        show rcv s p = 10
        have := rcv_in h
        omega
      · right; dsimp only; omega
theorem L_cb {s : ByteArray} {p : Nat} {wd : List SW} {gk : Nat} {tx : List Int} {ln cl : Int} (h : rcv s p = 10 ∨ p = s.size) : Wd s p ⟨.com, wd, gk, tx, ln, cl⟩ = Wd s p ⟨.btw, wd, gk, tx, ln, cl⟩ := by
  rcases h with h | h
  · have hp := rcv_lt (s := s) (p := p) (by omega)
    have ho := low_odd hp (by omega)
    rw [W_on hp ho h (τ := ⟨.btw, wd, gk, tx, ln, cl⟩) rfl, W_on hp ho h (σ := ⟨.btw, wd, gk, tx, ln, cl⟩) (τ := ⟨.btw, wd, gk, tx, ln, cl⟩) (stepB_10 _)]
  · rw [W_end (by omega), W_end (by omega)]
    rfl
theorem L_skip (s : ByteArray) : ∀ k p (σ : Sc), p ≤ s.size → s.size - p < k → σ.md = .btw →
    ((skipR s k p σ.ln σ.cl).1 = false ∧ Wd s p σ = ([], (skipR s k p σ.ln σ.cl).2.2.1, (skipR s k p σ.ln σ.cl).2.2.2, 4)) ∨
    ((skipR s k p σ.ln σ.cl).1 = true ∧ (skipR s k p σ.ln σ.cl).2.1 ≤ s.size ∧ (rcv s (skipR s k p σ.ln σ.cl).2.1 ≠ 35 ∧ rcv s (skipR s k p σ.ln σ.cl).2.1 ≠ 32 ∧ rcv s (skipR s k p σ.ln σ.cl).2.1 ≠ 9 ∧ rcv s (skipR s k p σ.ln σ.cl).2.1 ≠ 10) ∧ Wd s p σ = Wd s (skipR s k p σ.ln σ.cl).2.1 { σ with ln := (skipR s k p σ.ln σ.cl).2.2.1, cl := (skipR s k p σ.ln σ.cl).2.2.2 }) := by
  intro k
  induction k with
  | zero => intro p σ _ h; omega
  | succ k ih =>
    intro p σ hps hk hm
    obtain ⟨md, wd, gk, tx, ln, cl⟩ := σ
    dsimp only at hm
    subst hm
    unfold skipR
    by_cases h35 : rcv s p = 35
    · have hp := rcv_lt (s := s) (p := p) (by omega)
      have ho := low_odd hp (by omega)
      have hw := decode_in' s p hp
      rw [if_pos h35]
      have hc : comR s (k + 1) p ln cl = comR s k (p + wdt s p) (lnv s p ln) (clv s p cl) := by
        conv => lhs; unfold comR
        rw [if_pos ⟨by omega, by omega⟩, rbv_odd hp, ho, if_pos (by simp)]
      have hs : stepS ⟨.btw, wd, gk, tx, ln, cl⟩ 35 = (⟨.com, wd, gk, tx, ln, cl⟩, 0) := by
        unfold stepS stepB
        dsimp only
        rw [if_neg (by decide), if_pos rfl]
      rw [hc]
      have hW := W_on hp ho h35 hs
      dsimp only at hW ⊢
      rcases L_com s k (p + wdt s p) ⟨.com, wd, gk, tx, lnv s p ln, clv s p cl⟩ hw.2 (by unfold wdt; omega) rfl with ⟨h1, h2⟩ | ⟨h1, h2, h3, h4⟩
      · left
        dsimp only at h1 h2
        rw [h1, if_neg (by simp)]
        exact ⟨rfl, hW.trans h2⟩
      · dsimp only at h1 h2 h3 h4
        rw [h1, if_pos rfl]
        have hle := comR_le s k (p + wdt s p) (lnv s p ln) (clv s p cl)
        have hW2 := hW.trans (h4.trans (L_cb h3))
        rcases ih _ ⟨.btw, wd, gk, tx, (comR s k (p + wdt s p) (lnv s p ln) (clv s p cl)).2.2.1, (comR s k (p + wdt s p) (lnv s p ln) (clv s p cl)).2.2.2⟩ h2 (by unfold wdt at hle ⊢; omega) rfl with ⟨g1, g2⟩ | ⟨g1, g2, g3, g4⟩
        · left; exact ⟨g1, hW2.trans g2⟩
        · right; exact ⟨g1, g2, g3, hW2.trans g4⟩
    · rw [if_neg h35]
      by_cases hbl : rcv s p ≠ 32 ∧ rcv s p ≠ 9 ∧ rcv s p ≠ 10
      · right
        rw [if_pos hbl]
        exact ⟨rfl, hps, ⟨h35, hbl⟩, rfl⟩
      · rw [if_neg hbl]
        have hp := rcv_lt (s := s) (p := p) (by omega)
        have ho := low_odd hp (by omega)
        have hw := decode_in' s p hp
        have hs : stepS ⟨.btw, wd, gk, tx, ln, cl⟩ (rcv s p) = (⟨.btw, wd, gk, tx, ln, cl⟩, 0) := by
          unfold stepS stepB blankB
          dsimp only
          rw [if_pos (by simp; omega)]
        rw [W_on hp ho rfl hs]
        exact ih (p + wdt s p) ⟨.btw, wd, gk, tx, lnv s p ln, clv s p cl⟩ hw.2 (by unfold wdt; omega) rfl
/-- a rune's bytes -/
theorem runes_at {s : ByteArray} {p : Nat} {tx : List Int} (hp : p < s.size) (ho : oddB s p = false) : runesBytes (tx ++ [rcv s p]) = runesBytes tx ++ s.extract p (p + wdt s p) := by
  apply ba_ext
  rw [runes_snoc, ByteArray.data_append, ByteArray.data_append, Array.toList_append, Array.toList_append, encode_eq, rcv_in hp, enc_at hp ho, extract_list, Nat.add_sub_cancel_left]
  rfl
theorem extract_join (s : ByteArray) (a b c : Nat) (h1 : a ≤ b) (h2 : b ≤ c) (h3 : c ≤ s.size) : s.extract a b ++ s.extract b c = s.extract a c := by
  apply ba_ext
  rw [ByteArray.data_append, Array.toList_append, extract_list, extract_list, extract_list]
  rw [show c - a = (b - a) + (c - b) by omega, List.take_add]
  rw [List.drop_drop, show a + (b - a) = b by omega]
theorem L_plain (s : ByteArray) (kd p0 : Nat) (wd : List SW) : ∀ k p (tx : List Int) (ln cl : Int), p0 ≤ p → p ≤ s.size → s.size - p < k → runesBytes tx = s.extract p0 p →
    ∃ tx', runesBytes tx' = s.extract p0 (plainR s kd k p ln cl).1 ∧ (plainR s kd k p ln cl).1 ≤ s.size ∧ goB kd (rcv s (plainR s kd k p ln cl).1) = false ∧
      Wd s p ⟨.pln, wd, kd, tx, ln, cl⟩ = Wd s (plainR s kd k p ln cl).1 ⟨.pln, wd, kd, tx', (plainR s kd k p ln cl).2.1, (plainR s kd k p ln cl).2.2⟩ := by
  intro k
  induction k with
  | zero => intro p tx ln cl _ _ h; omega
  | succ k ih =>
    intro p tx ln cl h0 hps hk htx
    unfold plainR
    cases hg : goB kd (rcv s p) with
    | false =>
      rw [if_neg (by simp)]
      exact ⟨tx, htx, hps, hg, rfl⟩
    | true =>
      rw [if_pos rfl]
      have hp : p < s.size := by
        refine rcv_lt ?_
        have h1 := rcv_le s p
        rcases Int.lt_or_le (rcv s p) 0 with h | h
        · have : rcv s p = -1 := by omega
          rw [this, goB_neg] at hg
          cases hg
        · exact h
      have ho : oddB s p = false := by
        refine low_odd hp fun e => ?_
        rw [e] at hg
        have : goB kd 65533 = false := by unfold goB smallB digitB greatB; split <;> decide
        rw [this] at hg
        cases hg
      have hw := decode_in' s p hp
      have hs : stepS ⟨.pln, wd, kd, tx, ln, cl⟩ (rcv s p) = (⟨.pln, wd, kd, tx ++ [rcv s p], ln, cl⟩, 0) := by
        unfold stepS stepP
        dsimp only
        rw [if_pos hg]
      rw [W_on hp ho rfl hs]
      exact ih (p + wdt s p) (tx ++ [rcv s p]) (lnv s p ln) (clv s p cl) (by omega) hw.2 (by unfold wdt; omega) (by
        rw [runes_at hp ho, htx, extract_join s p0 p (p + wdt s p) h0 (Nat.le_add_right _ _) hw.2])
theorem L_pe {s : ByteArray} {p : Nat} {wd : List SW} {kd : Nat} {tx : List Int} {ln cl : Int} (hps : p ≤ s.size) (hg : goB kd (rcv s p) = false) :
    Wd s p ⟨.pln, wd, kd, tx, ln, cl⟩ = if rendsB (rcv s p) = true then Wd s p ⟨.btw, withText wd (runesBytes tx), kd, tx, ln, cl⟩ else ([], ln, cl, 4) := by
  by_cases hp : p < s.size
  · cases ho : oddB s p with
    | true =>
      rw [W_odd hp ho, odd_rcv hp ho, if_neg (by decide)]
    | false =>
      have hneg : ¬ (rcv s p < 0) := by rw [rcv_in hp]; omega
      unfold rendsB
      rw [decide_eq_false hneg, Bool.false_or]
      have hs : stepS ⟨.pln, wd, kd, tx, ln, cl⟩ (rcv s p) = if endsB (rcv s p) = true then stepB ⟨.btw, withText wd (runesBytes tx), kd, tx, ln, cl⟩ (rcv s p) else (⟨.pln, wd, kd, tx, ln, cl⟩, 4) := by
        unfold stepS stepP
        dsimp only
        rw [hg, if_neg (by simp)]
        rfl
      by_cases he : endsB (rcv s p) = true
      · rw [if_pos he] at hs ⊢
        obtain ⟨⟨τ, e⟩, hτ⟩ : ∃ r, stepB ⟨.btw, withText wd (runesBytes tx), kd, tx, ln, cl⟩ (rcv s p) = r := ⟨_, rfl⟩
        rw [hτ] at hs
        have hs2 : stepS ⟨.btw, withText wd (runesBytes tx), kd, tx, ln, cl⟩ (rcv s p) = (τ, e) := hτ
        by_cases h0 : e = 0
        · subst h0
          rw [W_on hp ho rfl hs, W_on hp ho rfl hs2]
        · rw [W_bad hp ho rfl hs h0, W_bad hp ho rfl hs2 h0]
      · rw [if_neg he] at hs ⊢
        exact W_bad hp ho rfl hs (by decide)
  · rw [rcv_end hp, if_pos (by decide), W_end hp, W_end hp]
    have hs : stepS ⟨.pln, wd, kd, tx, ln, cl⟩ 10 = stepB ⟨.btw, withText wd (runesBytes tx), kd, tx, ln, cl⟩ 10 := by
      unfold stepS stepP
      dsimp only
      rw [goB_10, if_neg (by simp), if_pos (by decide)]
      rfl
    have hs2 : stepS ⟨.btw, withText wd (runesBytes tx), kd, tx, ln, cl⟩ 10 = stepB ⟨.btw, withText wd (runesBytes tx), kd, tx, ln, cl⟩ 10 := rfl
    rw [hs, hs2]
theorem L_quo (s : ByteArray) (wd : List SW) (gk : Nat) : ∀ k p (tx : List Int) (ln cl : Int) (acc : ByteArray), p ≤ s.size → s.size - p < k → runesBytes tx = acc →
    ((quotedR s k p ln cl acc).1.2 ≠ 0 ∧ Wd s p ⟨.quo, wd, gk, tx, ln, cl⟩ = ([], (quotedR s k p ln cl acc).2.2.1, (quotedR s k p ln cl acc).2.2.2, (quotedR s k p ln cl acc).1.2)) ∨
    ((quotedR s k p ln cl acc).1.2 = 0 ∧ (quotedR s k p ln cl acc).2.1 ≤ s.size ∧ ∃ tx', Wd s p ⟨.quo, wd, gk, tx, ln, cl⟩ = Wd s (quotedR s k p ln cl acc).2.1 ⟨.btw, withText wd (quotedR s k p ln cl acc).1.1, gk, tx', (quotedR s k p ln cl acc).2.2.1, (quotedR s k p ln cl acc).2.2.2⟩) := by
  intro k
  induction k with
  | zero => intro p tx ln cl acc _ h; omega
  | succ k ih =>
    intro p tx ln cl acc hps hk htx
    unfold quotedR
    by_cases h1 : rcv s p < 0 ∨ rcv s p = 10
    · left
      rw [if_pos h1]
      refine ⟨by show (3 : Int) ≠ 0; decide, ?_⟩
      by_cases hp : p < s.size
      · have h10 : rcv s p = 10 := by
          have := rcv_in hp
          omega
        exact W_bad hp (low_odd hp (by omega)) h10 (e := 3) rfl (by decide)
      · rw [W_end hp]; rfl
    · have hp := rcv_lt (s := s) (p := p) (by omega)
      have hw := decode_in' s p hp
      rw [if_neg h1]
      by_cases h2 : rbv s p = false ∨ rcv s p < 32
      · left
        rw [if_pos h2]
        refine ⟨by show (4 : Int) ≠ 0; decide, ?_⟩
        cases ho : oddB s p with
        | true => exact W_odd hp ho
        | false =>
          rw [rbv_odd hp, ho] at h2
          have h32 : rcv s p < 32 := by simpa using h2
          refine W_bad hp ho rfl (e := 4) (τ := ⟨.quo, wd, gk, tx, ln, cl⟩) ?_ (by decide)
          unfold stepS stepQ
          dsimp only
          rw [if_neg (by omega), if_pos h32]
      · rw [if_neg h2]
        have ho : oddB s p = false := by
          rw [rbv_odd hp] at h2
          cases h : oddB s p with
          | false => rfl
          | true => rw [h] at h2; exact absurd (Or.inl rfl) h2
        by_cases h3 : rcv s p = 34
        · right
          rw [if_pos h3]
          refine ⟨rfl, hw.2, tx, ?_⟩
          have hs : stepS ⟨.quo, wd, gk, tx, ln, cl⟩ 34 = (⟨.btw, withText wd (runesBytes tx), gk, tx, ln, cl⟩, 0) := rfl
          rw [W_on hp ho h3 hs, htx]
        · rw [if_neg h3]
          by_cases h4 : rcv s p ≠ 92
          · rw [if_pos h4]
            have hs : stepS ⟨.quo, wd, gk, tx, ln, cl⟩ (rcv s p) = (⟨.quo, wd, gk, tx ++ [rcv s p], ln, cl⟩, 0) := by
              unfold stepS stepQ
              dsimp only
              rw [if_neg (by omega), if_neg (by omega), if_neg h4, if_neg h3]
            rw [W_on hp ho rfl hs]
            exact ih (p + wdt s p) (tx ++ [rcv s p]) (lnv s p ln) (clv s p cl) _ hw.2 (by unfold wdt; omega) (by rw [runes_at hp ho, htx])
          · rw [if_neg h4]
            have h92 : rcv s p = 92 := by omega
            have hs : stepS ⟨.quo, wd, gk, tx, ln, cl⟩ 92 = (⟨.esc, wd, gk, tx, ln, cl⟩, 0) := rfl
            rw [W_on hp ho h92 hs]
            dsimp only
            obtain ⟨p2, hp2⟩ : ∃ q, p + wdt s p = q := ⟨_, rfl⟩
            obtain ⟨ln2, hln2⟩ : ∃ q, lnv s p ln = q := ⟨_, rfl⟩
            obtain ⟨cl2, hcl2⟩ : ∃ q, clv s p cl = q := ⟨_, rfl⟩
            have hw2 : p < p2 ∧ p2 ≤ s.size := by rw [← hp2]; unfold wdt; omega
            rw [hp2, hln2, hcl2]
            by_cases h5 : rcv s p2 < 0 ∨ rcv s p2 = 10
            · left
              rw [if_pos h5]
              refine ⟨by show (3 : Int) ≠ 0; decide, ?_⟩
              by_cases hq : p2 < s.size
              · have h10 : rcv s p2 = 10 := by
                  have := rcv_in hq
                  omega
                exact W_bad hq (low_odd hq (by omega)) h10 (e := 3) rfl (by decide)
              · rw [W_end hq]; rfl
            · have hq := rcv_lt (s := s) (p := p2) (by omega)
              have hwq := decode_in' s p2 hq
              rw [if_neg h5]
              cases he : escB (rcv s p2) with
              | false =>
                left
                rw [if_pos rfl]
                refine ⟨by show (4 : Int) ≠ 0; decide, ?_⟩
                cases hoq : oddB s p2 with
                | true => exact W_odd hq hoq
                | false =>
                  refine W_bad hq hoq rfl (e := 4) (τ := ⟨.esc, wd, gk, tx, ln2, cl2⟩) ?_ (by decide)
                  unfold stepS stepE
                  dsimp only
                  rw [if_neg (by omega), he, if_neg (by simp)]
              | true =>
                rw [if_neg (by simp)]
                have hoq : oddB s p2 = false := by
                  refine low_odd hq fun e => ?_
                  rw [e] at he
                  cases he
                have hs2 : stepS ⟨.esc, wd, gk, tx, ln2, cl2⟩ (rcv s p2) = (⟨.quo, wd, gk, tx ++ [escX (rcv s p2)], ln2, cl2⟩, 0) := by
                  unfold stepS stepE
                  dsimp only
                  rw [if_neg (by omega), if_pos he]
                rw [W_on hq hoq rfl hs2]
                refine ih (p2 + wdt s p2) (tx ++ [escX (rcv s p2)]) (lnv s p2 ln2) (clv s p2 cl2) _ hwq.2 (by unfold wdt; omega) ?_
                rw [runes_snoc, htx]
                congr 1
                have he3 : rcv s p2 = 34 ∨ rcv s p2 = 92 ∨ rcv s p2 = 110 := by
                  unfold escB at he
                  simp at he
                  omega
                rcases he3 with e | e | e
                all_goals
                  rw [e]
                  rfl
theorem words_eqv (s : ByteArray) : ∀ d p (ln cl : Int) (out : List SW) (gk : Nat) (tx : List Int) (K : Nat), p ≤ s.size → s.size - p = d → s.size - p + 1 < K →
    wordsR s K p ln cl out = Wd s p ⟨.btw, out, gk, tx, ln, cl⟩ := by
  intro d
  induction d using Nat.strongRecOn with
  | ind d ih =>
    intro p ln cl out gk tx K hps hd hK
    obtain ⟨K, rfl⟩ : ∃ q, K = q + 1 := ⟨K - 1, by omega⟩
    obtain ⟨⟨b, p1, l1, c1⟩, hSK⟩ : ∃ r, skipR s (s.size + 1) p ln cl = r := ⟨_, rfl⟩
    have hle := skipR_le s (s.size + 1) p ln cl
    have hL := L_skip s (s.size + 1) p ⟨.btw, out, gk, tx, ln, cl⟩ hps (by omega) rfl
    rw [wordsR_skip hSK]
    dsimp only at hL
    rw [hSK] at hL hle
    dsimp only at hL hle
    rcases hL with ⟨h1, h2⟩ | ⟨h1, h2, ⟨h35, h32, h9, h10⟩, h4⟩
    · rw [if_pos h1, h2]
    · rw [h1, if_neg (by simp), h4]
      by_cases hneg : rcv s p1 < 0
      · rw [if_pos hneg]
        have hp : ¬ p1 < s.size := fun h => by rw [rcv_in h] at hneg; omega
        rw [W_end hp]
        rfl
      · rw [if_neg hneg]
        have hp := rcv_lt (s := s) (p := p1) (by omega)
        have hw := decode_in' s p1 hp
        have hB0 : (decide (rcv s p1 = 10) || blankB (rcv s p1)) = false := by
          unfold blankB
          simp
          exact ⟨h10, h32, h9⟩
        have hsm : smallB (rcv s p1) = true → oddB s p1 = false := fun h => low_odd hp (fun e => by rw [e] at h; cases h)
        have hdi : digitB (rcv s p1) = true → oddB s p1 = false := fun h => low_odd hp (fun e => by rw [e] at h; cases h)
        have hsi : signB (rcv s p1) = true → oddB s p1 = false := fun h => low_odd hp (fun e => by rw [e] at h; cases h)
        have hgo : ∀ kd kind : Nat, goB kd (rcv s p1) = true → oddB s p1 = false → stepS ⟨.btw, out, gk, tx, l1, c1⟩ (rcv s p1) = (⟨.pln, out ++ [⟨(kind : Int), ⟨#[]⟩, l1, c1⟩], kd, [rcv s p1], l1, c1⟩, 0) →
            Wd s p1 ⟨.btw, out, gk, tx, l1, c1⟩ = (if rendsB (rcv s (plainR s kd (s.size + 1) p1 l1 c1).1) = true then wordsR s K (plainR s kd (s.size + 1) p1 l1 c1).1 (plainR s kd (s.size + 1) p1 l1 c1).2.1 (plainR s kd (s.size + 1) p1 l1 c1).2.2 (out ++ [⟨(kind : Int), s.extract p1 (plainR s kd (s.size + 1) p1 l1 c1).1, l1, c1⟩]) else ([], (plainR s kd (s.size + 1) p1 l1 c1).2.1, (plainR s kd (s.size + 1) p1 l1 c1).2.2, 4)) := by
          intro kd kind hg ho hs
          have e1 : plainR s kd (s.size + 1) p1 l1 c1 = plainR s kd s.size (p1 + wdt s p1) (lnv s p1 l1) (clv s p1 c1) := by
            conv => lhs; unfold plainR
            rw [if_pos hg]
          have hrb : runesBytes [rcv s p1] = s.extract p1 (p1 + wdt s p1) := by
            have := runes_at (tx := []) hp ho
            rw [List.nil_append] at this
            rw [this]
            apply ba_ext
            rw [ByteArray.data_append, Array.toList_append]
            rfl
          rw [W_on hp ho rfl hs]
          dsimp only
          obtain ⟨tx', t1, t2, t3, t4⟩ := L_plain s kd p1 (out ++ [⟨(kind : Int), ⟨#[]⟩, l1, c1⟩]) s.size (p1 + wdt s p1) [rcv s p1] (lnv s p1 l1) (clv s p1 c1) (Nat.le_add_right _ _) hw.2 (by unfold wdt; omega) hrb
          rw [t4, e1, L_pe t2 t3]
          split
          · have hl := plainR_le s kd s.size (p1 + wdt s p1) (lnv s p1 l1) (clv s p1 c1)
            rw [withText_snoc, t1]
            refine (ih _ ?_ _ _ _ _ _ _ K t2 rfl ?_).symm
            · unfold wdt at hl ⊢; omega
            · unfold wdt at hl ⊢; omega
          · rfl
        unfold wordR
        by_cases hs1 : smallB (rcv s p1) = true
        · rw [if_pos hs1]
          have hst : stepS ⟨.btw, out, gk, tx, l1, c1⟩ (rcv s p1) = (⟨.pln, out ++ [⟨((1 : Nat) : Int), ⟨#[]⟩, l1, c1⟩], 1, [rcv s p1], l1, c1⟩, 0) := by
            unfold stepS stepB
            dsimp only
            rw [hB0, if_neg (by simp), if_neg h35, if_pos hs1]
            rfl
          rw [hgo 1 1 (goB_small 1 hs1) (hsm hs1) hst]
          by_cases hr : rendsB (rcv s (plainR s 1 (s.size + 1) p1 l1 c1).1) = true
          · rw [if_pos hr, if_pos hr, if_neg (fun h => h rfl)]
            rfl
          · rw [if_neg hr, if_neg hr, if_pos (show (4 : Int) ≠ 0 by decide)]
        · rw [if_neg hs1]
          by_cases hd1 : digitB (rcv s p1) = true
          · rw [if_pos hd1]
            have hst : stepS ⟨.btw, out, gk, tx, l1, c1⟩ (rcv s p1) = (⟨.pln, out ++ [⟨((2 : Nat) : Int), ⟨#[]⟩, l1, c1⟩], 2, [rcv s p1], l1, c1⟩, 0) := by
              unfold stepS stepB
              dsimp only
              rw [hB0, if_neg (by simp), if_neg h35, if_neg hs1, if_pos hd1]
              rfl
            rw [hgo 2 2 (goB_digit 2 hd1) (hdi hd1) hst]
            by_cases hr : rendsB (rcv s (plainR s 2 (s.size + 1) p1 l1 c1).1) = true
            · rw [if_pos hr, if_pos hr, if_neg (fun h => h rfl)]
              rfl
            · rw [if_neg hr, if_neg hr, if_pos (show (4 : Int) ≠ 0 by decide)]
          · rw [if_neg hd1]
            by_cases h34 : rcv s p1 = 34
            · have hng : ¬ signB (rcv s p1) = true := by rw [h34]; decide
              rw [if_neg hng, if_pos h34]
              have hst : stepS ⟨.btw, out, gk, tx, l1, c1⟩ 34 = (⟨.quo, out ++ [⟨3, ⟨#[]⟩, l1, c1⟩], gk, [], l1, c1⟩, 0) := rfl
              rw [W_on hp (low_odd hp (by omega)) h34 hst]
              dsimp only
              have hql := quotedR_le s (s.size + 1) (p1 + wdt s p1) (lnv s p1 l1) (clv s p1 c1) ⟨#[]⟩
              rcases L_quo s (out ++ [⟨3, ⟨#[]⟩, l1, c1⟩]) gk (s.size + 1) (p1 + wdt s p1) [] (lnv s p1 l1) (clv s p1 c1) ⟨#[]⟩ hw.2 (by omega) rfl with ⟨q1, q2⟩ | ⟨q1, q2, tx', q3⟩
              · rw [if_pos q1, q2]
              · rw [if_neg (by omega), q3, withText_snoc]
                refine ih _ ?_ _ _ _ _ _ _ K q2 rfl ?_
                · unfold wdt at hql ⊢; omega
                · unfold wdt at hql ⊢; omega
            · by_cases hg1 : signB (rcv s p1) = true
              · rw [if_pos hg1]
                have ho := hsi hg1
                have hst : stepS ⟨.btw, out, gk, tx, l1, c1⟩ (rcv s p1) = (⟨.btw, withText (out ++ [⟨4, ⟨#[]⟩, l1, c1⟩]) (runesBytes [rcv s p1]), gk, [rcv s p1], l1, c1⟩, 0) := by
                  unfold stepS stepB
                  dsimp only
                  rw [hB0, if_neg (by simp), if_neg h35, if_neg hs1, if_neg hd1, if_neg h34, if_pos hg1]
                  rfl
                have hlow : (Utf8.decode s p1).1 < 128 := by
                  have := rcv_in hp
                  unfold signB at hg1
                  simp at hg1
                  omega
                have hwd : wdt s p1 = 1 := (decode_low hlow).1
                have hrb : runesBytes [rcv s p1] = s.extract p1 (p1 + 1) := by
                  have := runes_at (tx := []) hp ho
                  rw [List.nil_append, hwd] at this
                  rw [this]
                  apply ba_ext
                  rw [ByteArray.data_append, Array.toList_append]
                  rfl
                rw [W_on hp ho rfl hst, withText_snoc, hrb, if_neg (fun h => h rfl)]
                dsimp only
                refine ih _ ?_ _ _ _ _ _ _ K hw.2 rfl ?_
                · rw [hwd]; omega
                · rw [hwd]; omega
              · rw [if_neg hg1, if_neg h34, if_pos (show (4 : Int) ≠ 0 by decide)]
                show ([], l1, c1, (4 : Int)) = _
                cases ho : oddB s p1 with
                | true => exact (W_odd (σ := ⟨.btw, out, gk, tx, l1, c1⟩) hp ho).symm
                | false =>
                  refine (W_bad (σ := ⟨.btw, out, gk, tx, l1, c1⟩) hp ho rfl (e := 4) (τ := ⟨.btw, out, gk, tx, l1, c1⟩) ?_ (by decide)).symm
                  unfold stepS stepB
                  dsimp only
                  rw [hB0, if_neg (by simp), if_neg h35, if_neg hs1, if_neg hd1, if_neg h34, if_neg hg1]
theorem rwords_eq (s : ByteArray) : rwordsF s = wordsF s := by
  unfold rwordsF wordsF
  split
  · rw [words_eqv s s.size 0 1 1 [] 0 [] (s.size + 2) (Nat.zero_le _) (by omega) (by omega), fuelW s (s.size + 1) 0 sc0 (by omega)]
    rfl
  · rfl
end Go.Proofs.YtcpalnmodbbklaaDoor.P
