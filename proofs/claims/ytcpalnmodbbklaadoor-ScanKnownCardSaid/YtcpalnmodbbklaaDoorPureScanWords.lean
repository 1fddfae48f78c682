import Derived.Test.YtcpalnmodbbklaaDoorPf4
import Derived.Test.YtcpalnmodbbklaaDoorHeqv
import Derived.Test.YtcpalnmodbbklaaDoorHworks
namespace Go.Proofs.YtcpalnmodbbklaaDoor.Pure
set_option linter.unusedVariables false
set_option linter.unusedSimpArgs false
open Go.RowKit Go.Proofs.YtcpalnmodbbklaaDoor.P Go.Proofs.YtcpalnmodbbklaaDoorW.PrintWords Go.Proofs.YtcpalnmodbbklaaDoorW.PrintLast

theorem stepB_wd (σ : Sc) (c : Int) : (stepB σ c).1.wd.length ≤ σ.wd.length + 1 := by
  unfold stepB
  repeat' split
  all_goals simp [beginS, endS, withText_length]
theorem stepS_wd (σ : Sc) (c : Int) : (stepS σ c).1.wd.length ≤ σ.wd.length + 1 := by
  obtain ⟨md, wd, gk, tx, ln, cl⟩ := σ
  cases md with
  | btw => exact stepB_wd _ _
  | pln =>
    unfold stepS stepP
    dsimp only
    split
    · simp
    split
    · have := stepB_wd (endS ⟨.pln, wd, gk, tx, ln, cl⟩) c
      simp only [endS, withText_length] at this
      exact this
    · simp
  | quo =>
    unfold stepS stepQ
    dsimp only
    repeat' split
    all_goals simp [endS, withText_length]
  | esc =>
    unfold stepS stepE
    dsimp only
    repeat' split
    all_goals simp
  | com =>
    unfold stepS stepC
    dsimp only
    split <;> simp
theorem wordsGo_len (s : ByteArray) : ∀ k p σ, (wordsGo s k p σ).1.length ≤ σ.wd.length + k := by
  intro k
  induction k with
  | zero => intro p σ; simp [wordsGo]
  | succ k ih =>
    intro p σ
    unfold wordsGo
    split
    · split
      · simp
      split
      · have h1 := ih (p + (Utf8.decode s p).2) (moveS (stepS σ (Utf8.decode s p).1).1 (Utf8.decode s p).1)
        have h2 := stepS_wd σ (Utf8.decode s p).1
        have h3 : (moveS (stepS σ (Utf8.decode s p).1).1 (Utf8.decode s p).1).wd = (stepS σ (Utf8.decode s p).1).1.wd := by unfold moveS; split <;> rfl
        rw [h3] at h1
        omega
      · simp
    · split
      · have := stepS_wd σ 10
        dsimp only
        omega
      · simp
theorem same_l (l : List SW) (hl : l.length ≤ 1000) : ∀ d j k, j + d = l.length → d < k → drayageref04_Same.l0 k l l (j : Int) = some true := by
  intro d
  induction d with
  | zero =>
    intro j k hj hk
    obtain ⟨k, rfl⟩ : ∃ q, k = q + 1 := ⟨k - 1, by omega⟩
    simp only [drayageref04_Same.l0]
    rw [if_neg (by omega)]
  | succ d ih =>
    intro j k hj hk
    obtain ⟨k, rfl⟩ : ∃ q, k = q + 1 := ⟨k - 1, by omega⟩
    simp only [drayageref04_Same.l0]
    rw [if_pos (by omega), if_pos (by omega), if_pos (by omega), if_neg (by simp), wrap_id (by omega) (by omega), show (j : Int) + 1 = ((j + 1 : Nat) : Int) by omega]
    exact ih (j + 1) k (by omega) (by omega)
theorem same_f (l : List SW) (hl : l.length ≤ 1000) (k : Nat) (hk : 1001 ≤ k) : drayageref04_Same.f k l l = some true := by
  unfold drayageref04_Same.f
  rw [if_pos rfl]
  exact same_l l hl l.length 0 k (by omega) (by omega)
theorem rline_loop (l : List SW) (i : Nat) (hi : i < l.length) (hl : l.length ≤ 1000) : ∀ d k n, i + n + d = l.length → d < k → drayageref04_Line.l0 k l (i : Int) (n : Int) = some (((n + runLn l[i].f2 (l.drop (i + n)) : Nat)) : Int) := by
  intro d
  induction d with
  | zero =>
    intro k n h hk
    obtain ⟨k, rfl⟩ : ∃ q, k = q + 1 := ⟨k - 1, by omega⟩
    simp only [drayageref04_Line.l0]
    rw [if_pos (by omega), wrap_id (by omega) (by omega), if_neg (by omega), List.drop_of_length_le (by omega)]
    rfl
  | succ d ih =>
    intro k n h hk
    obtain ⟨k, rfl⟩ : ∃ q, k = q + 1 := ⟨k - 1, by omega⟩
    have hj : i + n < l.length := by omega
    simp only [drayageref04_Line.l0]
    rw [if_pos (by omega), wrap_id (x := (i : Int) + (n : Int)) (by omega) (by omega), if_pos (by omega), if_pos (by omega), if_pos (by omega), if_pos (by omega), show (i : Int) + (n : Int) = ((i + n : Nat) : Int) by omega, rdW_at hj, rdW_at hi]
    rw [List.drop_eq_getElem_cons hj]
    unfold runLn
    by_cases he : l[i + n].f2 = l[i].f2
    · rw [if_pos he, if_pos he, wrap_id (by omega) (by omega), show (n : Int) + 1 = ((n + 1 : Nat) : Int) by omega, ih k (n + 1) (by omega) (by omega)]
      congr 1
      rw [show i + (n + 1) = i + n + 1 by omega]
      omega
    · rw [if_neg he, if_neg he]
      rfl
/-- both Line's come to one number -/
theorem lines_eq (l : List SW) (i : Int) (hi : -9223372036854775808 ≤ i) (hi2 : i ≤ 9223372036854775807) (hl : l.length ≤ 1000) (k : Nat) (hk : 1100 ≤ k) : ∃ n, scan_Line.f k l i = some n ∧ drayageref04_Line.f k l i = some n := by
  obtain ⟨k, rfl⟩ : ∃ q, k = q + 1 := ⟨k - 1, by omega⟩
  by_cases h0 : i < 0
  · refine ⟨0, line_neg l i k h0, ?_⟩
    unfold drayageref04_Line.f
    simp only [drayageref04_Line.l0]
    rw [if_neg (by omega)]
  · obtain ⟨n, rfl⟩ : ∃ n : Nat, i = (n : Int) := ⟨i.toNat, by omega⟩
    refine ⟨_, line_f l n (k + 1) (by omega) (by omega), ?_⟩
    unfold drayageref04_Line.f lineN
    by_cases hn : n < l.length
    · rw [dif_pos hn]
      have := rline_loop l n hn hl (l.length - n) (k + 1) 0 (by omega) (by omega)
      rw [Nat.add_zero, Nat.zero_add] at this
      exact this
    · rw [dif_neg hn]
      simp only [drayageref04_Line.l0]
      rw [if_pos (by omega), Int.add_zero, wrap_id (by omega) (by omega), if_neg (by omega)]
      rfl
theorem bring_in (a m : Int) (h0 : 0 < m) (h1 : m ≤ 4611686018427387904) : ∃ r, drayageref00_Bring.f a m = some r ∧ 0 ≤ r ∧ r < m := by
  refine ⟨a % m, ?_, Int.emod_nonneg a (by omega), Int.emod_lt_of_pos a h0⟩
  unfold drayageref00_Bring.f
  rw [if_neg (by omega)]
  have h2 : a.tmod m = a % m ∨ (a.tmod m = a % m - m ∧ a % m ≠ 0) := by
    rcases Int.le_total 0 a with h | h
    · exact .inl (Int.tmod_eq_emod_of_nonneg h)
    · have e : a.tmod m = -((-a) % m) := by
        have := Int.neg_tmod (-a) m
        rw [Int.neg_neg] at this
        rw [this, Int.tmod_eq_emod_of_nonneg (by omega)]
      have e2 := Int.emod_nonneg a (by omega : m ≠ 0)
      have e3 := Int.emod_lt_of_pos a h0
      have e4 := Int.emod_nonneg (-a) (by omega : m ≠ 0)
      have e5 := Int.emod_lt_of_pos (-a) h0
      have e6 : (a % m + (-a) % m) % m = 0 := by rw [← Int.add_emod]; simp [Int.add_right_neg]
      have e7 : a % m + (-a) % m = 0 ∨ a % m + (-a) % m = m := by
        rcases Int.lt_or_le (a % m + (-a) % m) m with h | h
        · left
          rw [Int.emod_eq_of_lt (by omega) h] at e6
          exact e6
        · right
          have := Int.emod_eq_of_lt (a := a % m + (-a) % m - m) (b := m) (by omega) (by omega)
          have e8 : (a % m + (-a) % m - m) % m = 0 := by rw [Int.sub_emod, e6]; simp
          omega
      omega
  have h3 := Int.emod_nonneg a (by omega : m ≠ 0)
  have h4 := Int.emod_lt_of_pos a h0
  rcases h2 with h2 | ⟨h2, h5⟩
  · rw [if_neg (by omega), h2]
  · rw [if_pos (by omega), h2, wrap_id (by omega) (by omega)]
    congr 1
    omega
theorem words_bring (l : List SW) (from' : Int) (h0 : -9223372036854775808 ≤ from') (h1 : from' ≤ 9223372036854775807) (hl : l.length ≤ 1000) (k : Nat) (hk : 1200 ≤ k) : drayagelaw04_ScanWords.j0 k from' l l false = some true := by
  obtain ⟨k, rfl⟩ : ∃ q, k = q + 2 := ⟨k - 2, by omega⟩
  obtain ⟨j, hj⟩ : ∃ j, k = 20 + j := ⟨k - 20, by omega⟩
  have hw : drayagelaw04_works.f k = some true := by rw [hj]; exact works_k j
  have last : ∀ at' : Int, -9223372036854775808 ≤ at' → at' ≤ 9223372036854775807 → ((scan_Line.f k l at').bind fun t196 => ((drayageref04_Line.f k l at').bind fun t197 => (if t196 = t197 then ((drayagelaw04_works.f k).bind fun t198 => (some t198)) else (some false)))) = some true := by
    intro at' a0 a1
    obtain ⟨n, e1, e2⟩ := lines_eq l at' a0 a1 hl k (by omega)
    rw [e1, e2]
    simp only [Option.bind_some]
    rw [if_pos trivial, hw]
    rfl
  have j1f : drayagelaw04_ScanWords.j1 (k + 1) from' l l from' false = some true := by
    simp only [drayagelaw04_ScanWords.j1]
    rw [if_neg (by simp)]
    exact last from' h0 h1
  simp only [drayagelaw04_ScanWords.j0]
  rw [if_neg (by simp)]
  by_cases hp : (l.length : Int) > 0
  · rw [if_pos hp]
    cases hm : (Int.tmod from' 3 != 0) with
    | false => exact j1f
    | true =>
      simp only [drayagelaw04_ScanWords.j1]
      rw [if_pos trivial]
      obtain ⟨r, e1, e2, e3⟩ := bring_in from' (l.length : Int) (by omega) (by omega)
      rw [e1]
      simp only [Option.bind_some]
      exact last r (by omega) (by omega)
  · rw [if_neg hp]
    exact j1f
theorem words_law (a0 : ByteArray) (a1 : Int) (h0 : -9223372036854775808 ≤ a1) (h1 : a1 ≤ 9223372036854775807) : drayagelaw04_ScanWords.f 2000 a0 a1 = some true := by
  unfold drayagelaw04_ScanWords.f
  have hmn : mn (a0.size : Int) 400 = ((min a0.size 400 : Nat) : Int) := by unfold mn; split <;> omega
  rw [hmn, if_pos (by omega), if_pos (by omega), Int.toNat_natCast]
  obtain ⟨s, hs⟩ : ∃ s, a0.extract 0 (min a0.size 400) = s := ⟨_, rfl⟩
  have hsz : s.size ≤ 400 := by rw [← hs, ByteArray.size_extract]; omega
  rw [hs]
  have hl : (wordsF s).1.length ≤ 1000 := by
    unfold wordsF
    rw [if_pos (by omega)]
    have := wordsGo_len s (s.size + 1) 0 sc0
    have e : sc0.wd.length = 0 := rfl
    omega
  have e1 : scan_Words.f s = some (wordsF s) := by
    unfold scan_Words.f
    rw [if_pos (by omega)]
  have e2 : drayageref04_Words.f s = some (wordsF s) := by
    unfold drayageref04_Words.f
    rw [if_pos (by omega), rwords_eq]
  rw [e1, e2]
  simp only [Option.bind_some]
  rw [same_f _ hl 2000 (by omega)]
  simp only [Option.bind_some]
  rw [if_pos trivial, if_pos trivial, if_pos trivial, show ((wordsF s).2.2.2 != (wordsF s).2.2.2) = false by simp]
  exact words_bring (wordsF s).1 a1 h0 h1 hl 2000 (by omega)
theorem ScanWords : drayagelaw04_ScanWords.Pure := by
  intro a0 a1 hz hw
  refine ⟨2000, words_law a0 a1 ?_ ?_⟩
  · simp [Lit.wf, IntKind.min, IntKind.max, IntKind.signed, IntKind.bits] at hw; omega
  · simp [Lit.wf, IntKind.min, IntKind.max, IntKind.signed, IntKind.bits] at hw; omega
end Go.Proofs.YtcpalnmodbbklaaDoor.Pure
