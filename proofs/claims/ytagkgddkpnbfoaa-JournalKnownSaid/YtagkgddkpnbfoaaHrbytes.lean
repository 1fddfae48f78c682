import Derived.Test.YtagkgddkpnbfoaaHrchk
import Derived.Test.YtagkgddkpnbfoaaHback
import Derived.Test.YtagkgddkpnbfoaaPf11
namespace Go.Proofs.Ytagkgddkpnbfoaa.P
set_option linter.unusedVariables false
set_option linter.unusedSimpArgs false
open Go.RowKit Go.Proofs.YtagkgddkpnbfoaaW.PrintWords Go.Proofs.YtagkgddkpnbfoaaW.PrintLast Go.Proofs.YtagkgddkpnbfoaaW.PrintMore

theorem rtwo_f (l0 : List Int) (n : Int) (h0 : 0 ≤ n) (h1 : n ≤ 65535) (hl : l0.length ≤ 100000) : drayageref20_two.f l0 n = some (l0 ++ two n) := by
 unfold drayageref20_two.f two
 rw [Int.tdiv_eq_ediv_of_nonneg h0, Int.tmod_eq_emod_of_nonneg h0, wrap_id (by omega) (by omega)]
 simp only [Option.bind_some]
 rw [if_pos (by simp; omega)]
 have e : n % 256 % 256 = n % 256 := by omega
 rw [e]
theorem rfields_l1 (a n m : Int) (pl : List Int) (st : List S49) (hm : st.length ≤ 255) : ∀ (d k i : Nat) (acc : List Int), i + d = st.length → d < k → acc.length + 3 * d ≤ 10000 → drayageref20_fields.l1 k acc (i : Int) a n m pl st = some (acc ++ (st.drop i).flatMap stepB) := by
 intro d
 induction d with
 | zero =>
  intro k i acc h hk ha
  obtain ⟨k, rfl⟩ : ∃ m, k = m + 1 := ⟨k - 1, by omega⟩
  simp only [drayageref20_fields.l1]
  rw [if_neg (by omega), List.drop_of_length_le (by omega)]
  simp
 | succ d ih =>
  intro k i acc h hk ha
  obtain ⟨k, rfl⟩ : ∃ m, k = m + 1 := ⟨k - 1, by omega⟩
  have hi : i < st.length := by omega
  simp only [drayageref20_fields.l1]
  rw [if_pos (by omega), if_pos (by omega)]
  simp only [Option.bind_some]
  rw [if_pos (by simp; omega), wrap_succ (n := 255) (by omega) (by omega), ih _ _ _ (by omega) (by omega) (by simp; omega), stepsB_drop hi, List.append_assoc]
  rfl
theorem rfields_l0 (a n m : Int) (pl : List Int) (st : List S49) (hp : pl.length ≤ 24) (hm : st.length ≤ 255) (hv : ∀ x ∈ pl, -1 ≤ x ∧ x ≤ 7) : ∀ (d k i : Nat) (acc : List Int), i + d = pl.length → d + st.length + 1 < k → acc.length + d ≤ 100 →
  drayageref20_fields.l0 k acc (i : Int) a n m pl st = some (acc ++ (pl.drop i).map (fun n => (n + 1) % 256) ++ [(st.length : Int) % 256] ++ st.flatMap stepB) := by
 intro d
 induction d with
 | zero =>
  intro k i acc h hk ha
  obtain ⟨k, rfl⟩ : ∃ m, k = m + 1 := ⟨k - 1, by omega⟩
  simp only [drayageref20_fields.l0]
  rw [if_neg (by omega), List.drop_of_length_le (by omega), if_pos (by omega)]
  have := rfields_l1 a n m pl st hm st.length k 0 (acc ++ [(st.length : Int) % 256]) (by omega) (by omega) (by simp; omega)
  simpa using this
 | succ d ih =>
  intro k i acc h hk ha
  obtain ⟨k, rfl⟩ : ∃ m, k = m + 1 := ⟨k - 1, by omega⟩
  have hi : i < pl.length := by omega
  have hx := hv _ (List.getElem_mem hi)
  simp only [drayageref20_fields.l0]
  rw [if_pos (by omega), if_pos (by omega), if_pos (by omega), wrap_succ (n := 24) (by omega) (by omega), ih _ _ _ (by omega) (by omega) (by simp; omega)]
  rw [List.drop_eq_getElem_cons hi, rd_at hi, wrap_id (x := pl[i] + 1) (by omega) (by omega)]
  simp only [List.map_cons, List.append_assoc, List.cons_append, List.nil_append]
theorem rfields_f (a n m : Int) (pl : List Int) (st : List S49) (k : Nat) (hk : 310 ≤ k) (h : okRec a n m pl st = true) : drayageref20_fields.f k a n m pl st = some (fieldsOf a n m pl st) := by
 unfold okRec at h
 unfold drayageref20_fields.f fieldsOf
 by_cases h1 : a = 1
 ·rw [if_pos h1] at h ⊢
  rw [if_pos h1]
  simp only [okPlan, Bool.and_eq_true, decide_eq_true_eq, List.all_eq_true, okNode] at h
  obtain ⟨_, ⟨⟨h2, h3⟩, h4⟩, _⟩ := h
  have := rfields_l0 a n m pl st h2 h3 h4 pl.length k 0 [(pl.length : Int) % 256] (by omega) (by omega) (by simp; omega)
  simpa [planB] using this
 ·rw [if_neg h1] at h ⊢
  rw [if_neg h1]
  simp only [Bool.and_eq_true, decide_eq_true_eq] at h
  obtain ⟨⟨⟨_, hn0, hn1⟩, hm0, hm1⟩, _⟩ := h
  rw [rtwo_f [] n hn0 hn1 (by simp)]
  simp only [Option.bind_some]
  rw [rtwo_f _ m hm0 hm1 (by simp [two])]
  simp [putL]
theorem rbytes_f (a n m : Int) (pl : List Int) (st : List S49) (k : Nat) (hk : 1200 ≤ k) : drayageref20_Bytes.f k a n m pl st = journal_Bytes.f a n m pl st := by
 unfold drayageref20_Bytes.f journal_Bytes.f
 rw [rcheck_f a n m pl st k (by omega)]
 simp only [Option.bind_some]
 by_cases hok : okRec a n m pl st = true
 ·have hs := fields_small (r := ⟨a, n, m, pl, st⟩) hok
  dsimp only at hs
  rw [if_pos hok, if_pos hok, if_pos rfl, rfields_f a n m pl st k (by omega) hok]
  simp only [Option.bind_some]
  have hbH := headB_isByte a n m pl st
  have hH : headB a n m pl st = putL [((fieldsOf a n m pl st).length : Int) + 7, 65535 - (((fieldsOf a n m pl st).length : Int) + 7)] ++ [a % 256] ++ fieldsOf a n m pl st := rfl
  have hR : recB a n m pl st = headB a n m pl st ++ putL [sumL (headB a n m pl st)] := rfl
  rw [hR]
  have hr := sumL_range (headB a n m pl st)
  generalize hq : sumL (headB a n m pl st) = q at *
  generalize fieldsOf a n m pl st = F at *
  have e1 : wrap64 ((F.length : Int) + 7) = (F.length : Int) + 7 := wrap_id (by omega) (by omega)
  have e2 : wrap64 (65535 - ((F.length : Int) + 7)) = 65535 - ((F.length : Int) + 7) := wrap_id (by omega) (by omega)
  rw [e1, e2, rtwo_f [] _ (by omega) (by omega) (by simp)]
  simp only [Option.bind_some]
  rw [rtwo_f _ _ (by omega) (by omega) (by simp [two])]
  simp only [Option.bind_some]
  rw [if_pos (by simp [two]), if_pos (by simp [two]; omega)]
  have e3 : [] ++ two ((F.length : Int) + 7) ++ two (65535 - ((F.length : Int) + 7)) ++ [a % 256] ++ F = headB a n m pl st := by rw [hH]; simp [putL]
  rw [e3, rsum_f _ hbH (by rw [hH]; simp [putL_length]; omega) k (by rw [hH]; simp [putL_length]; omega)]
  simp only [Option.bind_some]
  rw [hq, rtwo_f _ _ (by omega) (by omega) (by rw [hH]; simp [putL_length]; omega)]
  simp [putL]
 ·rw [if_neg hok, if_neg hok, if_neg (by omega)]
end Go.Proofs.Ytagkgddkpnbfoaa.P
