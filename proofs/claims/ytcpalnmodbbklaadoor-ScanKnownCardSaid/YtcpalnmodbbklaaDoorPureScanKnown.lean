import Derived.Test.YtcpalnmodbbklaaDoorPf7
import Derived.Test.YtcpalnmodbbklaaDoorPureScanWords
import Derived.Test.YtcpalnmodbbklaaDoorPureScanQuotes
import Derived.Test.YtcpalnmodbbklaaDoorHrun
namespace Go.Proofs.YtcpalnmodbbklaaDoor.Pure
set_option linter.unusedVariables false
set_option linter.unusedSimpArgs false
open Go.RowKit Go.Proofs.YtcpalnmodbbklaaDoor.P Go.Proofs.YtcpalnmodbbklaaDoorW.PrintWords Go.Proofs.YtcpalnmodbbklaaDoorW.PrintLast

theorem words_ge (a0 : ByteArray) (a1 : Int) (h0 : -9223372036854775808 ≤ a1) (h1 : a1 ≤ 9223372036854775807) (k : Nat) (hk : 2000 ≤ k) : drayagelaw04_ScanWords.f k a0 a1 = some true := by
  obtain ⟨j, rfl⟩ : ∃ j, k = 2000 + j := ⟨k - 2000, by omega⟩
  clear hk
  induction j with
  | zero => exact words_law a0 a1 h0 h1
  | succ j ih => exact (drayagelaw04_ScanWords.mono _ _ _) _ ih
theorem quotes_ge (a0 : ByteArray) (k : Nat) (hk : 20 ≤ k) : drayagelaw04_ScanQuotes.f k a0 = some true := by
  obtain ⟨j, rfl⟩ : ∃ j, k = 20 + j := ⟨k - 20, by omega⟩
  exact quotes_law a0 j
/-- "a " so often, as runes -/
def aR : Nat → List Nat
  | 0 => []
  | n + 1 => 97 :: 32 :: aR n
theorem aR_enc : ∀ n, Lib.repeatL [97, 32] n = encL (aR n)
  | 0 => rfl
  | n + 1 => by
    show [97, 32] ++ Lib.repeatL [97, 32] n = _
    rw [aR_enc n]
    rfl
theorem aR_easy : ∀ n, ∀ c ∈ aR n, easy c = true
  | 0 => by intro c h; cases h
  | n + 1 => by
    intro c h
    simp only [aR, List.mem_cons] at h
    rcases h with rfl | rfl | h
    · rfl
    · rfl
    · exact aR_easy n c h
theorem withText_f2 (l : List SW) (t : ByteArray) (n : Int) (h : ∀ x ∈ l, x.f2 = n) : ∀ x ∈ withText l t, x.f2 = n := by
  unfold withText
  split
  · intro x hx; cases hx
  · rename_i y r hr
    have hl : l = r.reverse ++ [y] := by rw [← List.reverse_reverse l, hr]; simp
    subst hl
    intro x hx
    rw [List.mem_append, List.mem_singleton] at hx
    rcases hx with hx | rfl
    · exact h x (by rw [List.mem_append]; exact .inl hx)
    · exact h y (by simp)
theorem run_a : ∀ (n : Nat) (wd : List SW) (gk : Nat) (tx : List Int) (cl : Int), (∀ x ∈ wd, x.f2 = 1) →
    ∃ wd' gk' tx' cl', runR ⟨.btw, wd, gk, tx, 1, cl⟩ (aR n) = some ⟨.btw, wd', gk', tx', 1, cl'⟩ ∧ wd'.length = wd.length + n ∧ (∀ x ∈ wd', x.f2 = 1) := by
  intro n
  induction n with
  | zero => intro wd gk tx cl h; exact ⟨wd, gk, tx, cl, rfl, rfl, h⟩
  | succ n ih =>
    intro wd gk tx cl h
    have e1 : stepS ⟨.btw, wd, gk, tx, 1, cl⟩ ((97 : Nat) : Int) = (⟨.pln, wd ++ [⟨1, ⟨#[]⟩, 1, cl⟩], 1, [97], 1, cl⟩, 0) := rfl
    have e2 : stepS ⟨.pln, wd ++ [⟨1, ⟨#[]⟩, 1, cl⟩], 1, [97], 1, cl + 1⟩ ((32 : Nat) : Int) = (⟨.btw, withText (wd ++ [⟨1, ⟨#[]⟩, 1, cl⟩]) (runesBytes [97]), 1, [97], 1, cl + 1⟩, 0) := rfl
    obtain ⟨wd', gk', tx', cl', r1, r2, r3⟩ := ih (withText (wd ++ [⟨1, ⟨#[]⟩, 1, cl⟩]) (runesBytes [97])) 1 [97] (cl + 1 + 1) (withText_f2 _ _ _ (by
      intro x hx
      rw [List.mem_append, List.mem_singleton] at hx
      rcases hx with hx | rfl
      · exact h x hx
      · rfl))
    refine ⟨wd', gk', tx', cl', ?_, ?_, r3⟩
    · show runR _ (97 :: 32 :: aR n) = _
      rw [runR, e1, if_pos rfl]
      show runR ⟨.pln, wd ++ [⟨1, ⟨#[]⟩, 1, cl⟩], 1, [97], 1, cl + 1⟩ (32 :: aR n) = _
      rw [runR, e2, if_pos rfl]
      exact r1
    · rw [r2, withText_length, List.length_append, List.length_singleton]
      omega
theorem runLn_all (n : Int) : ∀ l : List SW, (∀ x ∈ l, x.f2 = n) → runLn n l = l.length
  | [], _ => rfl
  | x :: r, h => by
    unfold runLn
    rw [if_pos (h x (by simp)), runLn_all n r (fun y hy => h y (by simp [hy]))]
    rfl
/-- the text of so many words -/
def fullS (n : Nat) : ByteArray := ⟨(Lib.repeatL [97, 32] n).toArray⟩
theorem full_size (n : Nat) : (fullS n).size = n * 2 := by
  show (Lib.repeatL [97, 32] n).toArray.size = _
  rw [List.size_toArray, Lib.repeatL_length]
  rfl
theorem full_list (n : Nat) : (fullS n).data.toList = encL (aR n) := aR_enc n
theorem full_words (n : Nat) (hn : n ≤ 32768) : ∃ l : List SW, scan_Words.f (fullS n) = some (l, 0, 0, 0) ∧ l.length = n ∧ (∀ x ∈ l, x.f2 = 1) := by
  obtain ⟨wd', gk', tx', cl', r1, r2, r3⟩ := run_a n [] 0 [] 1 (by intro x hx; cases hx)
  refine ⟨wd', ?_, by rw [r2, List.length_nil, Nat.zero_add], r3⟩
  exact words_run (fullS n) (aR n) _ (aR_easy _) (full_list n) (by rw [full_size]; omega) r1 rfl
theorem full_repeat (n : Nat) (hn : n ≤ 40000) : strings_Repeat.f (⟨#[97, 32]⟩ : ByteArray) (n : Int) = some (fullS n) := by
  unfold strings_Repeat.f
  rw [Int.toNat_natCast, if_pos ⟨by omega, by omega, by show 2 * n ≤ _; omega⟩]
  rfl
theorem full_more (n : Nat) (h : n = 32768) : scan_Words.f (fullS n ++ (⟨#[32]⟩ : ByteArray)) = some ([], 0, 0, 5) := by
  have hz : (fullS n ++ (⟨#[32]⟩ : ByteArray)).size = n * 2 + 1 := by rw [ByteArray.size_append, full_size]; rfl
  unfold scan_Words.f wordsF
  rw [if_pos (by rw [hz]; omega), if_neg (by rw [hz]; omega)]
theorem known2 (l : List ByteArray) (hl : l.length ≤ 1000) (K : Nat) (hK : 40000 ≤ K) : ∀ d j : Nat, j + d = l.length → drayagelaw04_ScanKnown.l2 (K + d + 1) l (j : Int) = some true := by
  intro d
  induction d with
  | zero =>
    intro j hj
    rw [Nat.add_zero]
    simp only [drayagelaw04_ScanKnown.l2]
    obtain ⟨n, hn⟩ : ∃ n : Nat, n = 32768 := ⟨_, rfl⟩
    have hn2 : (32768 : Int) = (n : Int) := by omega
    have hr := full_repeat n (by omega)
    rw [← hn2] at hr
    rw [if_neg (by omega), hr]
    simp only [Option.bind_some]
    obtain ⟨w, hw, hwl, hwf⟩ := full_words n (by omega)
    rw [hw, full_more n hn]
    simp only [Option.bind_some]
    have hwk : drayagelaw04_works.f K = some true := by
      obtain ⟨q, rfl⟩ : ∃ q, K = 20 + q := ⟨K - 20, by omega⟩
      exact works_k q
    have hL0 : scan_Line.f K w 0 = some 32768 := by
      have := line_f w 0 K (by omega) (by omega)
      rw [show ((0 : Nat) : Int) = 0 from rfl] at this
      rw [this]
      unfold lineN
      rw [dif_pos (by omega), List.drop_zero, hwf _ (List.getElem_mem _), runLn_all 1 w hwf, hwl, ← hn2]
    have hL1 : scan_Line.f K w (-1) = some 0 := by
      obtain ⟨q, rfl⟩ : ∃ q, K = q + 1 := ⟨K - 1, by omega⟩
      exact line_neg w (-1) q (by omega)
    rw [if_pos (by rw [full_size]; omega), hwk]
    simp only [Option.bind_some]
    rw [if_pos trivial, if_pos trivial, if_pos (by omega), if_pos trivial, if_pos trivial, if_pos trivial, hL0]
    simp only [Option.bind_some]
    rw [if_pos trivial, hL1]
    rfl
  | succ d ih =>
    intro j hj
    obtain ⟨q, hq⟩ : ∃ q, q = K + d + 1 := ⟨_, rfl⟩
    have ih := ih (j + 1) (by omega)
    rw [← hq] at ih
    rw [show K + (d + 1) + 1 = q + 1 by omega]
    simp only [drayagelaw04_ScanKnown.l2]
    rw [if_pos (by omega), if_pos (by omega), words_ge _ _ (by omega) (by omega) _ (by omega)]
    simp only [Option.bind_some]
    rw [if_pos trivial, quotes_ge _ _ (by omega)]
    simp only [Option.bind_some]
    rw [if_pos trivial, wrap_id (by omega) (by omega), show (j : Int) + 1 = ((j + 1 : Nat) : Int) by omega]
    exact ih
theorem known1 (x1 : Int) (hx : 0 ≤ x1 ∧ x1 < 256) (l : List ByteArray) (hl : l.length ≤ 1000) (K : Nat) (hK : 40000 ≤ K) (hend : drayagelaw04_ScanKnown.l0 K (x1 + 1) = some true) : ∀ d j : Nat, j + d = l.length → drayagelaw04_ScanKnown.l1 (K + d + 1) x1 l (j : Int) = some true := by
  intro d
  induction d with
  | zero =>
    intro j hj
    rw [Nat.add_zero]
    simp only [drayagelaw04_ScanKnown.l1]
    rw [if_neg (by omega), wrap_id (by omega) (by omega)]
    exact hend
  | succ d ih =>
    intro j hj
    obtain ⟨q, hq⟩ : ∃ q, q = K + d + 1 := ⟨_, rfl⟩
    have ih := ih (j + 1) (by omega)
    rw [← hq] at ih
    rw [show K + (d + 1) + 1 = q + 1 by omega]
    simp only [drayagelaw04_ScanKnown.l1]
    rw [if_pos (by omega), if_pos (by omega), words_ge _ _ (by omega) (by omega) _ (by omega)]
    simp only [Option.bind_some]
    rw [if_pos trivial, quotes_ge _ _ (by omega)]
    simp only [Option.bind_some]
    rw [if_pos trivial, wrap_id (by omega) (by omega), show (j : Int) + 1 = ((j + 1 : Nat) : Int) by omega]
    exact ih
theorem known0 : ∀ n : Nat, n ≤ 256 → drayagelaw04_ScanKnown.l0 (40018 + 13 * n) (256 - (n : Int)) = some true := by
  intro n
  induction n with
  | zero =>
    intro _
    rw [show 40018 + 13 * 0 = 40017 + 1 by omega, show (256 : Int) - ((0 : Nat) : Int) = 256 by omega]
    simp only [drayagelaw04_ScanKnown.l0]
    rw [if_neg (by omega)]
    exact known2 _ (by decide) 40000 (by omega) 16 0 rfl
  | succ n ih =>
    intro hn
    have ih := ih (by omega)
    obtain ⟨q, hq⟩ : ∃ q, q = 40018 + 13 * n + 11 + 1 := ⟨_, rfl⟩
    rw [show 40018 + 13 * (n + 1) = q + 1 by omega]
    obtain ⟨x, hx⟩ : ∃ x : Int, 256 - ((n + 1 : Nat) : Int) = x := ⟨_, rfl⟩
    rw [show (256 : Int) - (n : Int) = x + 1 by omega] at ih
    rw [hx]
    obtain ⟨b, hb⟩ : ∃ b, strOfNums [x % 256] = b := ⟨_, rfl⟩
    have hz : b.size = 1 := by rw [← hb]; rfl
    have z1 : ∀ a : UInt8, (⟨#[a]⟩ : ByteArray).size = 1 := fun _ => rfl
    have z2 : ∀ a c : UInt8, (⟨#[a, c]⟩ : ByteArray).size = 2 := fun _ _ => rfl
    simp only [drayagelaw04_ScanKnown.l0, Option.bind_some]
    rw [if_pos (by omega), hb]
    simp only [ByteArray.size_append, z1, z2, hz]
    rw [if_pos (by decide), if_pos (by decide), if_pos (by decide), if_pos (by decide), if_pos (by decide), if_pos (by decide), if_pos (by decide), if_pos (by decide)]
    rw [hq]
    exact known1 x ⟨by omega, by omega⟩ _ (by simp) (40018 + 13 * n) (by omega) ih 11 0 rfl
theorem ScanKnown : drayagelaw04_ScanKnown.Pure := by
  refine ⟨40018 + 13 * 256, ?_⟩
  unfold drayagelaw04_ScanKnown.f
  exact known0 256 (Nat.le_refl _)
end Go.Proofs.YtcpalnmodbbklaaDoor.Pure
