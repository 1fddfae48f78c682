import Derived.Test.YtcpalnmodbbklaaDoorHscan9a
/- Plain laws: texts of runes that are ASCII, or é. -/
namespace Go.Proofs.YtcpalnmodbbklaaDoor.P
set_option linter.unusedVariables false
set_option linter.unusedSimpArgs false
open Go.RowKit Go.Proofs.YtcpalnmodbbklaaDoorW.PrintWords Go.Proofs.YtcpalnmodbbklaaDoorW.PrintLast Go.Proofs.YtcpalnmodbbklaaDoorW.PrintMore

/-- runes as bytes: ASCII, or é (233) -/
def enc1 (c : Nat) : List UInt8 := if c = 233 then [195, 169] else [UInt8.ofNat c]
def encL (l : List Nat) : List UInt8 := l.flatMap enc1
def easy (c : Nat) : Bool := decide (c < 128) || decide (c = 233)
/-- the machine over runes: the state behind them, if nothing is wrong -/
def runR : Sc → List Nat → Option Sc
  | σ, [] => some σ
  | σ, c :: r => if (stepS σ (c : Int)).2 = 0 then runR (moveS (stepS σ (c : Int)).1 (c : Int)) r else none
theorem runR_append (σ : Sc) : ∀ (a b : List Nat), runR σ (a ++ b) = (runR σ a).bind fun τ => runR τ b := by
  intro a
  induction a generalizing σ with
  | nil => intro b; rfl
  | cons c r ih =>
    intro b
    simp only [List.cons_append, runR]
    split
    · exact ih _ b
    · rfl
theorem get_of (s : ByteArray) (A : List UInt8) (x : UInt8) (B : List UInt8) (h : s.data.toList = A ++ x :: B) : A.length < s.size ∧ s.get! A.length = x := by
  have hl : s.data.toList.length = s.size := by simp
  have h1 : A.length < s.size := by rw [← hl, h]; simp
  refine ⟨h1, ?_⟩
  have := get_list s A.length h1
  rw [h, List.getElem?_append_right (Nat.le_refl _), Nat.sub_self] at this
  exact (Option.some.inj this).symm
theorem decode_easy (s : ByteArray) (A B : List UInt8) (c : Nat) (hc : easy c = true) (h : s.data.toList = A ++ (enc1 c ++ B)) : A.length < s.size ∧ Utf8.decode s A.length = (c, (enc1 c).length) := by
  by_cases he : c = 233
  · subst he
    have e : enc1 233 = [195, 169] := rfl
    rw [e] at h
    obtain ⟨h1, h2⟩ := get_of s A 195 (169 :: B) h
    obtain ⟨h3, h4⟩ := get_of s (A ++ [195]) 169 B (by rw [h]; simp)
    rw [List.length_append, List.length_singleton] at h3 h4
    refine ⟨h1, ?_⟩
    rw [decode_dN, h2, h4, decide_eq_true h3]
    unfold dN
    rw [if_neg (by decide), if_pos (by decide), if_pos (by decide)]
    rfl
  · have hlt : c < 128 := by simp [easy, he] at hc; exact hc
    have e : enc1 c = [UInt8.ofNat c] := by unfold enc1; rw [if_neg he]
    rw [e] at h
    obtain ⟨h1, h2⟩ := get_of s A (UInt8.ofNat c) B h
    refine ⟨h1, ?_⟩
    have hn : (UInt8.ofNat c).toNat = c := by simp; omega
    rw [decode_dN, h2, hn, e]
    unfold dN
    rw [if_pos hlt]
    rfl
theorem wordsGo_run (s : ByteArray) : ∀ (rs : List Nat) (A B : List UInt8) (k : Nat) (σ τ : Sc), (∀ c ∈ rs, easy c = true) → s.data.toList = A ++ (encL rs ++ B) → runR σ rs = some τ →
    wordsGo s (rs.length + k) A.length σ = wordsGo s k (A ++ encL rs).length τ := by
  intro rs
  induction rs with
  | nil =>
    intro A B k σ τ _ _ hr
    simp only [runR, Option.some.injEq] at hr
    subst hr
    simp [encL]
  | cons c r ih =>
    intro A B k σ τ he hs hr
    have e : encL (c :: r) = enc1 c ++ encL r := by simp [encL]
    rw [e] at hs ⊢
    obtain ⟨h1, h2⟩ := decode_easy s A (encL r ++ B) c (he c (List.mem_cons_self ..)) (by rw [hs]; simp)
    simp only [runR] at hr
    split at hr
    · rename_i hz
      have ho : oddB s A.length = false := by
        unfold oddB
        rw [h2]
        have := he c (List.mem_cons_self ..)
        simp only [easy, Bool.or_eq_true, decide_eq_true_eq] at this
        have : c ≠ 65533 := by omega
        simp [this]
      rw [show (c :: r).length + k = (r.length + k) + 1 by simp; omega]
      conv => lhs; unfold wordsGo
      rw [if_pos h1, ho, if_neg (by simp), h2]
      dsimp only
      rw [if_pos hz]
      have := ih (A ++ enc1 c) B k _ τ (fun x hx => he x (List.mem_cons_of_mem _ hx)) (by rw [hs]; simp) hr
      rw [List.length_append] at this
      rw [this, List.append_assoc]
    · cases hr
/-- a text of such runes -/
theorem words_run (s : ByteArray) (rs : List Nat) (τ : Sc) (he : ∀ c ∈ rs, easy c = true) (hs : s.data.toList = encL rs) (hz : s.size ≤ 65536) (hr : runR sc0 rs = some τ) (hend : (stepS τ 10).2 = 0) :
    scan_Words.f s = some ((stepS τ 10).1.wd, 0, 0, 0) := by
  have hl : (encL rs).length = s.size := by rw [← hs]; simp
  have hle : rs.length ≤ s.size := by
    rw [← hl]
    clear he hs hr hl
    induction rs with
    | nil => simp
    | cons c r ih =>
      have : 1 ≤ (enc1 c).length := by unfold enc1; split <;> simp
      have e : encL (c :: r) = enc1 c ++ encL r := by simp [encL]
      rw [e, List.length_append, List.length_cons]
      omega
  unfold scan_Words.f wordsF
  rw [if_pos (by omega), if_pos hz]
  have := wordsGo_run s rs [] [] (s.size + 1 - rs.length) sc0 τ he (by simpa using hs) hr
  rw [show rs.length + (s.size + 1 - rs.length) = s.size + 1 by omega] at this
  rw [show ([] : List UInt8).length = 0 from rfl] at this
  rw [this, List.nil_append, hl]
  obtain ⟨q, hq⟩ : ∃ q, s.size + 1 - rs.length = q + 1 := ⟨s.size - rs.length, by omega⟩
  rw [hq]
  unfold wordsGo
  rw [if_neg (by omega), if_pos hend]
end Go.Proofs.YtcpalnmodbbklaaDoor.P
