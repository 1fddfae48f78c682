import Derived.Test.YtcpalnmodbbklaaDoorHscan8
import Derived.Lib.RuneLoops
import Derived.Lib.Strings
/- Is there a rune at a byte? The program's odd tells it. -/
namespace Go.Proofs.YtcpalnmodbbklaaDoor.P
set_option linter.unusedVariables false
set_option linter.unusedSimpArgs false
open Go.RowKit Go.Proofs.YtcpalnmodbbklaaDoorW.PrintWords Go.Proofs.YtcpalnmodbbklaaDoorW.PrintLast Go.Proofs.YtcpalnmodbbklaaDoorW.PrintMore

/-- U+FFFD's three bytes stand there -/
def repl (s : ByteArray) (pos : Nat) : Prop := pos + 2 < s.size ∧ (s.get! pos).toNat = 239 ∧ (s.get! (pos + 1)).toNat = 191 ∧ (s.get! (pos + 2)).toNat = 189
instance (s : ByteArray) (pos : Nat) : Decidable (repl s pos) := by unfold repl; exact inferInstance
def dN (b0 b1 b2 b3 : Nat) (c1 c2 c3 : Bool) : Nat × Nat :=
  if b0 < 0x80 then (b0, 1)
  else if (b0 / 32 == 6 && (c1 && b1 / 64 == 2)) = true then
    if (b0 % 32) * 64 + b1 % 64 ≥ 0x80 then ((b0 % 32) * 64 + b1 % 64, 2) else (65533, 1)
  else if (b0 / 16 == 14 && (c1 && b1 / 64 == 2) && (c2 && b2 / 64 == 2)) = true then
    if (decide ((b0 % 16) * 4096 + (b1 % 64) * 64 + b2 % 64 ≥ 0x800) && Utf8.valid (((b0 % 16) * 4096 + (b1 % 64) * 64 + b2 % 64 : Nat) : Int)) = true then ((b0 % 16) * 4096 + (b1 % 64) * 64 + b2 % 64, 3) else (65533, 1)
  else if (b0 / 8 == 30 && (c1 && b1 / 64 == 2) && (c2 && b2 / 64 == 2) && (c3 && b3 / 64 == 2)) = true then
    if (decide ((b0 % 8) * 262144 + (b1 % 64) * 4096 + (b2 % 64) * 64 + b3 % 64 ≥ 0x10000) && Utf8.valid (((b0 % 8) * 262144 + (b1 % 64) * 4096 + (b2 % 64) * 64 + b3 % 64 : Nat) : Int)) = true then ((b0 % 8) * 262144 + (b1 % 64) * 4096 + (b2 % 64) * 64 + b3 % 64, 4) else (65533, 1)
  else (65533, 1)
theorem decode_dN (s : ByteArray) (pos : Nat) : Utf8.decode s pos = dN (s.get! pos).toNat (s.get! (pos + 1)).toNat (s.get! (pos + 2)).toNat (s.get! (pos + 3)).toNat (decide (pos + 1 < s.size)) (decide (pos + 2 < s.size)) (decide (pos + 3 < s.size)) := rfl
theorem dN_repl (b3 : Nat) (c3 : Bool) : dN 239 191 189 b3 true true c3 = (65533, 3) := by
  unfold dN
  rw [if_neg (by decide), if_neg (by decide), if_pos (by decide), if_pos (by decide)]
theorem dN_fffd (b0 b1 b2 b3 : Nat) (c1 c2 c3 : Bool) (h : (dN b0 b1 b2 b3 c1 c2 c3).1 = 65533) (hr : ¬ (c2 = true ∧ b0 = 239 ∧ b1 = 191 ∧ b2 = 189)) : (dN b0 b1 b2 b3 c1 c2 c3).2 = 1 := by
  revert h
  unfold dN
  split
  · intro _; rfl
  split
  · split
    · intro h; dsimp only at h; omega
    · intro _; rfl
  split
  · rename_i hc
    simp only [Bool.and_eq_true, beq_iff_eq] at hc
    split
    · intro h
      dsimp only at h
      exfalso
      refine hr ⟨hc.2.1, ?_, ?_, ?_⟩ <;> omega
    · intro _; rfl
  split
  · split
    · rename_i hc
      simp only [Bool.and_eq_true, decide_eq_true_eq, ge_iff_le] at hc
      intro h; dsimp only at h; omega
    · intro _; rfl
  · intro _; rfl
theorem decode_repl (s : ByteArray) (pos : Nat) (h : repl s pos) : Utf8.decode s pos = (65533, 3) := by
  obtain ⟨h1, h2, h3, h4⟩ := h
  rw [decode_dN, h2, h3, h4, decide_eq_true (show pos + 1 < s.size by omega), decide_eq_true h1]
  exact dN_repl _ _
theorem decode_fffd (s : ByteArray) (pos : Nat) (h : (Utf8.decode s pos).1 = 65533) (hr : ¬ repl s pos) : (Utf8.decode s pos).2 = 1 := by
  rw [decode_dN] at h ⊢
  exact dN_fffd _ _ _ _ _ _ _ h (fun k => hr ⟨by simpa using k.1, k.2⟩)
theorem get_list (s : ByteArray) (i : Nat) (h : i < s.size) : s.data.toList[i]? = some (s.get! i) := by
  rw [Array.getElem?_toList, Array.getElem?_eq_getElem h]
  congr 1
  exact (Go.get_at s i h).symm
theorem extract_three (s : ByteArray) (pos : Nat) (hp : pos + 2 < s.size) : ((s.extract pos s.size).extract 0 3).data.toList = [s.get! pos, s.get! (pos + 1), s.get! (pos + 2)] := by
  rw [ByteArray.data_extract, ByteArray.data_extract, Array.toList_extract, Array.toList_extract, List.extract_eq_take_drop, List.extract_eq_take_drop]
  have hl : s.data.toList.length = s.size := by simp
  refine List.ext_getElem? fun i => ?_
  rw [List.getElem?_take, List.getElem?_drop, List.getElem?_take, List.getElem?_drop]
  rcases i with _ | _ | _ | i
  · rw [if_pos (by omega), if_pos (by omega), get_list s _ (by omega)]; simp
  · rw [if_pos (by omega), if_pos (by omega), get_list s _ (by omega)]; simp
  · rw [if_pos (by omega), if_pos (by omega), get_list s _ (by omega)]; simp
  · rw [if_neg (by omega)]; simp
theorem u8_eq (b : UInt8) (n : Nat) (hn : n < 256) : b = UInt8.ofNat n ↔ b.toNat = n := by
  constructor
  · rintro rfl; simp; omega
  · intro h; apply UInt8.toNat_inj.1; simp; omega
theorem prefix_repl (s : ByteArray) (pos : Nat) (hp : pos < s.size) : strings_HasPrefix.f (s.extract pos s.size) ⟨#[239, 191, 189]⟩ = some (decide (repl s pos)) := by
  have hsz : (s.extract pos s.size).size = s.size - pos := by rw [ByteArray.size_extract]; omega
  have e3 : ((⟨#[239, 191, 189]⟩ : ByteArray).size : Int) = 3 := rfl
  unfold strings_HasPrefix.f stringslite_HasPrefix.f
  rw [hsz, e3]
  by_cases h : pos + 2 < s.size
  · rw [if_pos (by omega), if_pos (by omega), if_pos (by omega)]
    simp only [Option.bind_some]
    congr 1
    rw [Lib.toList_data, Lib.toList_data, show ((3 : Int)).toNat = 3 from rfl, extract_three s pos h]
    show ([s.get! pos, s.get! (pos + 1), s.get! (pos + 2)] == [(239 : UInt8), 191, 189]) = _
    rw [Bool.eq_iff_iff, beq_iff_eq, decide_eq_true_eq]
    unfold repl
    simp only [List.cons.injEq, and_true]
    have a := u8_eq (s.get! pos) 239 (by omega)
    have b := u8_eq (s.get! (pos + 1)) 191 (by omega)
    have c := u8_eq (s.get! (pos + 2)) 189 (by omega)
    constructor
    · rintro ⟨h1, h2, h3⟩; exact ⟨h, a.1 h1, b.1 h2, c.1 h3⟩
    · rintro ⟨_, h1, h2, h3⟩; exact ⟨a.2 h1, b.2 h2, c.2 h3⟩
  · rw [if_neg (by omega)]
    simp only [Option.bind_some]
    rw [decide_eq_false (fun k => h k.1)]
theorem odd_f (s : ByteArray) (pos : Nat) (hp : pos < s.size) : scan_odd.f s (pos : Int) (((Utf8.decode s pos).1 : Nat) : Int) = some (oddB s pos) := by
  unfold scan_odd.f oddB
  by_cases h : (Utf8.decode s pos).1 = 65533
  · rw [if_pos (by omega), if_pos (by omega), if_pos (by omega), Int.toNat_natCast, prefix_repl s pos hp]
    simp only [Option.bind_some]
    by_cases hr : repl s pos
    · rw [decide_eq_true hr, decode_repl s pos hr]; rfl
    · rw [decide_eq_false hr, decode_fffd s pos h hr, h]; rfl
  · rw [if_neg (by omega), decide_eq_false h]
    rfl
end Go.Proofs.YtcpalnmodbbklaaDoor.P
