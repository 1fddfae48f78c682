import Derived.Test.YtcpalnmodbbklaaDoorHrun
import Derived.Lib.MapLaws
import Derived.Lib.RuneCountTail
import Derived.Lib.ValidAsc
/- Plain laws on UTF-8: runes as bytes, and where they stand. -/
namespace Go.Proofs.YtcpalnmodbbklaaDoor.P
set_option linter.unusedVariables false
set_option linter.unusedSimpArgs false
open Go.RowKit Go.Proofs.YtcpalnmodbbklaaDoorW.PrintWords Go.Proofs.YtcpalnmodbbklaaDoorW.PrintLast Go.Proofs.YtcpalnmodbbklaaDoorW.PrintMore

theorem encode_eq (r : Int) : (Utf8.encode r).data.toList = Lib.encodeRune r := by
  unfold Utf8.encode Lib.encodeRune Utf8.valid Utf8.runeError
  by_cases hv : (0 ≤ r ∧ r < 55296) ∨ (57344 ≤ r ∧ r ≤ 1114111)
  · have e : ((decide (0 ≤ r) && decide (r < 0xD800)) || (decide (0xE000 ≤ r) && decide (r ≤ 0x10FFFF))) = true := by
      rcases hv with ⟨a, b⟩ | ⟨a, b⟩
      · simp [a, b]
      · simp [a, b]
    rw [e]
    simp only [if_true]
    obtain ⟨n, rfl⟩ : ∃ n : Nat, r = (n : Int) := ⟨r.toNat, by omega⟩
    rw [Int.toNat_natCast]
    by_cases h1 : n < 128
    · rw [if_pos h1, Lib.encodeRuneZ_one (by omega) (by omega)]
      simp
    · rw [if_neg h1]
      by_cases h2 : n < 2048
      · rw [if_pos h2, Lib.encodeRuneZ_two (by omega) (by omega)]
        simp only [List.map_cons, List.map_nil]
        rw [show ((192 : Int) + (n : Int) / 64).toNat = 192 + n / 64 by omega, show ((128 : Int) + (n : Int) % 64).toNat = 128 + n % 64 by omega]
      · rw [if_neg h2]
        by_cases h3 : n < 65536
        · rw [if_pos h3, Lib.encodeRuneZ_three (by omega)]
          simp only [List.map_cons, List.map_nil]
          rw [show ((224 : Int) + (n : Int) / 4096).toNat = 224 + n / 4096 by omega, show ((128 : Int) + (n : Int) / 64 % 64).toNat = 128 + n / 64 % 64 by omega, show ((128 : Int) + (n : Int) % 64).toNat = 128 + n % 64 by omega]
        · rw [if_neg h3, Lib.encodeRuneZ_four (by omega) (by omega)]
          simp only [List.map_cons, List.map_nil]
          rw [show ((240 : Int) + (n : Int) / 262144).toNat = 240 + n / 262144 by omega, show ((128 : Int) + (n : Int) / 4096 % 64).toNat = 128 + n / 4096 % 64 by omega, show ((128 : Int) + (n : Int) / 64 % 64).toNat = 128 + n / 64 % 64 by omega, show ((128 : Int) + (n : Int) % 64).toNat = 128 + n % 64 by omega]
  · have e : ((decide (0 ≤ r) && decide (r < 0xD800)) || (decide (0xE000 ≤ r) && decide (r ≤ 0x10FFFF))) = false := by
      rw [Bool.or_eq_false_iff, Bool.and_eq_false_iff, Bool.and_eq_false_iff]
      simp only [decide_eq_false_iff_not]
      omega
    rw [e, Lib.encodeRuneZ_bad (by omega), show (if false = true then r.toNat else 0xFFFD) = 0xFFFD from if_neg (by decide)]
    decide
theorem runes_snoc (l : List Int) (c : Int) : runesBytes (l ++ [c]) = runesBytes l ++ Utf8.encode c := by
  unfold runesBytes
  rw [List.foldl_append]
  rfl
theorem runes_fold : ∀ (l : List Int) (a : ByteArray), (l.foldl (fun r n => r ++ Utf8.encode n) a).data.toList = a.data.toList ++ l.flatMap Lib.encodeRune := by
  intro l
  induction l with
  | nil => intro a; simp
  | cons c r ih =>
    intro a
    rw [List.foldl_cons, ih, ByteArray.data_append, Array.toList_append, encode_eq]
    simp
theorem runes_list (l : List Int) : (runesBytes l).data.toList = l.flatMap Lib.encodeRune := by
  unfold runesBytes
  rw [runes_fold]
  rfl
theorem decodeL_drop (s : ByteArray) (p : Nat) : Lib.decodeL (s.data.toList.drop p) = Utf8.decode s p := by
  unfold Lib.decodeL
  rw [← Lib.ext_list]
  exact Lib.tail_decode s p 0
theorem drop_ne {s : ByteArray} {p : Nat} (h : p < s.size) : s.data.toList.drop p ≠ [] := by
  intro e
  have := congrArg List.length e
  simp at this
  omega
/-- a rune is just the bytes that it was read of -/
theorem enc_at {s : ByteArray} {p : Nat} (h : p < s.size) (ho : oddB s p = false) : Lib.encodeRune (((Utf8.decode s p).1 : Nat) : Int) = (s.data.toList.drop p).take (Utf8.decode s p).2 := by
  have := Lib.encode_decode (s.data.toList.drop p) (drop_ne h) (by
    rw [decodeL_drop]
    intro hh
    unfold oddB at ho
    rw [decide_eq_true hh.1, decide_eq_true hh.2] at ho
    cases ho)
  rwa [decodeL_drop] at this
theorem extract_list (s : ByteArray) (a b : Nat) : (s.extract a b).data.toList = (s.data.toList.drop a).take (b - a) := by
  rw [ByteArray.data_extract, Array.toList_extract, List.extract_eq_take_drop]
theorem ba_ext {a b : ByteArray} (h : a.data.toList = b.data.toList) : a = b := by
  cases a; cases b
  simp at h
  rw [h]
/-- what is read at a place hangs on the bytes of the rune alone -/
theorem decodeN_local (n m b0 b1 b2 b3 d1 d2 d3 : Nat) (hn : 1 ≤ n) (h0 : b0 < 256)
    (hodd : ¬ ((Lib.decodeN n b0 b1 b2 b3).1 = 65533 ∧ (Lib.decodeN n b0 b1 b2 b3).2 = 1)) (hm : (Lib.decodeN n b0 b1 b2 b3).2 ≤ m)
    (e1 : 1 < (Lib.decodeN n b0 b1 b2 b3).2 → d1 = b1) (e2 : 2 < (Lib.decodeN n b0 b1 b2 b3).2 → d2 = b2) (e3 : 3 < (Lib.decodeN n b0 b1 b2 b3).2 → d3 = b3) :
    Lib.decodeN m b0 d1 d2 d3 = Lib.decodeN n b0 b1 b2 b3 := by
  rcases Lib.decodeN_shape n b0 b1 b2 b3 with ⟨c, e⟩ | ⟨c1, c2, c3, cv, e⟩ | ⟨c1, c2, c3, c4, cv, cs, e⟩ | ⟨c1, c2, c3, c4, c5, cv, cw, e⟩ | e
  · rw [e]
    unfold Lib.decodeN
    rw [if_pos c]
  · rw [e] at hm e1 ⊢
    dsimp only at hm e1
    rw [e1 (by omega)]
    unfold Lib.decodeN
    rw [if_neg (by omega), if_pos ⟨c1, by omega, c3⟩, if_pos (by omega)]
  · rw [e] at hm e1 e2 ⊢
    dsimp only at hm e1 e2
    rw [e1 (by omega), e2 (by omega)]
    unfold Lib.decodeN
    rw [if_neg (by omega), if_neg (by omega), if_pos ⟨c1, ⟨by omega, c3⟩, by omega, c4⟩, if_pos ⟨by omega, by omega⟩]
  · rw [e] at hm e1 e2 e3 ⊢
    dsimp only at hm e1 e2 e3
    rw [e1 (by omega), e2 (by omega), e3 (by omega)]
    unfold Lib.decodeN
    rw [if_neg (by omega), if_neg (by omega), if_neg (by omega), if_pos ⟨c1, ⟨by omega, c3⟩, ⟨by omega, c4⟩, by omega, c5⟩, if_pos ⟨by omega, by omega⟩]
  · rw [e] at hodd
    exact absurd ⟨rfl, rfl⟩ hodd
/-- a rune that was read at a place is read wherever its bytes stand -/
theorem decode_local {s t : ByteArray} {p q : Nat} (hp : p < s.size) (ho : oddB s p = false) (hq : q + (Utf8.decode s p).2 ≤ t.size) (hb : ∀ i, i < (Utf8.decode s p).2 → t.get! (q + i) = s.get! (p + i)) :
    Utf8.decode t q = Utf8.decode s p := by
  have h2 := (decode_range s p).2.1
  have hodd : ¬ ((Utf8.decode s p).1 = 65533 ∧ (Utf8.decode s p).2 = 1) := fun hh => by
    unfold oddB at ho
    rw [decide_eq_true hh.1, decide_eq_true hh.2] at ho
    cases ho
  have h0 := hb 0 (by omega)
  have h1 := hb 1
  have hh2 := hb 2
  have h3 := hb 3
  rw [Nat.add_zero, Nat.add_zero] at h0
  rw [Lib.decode_at t q, Lib.decode_at s p, h0]
  rw [Lib.decode_at s p] at hodd hq h1 hh2 h3
  refine decodeN_local _ _ _ _ _ _ _ _ _ (by omega) (s.get! p).toNat_lt hodd (by omega) (fun h => by rw [h1 h]) (fun h => by rw [hh2 h]) (fun h => by rw [h3 h])
theorem odd_local {s t : ByteArray} {p q : Nat} (hp : p < s.size) (ho : oddB s p = false) (hq : q + (Utf8.decode s p).2 ≤ t.size) (hb : ∀ i, i < (Utf8.decode s p).2 → t.get! (q + i) = s.get! (p + i)) : oddB t q = false := by
  have := decode_local hp ho hq hb
  unfold oddB at ho ⊢
  rw [this]
  exact ho
/-- a rune of ASCII is one byte; another has none of ASCII -/
theorem decode_low {s : ByteArray} {p : Nat} (h : (Utf8.decode s p).1 < 128) : (Utf8.decode s p).2 = 1 ∧ (s.get! p).toNat = (Utf8.decode s p).1 := by
  rw [Lib.decode_at] at h ⊢
  rcases Lib.decodeN_shape (s.size - p) (s.get! p).toNat (s.get! (p + 1)).toNat (s.get! (p + 2)).toNat (s.get! (p + 3)).toNat with ⟨c, e⟩ | ⟨c1, c2, c3, cv, e⟩ | ⟨c1, c2, c3, c4, cv, cs, e⟩ | ⟨c1, c2, c3, c4, c5, cv, cw, e⟩ | e
  · rw [e]; exact ⟨rfl, rfl⟩
  all_goals
    rw [e] at h
    dsimp only at h
    omega
theorem decode_asc {s : ByteArray} {p : Nat} (h : (s.get! p).toNat < 128) : Utf8.decode s p = ((s.get! p).toNat, 1) := by
  rw [Lib.decode_at]
  unfold Lib.decodeN
  rw [if_pos h]
theorem decode_high {s : ByteArray} {p : Nat} (h : 128 ≤ (Utf8.decode s p).1) (ho : oddB s p = false) : ∀ i, i < (Utf8.decode s p).2 → 128 ≤ (s.get! (p + i)).toNat := by
  unfold oddB at ho
  rw [Lib.decode_at] at h ho ⊢
  rcases Lib.decodeN_shape (s.size - p) (s.get! p).toNat (s.get! (p + 1)).toNat (s.get! (p + 2)).toNat (s.get! (p + 3)).toNat with ⟨c, e⟩ | ⟨c1, c2, c3, cv, e⟩ | ⟨c1, c2, c3, c4, cv, cs, e⟩ | ⟨c1, c2, c3, c4, c5, cv, cw, e⟩ | e
  · rw [e] at h; dsimp only at h; omega
  · rw [e]
    intro i hi
    dsimp only at hi
    have : i = 0 ∨ i = 1 := by omega
    rcases this with rfl | rfl
    · rw [Nat.add_zero]; omega
    · omega
  · rw [e]
    intro i hi
    dsimp only at hi
    have : i = 0 ∨ i = 1 ∨ i = 2 := by omega
    rcases this with rfl | rfl | rfl
    · rw [Nat.add_zero]; omega
    · omega
    · omega
  · rw [e]
    intro i hi
    dsimp only at hi
    have : i = 0 ∨ i = 1 ∨ i = 2 ∨ i = 3 := by omega
    rcases this with rfl | rfl | rfl | rfl
    · rw [Nat.add_zero]; omega
    · omega
    · omega
    · omega
  · rw [e] at ho
    exact absurd ho (by decide)
end Go.Proofs.YtcpalnmodbbklaaDoor.P
