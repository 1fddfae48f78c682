import Derived.Test.YtcpalnmodbbklaaDoorPf5
import Derived.Test.YtcpalnmodbbklaaDoorHeqv
import Derived.Test.YtcpalnmodbbklaaDoorHref7
import Derived.Test.YtcpalnmodbbklaaDoorHworks
namespace Go.Proofs.YtcpalnmodbbklaaDoor.Pure
set_option linter.unusedVariables false
set_option linter.unusedSimpArgs false
open Go.RowKit Go.Proofs.YtcpalnmodbbklaaDoor.P Go.Proofs.YtcpalnmodbbklaaDoorW.PrintWords Go.Proofs.YtcpalnmodbbklaaDoorW.PrintLast

theorem piece_eq {s : ByteArray} {p : Nat} (hp : p < s.size) (ho : oddB s p = false) : (rpiece s p).data.toList = pieceQ (Utf8.decode s p).1 := by
  have hc := rcv_in hp
  unfold rpiece pieceQ
  by_cases h34 : (Utf8.decode s p).1 = 34
  · rw [if_pos (by omega), if_neg (by omega), if_pos (Or.inl h34), h34]
    rfl
  · rw [if_neg (by omega)]
    by_cases h92 : (Utf8.decode s p).1 = 92
    · rw [if_pos (by omega), if_neg (by omega), if_pos (Or.inr h92), h92]
      rfl
    · rw [if_neg (by omega)]
      by_cases h10 : (Utf8.decode s p).1 = 10
      · rw [if_pos (by omega), if_pos h10]
      · rw [if_neg (by omega), if_neg h10, if_neg (by omega), enc_at hp ho, extract_list]
        unfold wdt
        rw [Nat.add_sub_cancel_left]
theorem quotes_eq (s : ByteArray) : ∀ k p (acc : ByteArray) (l : List UInt8), acc.data.toList = l → s.size - p < k →
    rquoteR s k p acc = match quoteGo s k p l with
      | none => (⟨#[]⟩, 4)
      | some r => (⟨r.toArray⟩, 0) := by
  intro k
  induction k with
  | zero => intro p acc l _ h; omega
  | succ k ih =>
    intro p acc l hl hk
    by_cases hp : p < s.size
    · have hc := rcv_in hp
      have hw := decode_in' s p hp
      unfold rquoteR
      rw [if_neg (by omega)]
      cases hb : badB s p with
      | true =>
        rw [quoteGo_bad hp hb, if_pos]
        unfold badB at hb
        rw [rbv_odd hp]
        rcases Bool.eq_false_or_eq_true (oddB s p) with h | h
        · left; rw [h]; rfl
        · right
          rw [h, Bool.false_or] at hb
          simp at hb
          omega
      | false =>
        rw [quoteGo_on hp hb]
        unfold badB at hb
        rw [Bool.or_eq_false_iff] at hb
        obtain ⟨ho, hb⟩ := hb
        rw [rbv_odd hp, ho, if_neg (by
          rintro (h | ⟨h1, h2⟩)
          · cases h
          · simp at hb; omega)]
        exact ih (p + wdt s p) (acc ++ rpiece s p) _ (by rw [ByteArray.data_append, Array.toList_append, hl, piece_eq hp ho]) (by unfold wdt; omega)
    · rw [quoteGo_end hp]
      unfold rquoteR
      rw [if_pos (by rw [rcv_end hp]; decide)]
      refine Prod.ext ?_ rfl
      apply ba_ext
      rw [ByteArray.data_append, Array.toList_append, hl]
theorem quotes_law (a0 : ByteArray) (k : Nat) : drayagelaw04_ScanQuotes.f (20 + k) a0 = some true := by
  unfold drayagelaw04_ScanQuotes.f
  have hmn : mn (a0.size : Int) 400 = ((min a0.size 400 : Nat) : Int) := by unfold mn; split <;> omega
  rw [hmn, if_pos (by omega), if_pos (by omega), Int.toNat_natCast]
  obtain ⟨s, hs⟩ : ∃ s, a0.extract 0 (min a0.size 400) = s := ⟨_, rfl⟩
  have hsz : s.size ≤ 400 := by rw [← hs, ByteArray.size_extract]; omega
  rw [hs]
  have e1 : scan_Quote.f s = some (quoteF s) := by
    unfold scan_Quote.f
    rw [if_pos (by omega)]
  have e2 : drayageref04_Quote.f s = some (quoteF s) := by
    unfold drayageref04_Quote.f quoteF
    rw [if_pos (by omega), quotes_eq s (s.size + 1) 0 ⟨#[34]⟩ [34] rfl (by omega)]
    congr 1
  rw [e1, e2]
  simp only [Option.bind_some]
  rw [if_pos trivial, if_pos trivial, works_k k]
  rfl
theorem ScanQuotes : drayagelaw04_ScanQuotes.Pure := by
  intro a0 hz
  exact ⟨20 + 0, quotes_law a0 0⟩
end Go.Proofs.YtcpalnmodbbklaaDoor.Pure
