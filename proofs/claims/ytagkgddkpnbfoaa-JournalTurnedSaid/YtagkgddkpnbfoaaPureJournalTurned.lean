import Derived.Test.YtagkgddkpnbfoaaHtorn
import Derived.Test.YtagkgddkpnbfoaaPf6
import Derived.Laws.BitsAllLaws
/- The plain law: if bits of one byte of a record's bytes are turned, Read tells just those ahead of it. -/
namespace Go.Proofs.Ytagkgddkpnbfoaa.Pure
set_option linter.unusedVariables false
set_option linter.unusedSimpArgs false
open Go.RowKit Go.Proofs.Ytagkgddkpnbfoaa.P Go.Proofs.YtagkgddkpnbfoaaW.PrintWords Go.Proofs.YtagkgddkpnbfoaaW.PrintLast

theorem xor_byte {a b : Int} (ha : isByte a) (h0 : 0 < b) (h1 : b ≤ 255) : isByte (Go.bits .xor .u8 a b) ∧ Go.bits .xor .u8 a b ≠ a := by
  unfold isByte at ha
  rw [u8_xor a b (by omega) (by omega) (by omega) (by omega)]
  have hlt : a.toNat ^^^ b.toNat < 2 ^ 8 := Nat.xor_lt_two_pow (by omega) (by omega)
  refine ⟨⟨by omega, by omega⟩, fun h => ?_⟩
  have h2 : a.toNat ^^^ b.toNat = a.toNat := by omega
  have h3 : a.toNat ^^^ (a.toNat ^^^ b.toNat) = 0 := by rw [h2, Nat.xor_self]
  rw [← Nat.xor_assoc, Nat.xor_self, Nat.zero_xor] at h3
  omega
theorem turned_loop (M : List S25) (hM : ∀ r ∈ M, okX r = true) (hm : M.length ≤ 12) (n : Nat) (x : Int) (hn : n < (cat M).length) (hx : isByte x) (hne : x ≠ gB (cat M) n) : ∀ (d k q : Nat), q + d = M.length → d + 600 < k → k ≤ 100000 → (cat (M.take q)).length ≤ n →
    drayagelaw20_JournalTurned.l0 k M ((cat M).set n x) (ends M) (n : Int) (q : Int) = some true := by
  have hcs := cat_small M hM
  have hb : bytesOk ((cat M).set n x) = true := bytesOk_of (fun y hy => by
    rcases List.mem_or_eq_of_mem_set hy with h | h
    · exact cat_byte M y h
    · rw [h]; exact hx) (by rw [List.length_set]; omega)
  intro d
  induction d with
  | zero =>
    intro k q h hk hk2 hq
    have : q = M.length := by omega
    rw [this, List.take_length] at hq
    omega
  | succ d ih =>
    intro k q h hk hk2 hq
    obtain ⟨k, rfl⟩ : ∃ m, k = m + 1 := ⟨k - 1, by omega⟩
    simp only [drayagelaw20_JournalTurned.l0]
    rw [if_pos (by omega), if_pos (by rw [ends_length]; omega), rd_ends M q (by omega)]
    by_cases hle : (cat (M.take (q + 1))).length ≤ n
    · rw [if_pos (by omega), wrap_succ (n := 12) (by omega) (by omega)]
      exact ih k (q + 1) (by omega) (by omega) (by omega) hle
    · rw [if_neg (by omega), tells_f M hM (by omega) q (by omega) _ hb (read_turned M hM n q x (by omega) hq (by omega) hx hne) k (by omega) (by omega)]
      simp only [Option.bind_some]
      rw [if_pos trivial, works_f]
      rfl
theorem JournalTurned (l0 : List S25) (a1 a2 : Int) (h0 : 0 ≤ a2) (h1 : a2 ≤ 255) : ∃ k, drayagelaw20_JournalTurned.f k l0 a1 a2 = some true := by
  obtain ⟨K, hK⟩ : ∃ K : Nat, K = 999 := ⟨_, rfl⟩
  refine ⟨K + 1, ?_⟩
  have hM := rowL_ok l0
  have hm := rowL_length l0
  unfold drayagelaw20_JournalTurned.f
  rw [row_f l0 (K + 1) (by omega)]
  simp only [Option.bind_some]
  generalize rowL l0 = M at *
  have hcs := cat_small M hM
  rw [if_pos trivial]
  by_cases hz : ((cat M).length : Int) = 0
  · rw [if_pos hz]
    simp only [drayagelaw20_JournalTurned.j0]
    rw [if_pos trivial, works_f]
    rfl
  · rw [if_neg hz]
    by_cases h2 : a2 = 0
    · subst h2
      simp only [drayagelaw20_JournalTurned.j0]
      rw [if_pos (by rfl), works_f]
      rfl
    · simp only [drayagelaw20_JournalTurned.j0]
      rw [if_neg (by simp [h2]), bring_f a1 _ (by omega) (by omega)]
      simp only [Option.bind_some]
      have h3 := Int.emod_nonneg a1 (show ((cat M).length : Int) ≠ 0 by omega)
      have h4 := Int.emod_lt_of_pos a1 (show 0 < ((cat M).length : Int) by omega)
      generalize a1 % ((cat M).length : Int) = n at *
      obtain ⟨n, rfl⟩ := Int.eq_ofNat_of_zero_le h3
      have hn : n < (cat M).length := by omega
      have hg : rd (cat M) (n : Int) = gB (cat M) n := by simp [rd, gB]
      rw [if_pos (by omega), if_pos (by omega), hg, Int.toNat_natCast]
      obtain ⟨hx, hne⟩ := xor_byte (gB_byte (cat_byte M) n) (show 0 < a2 by omega) h1
      exact turned_loop M hM (by omega) n _ hn hx hne M.length K 0 (by omega) (by omega) (by omega) (by simp [cat])
end Go.Proofs.Ytagkgddkpnbfoaa.Pure
