import Derived.Test.YtagkgddkpnbfoaaPf4
import Derived.Test.YtagkgddkpnbfoaaPf17
import Derived.Test.YtagkgddkpnbfoaaHsame
namespace Go.Proofs.Ytagkgddkpnbfoaa.Pure
set_option linter.unusedVariables false
set_option linter.unusedSimpArgs false
open Go.RowKit Go.Proofs.Ytagkgddkpnbfoaa.P Go.Proofs.YtagkgddkpnbfoaaW.PrintWords Go.Proofs.YtagkgddkpnbfoaaW.PrintLast

theorem recOf_small {M : List Int} (hb : ∀ x ∈ M, isByte x) : (recOf M).f3.length + 2 ≤ 300 ∧ (recOf M).f4.length + 2 ≤ 300 := by
 have h1 := gB_byte hb 1
 have h2 := gB_byte hb (2 + recNp M)
 unfold isByte at h1 h2
 unfold recOf recPl recSt
 dsimp only
 split
 ·unfold recPlN recStN
  simp only [List.length_map, List.length_range]
  unfold recNs
  constructor
  ·unfold recNp; omega
  ·omega
 ·simp
theorem readAll_small (b : List Int) (hb : ∀ x ∈ b, isByte x) : ∀ x ∈ (readAll b).1, x.f3.length + 2 ≤ 300 ∧ x.f4.length + 2 ≤ 300 := by
 induction hn : b.length using Nat.strongRecOn generalizing b with
 | _ n ih =>
  cases h : firstOk b with
  | false => rw [readAll_no h]; intro x hx; cases hx
  | true =>
   have hs := firstOk_size h
   have hd : ∀ x ∈ b.drop (fN b), isByte x := fun x hx => hb x (List.mem_of_mem_drop hx)
   have := ih (b.drop (fN b)).length (by rw [List.length_drop]; omega) (b.drop (fN b)) hd rfl
   rw [readAll_yes h]
   intro x hx
   rcases List.mem_cons.1 hx with rfl | hx
   ·exact recOf_small (fMid_byte hb)
   ·exact this x hx
theorem reads_loop (L : List S25) (hL : L.length ≤ 6000) (hK : ∀ x ∈ L, x.f3.length + 2 ≤ 300 ∧ x.f4.length + 2 ≤ 300) : ∀ (d k i : Nat) (xs : List Int), i + d = xs.length → xs.length ≤ 6000 → d + 7000 < k → k ≤ 140737488355328 → drayagelaw20_JournalReads.l0 k xs L L (i : Int) = some true := by
 intro d
 induction d with
 | zero =>
  intro k i xs h hx hk hk2
  obtain ⟨k, rfl⟩ : ∃ m, k = m + 1 := ⟨k - 1, by omega⟩
  simp only [drayagelaw20_JournalReads.l0]
  rw [if_neg (by omega), sameAll_f L 300 k hK (by omega) (by omega)]
  simp only [Option.bind_some]
  rw [if_pos trivial, works_f]
  rfl
 | succ d ih =>
  intro k i xs h hx hk hk2
  obtain ⟨k, rfl⟩ : ∃ m, k = m + 1 := ⟨k - 1, by omega⟩
  simp only [drayagelaw20_JournalReads.l0]
  rw [if_pos (by omega), if_pos (by omega), wrap_succ (n := xs.length) (by omega) (by omega)]
  exact ih k (i + 1) _ (by rw [List.length_set]; omega) (by rw [List.length_set]; omega) (by omega) (by omega)
theorem wfByte {x : Int} (h : (Lit.int .u8 x).wf = true) : isByte x := by
 have e1 : IntKind.u8.min = 0 := by decide
 have e2 : IntKind.u8.max = 255 := by decide
 simp only [Lit.wf, Bool.and_eq_true, decide_eq_true_eq, e1, e2] at h
 exact h
theorem JournalReads : drayagelaw20_JournalReads.Pure := by
 intro l0 h0 h1 hw
 have hb : ∀ x ∈ l0, isByte x := fun x hx => wfByte (hw x hx)
 refine ⟨20002, ?_⟩
 unfold drayagelaw20_JournalReads.f
 have hm : 0 ≤ mn (l0.length : Int) 6000 ∧ mn (l0.length : Int) 6000 ≤ 6000 ∧ mn (l0.length : Int) 6000 ≤ (l0.length : Int) := by unfold mn; omega
 rw [if_pos hm.1, if_pos hm.2.2]
 generalize (mn (l0.length : Int) 6000) = m at hm
 have hbt := take_byte hb m.toNat
 have hlt : (l0.take m.toNat).length ≤ 6000 := by rw [List.length_take]; omega
 generalize (l0.take m.toNat) = x0 at hbt hlt
 have hbo : bytesOk x0 = true := by
  simp only [bytesOk, Bool.and_eq_true, List.all_eq_true, decide_eq_true_eq]
  exact ⟨fun x hx => hbt x hx, by omega⟩
 have hc := readAll_count x0
 have hK := readAll_small x0 hbt
 have hL : (readAll x0).1.length ≤ 6000 := by omega
 rw [copyBytes_f (by omega)]
 simp only [Option.bind_some]
 unfold drayageref20_Read.f journal_Read.f
 rw [hbo, if_pos rfl]
 simp only [Option.bind_some]
 rw [sameAll_f _ 300 20002 hK (by omega) (by omega)]
 simp only [Option.bind_some]
 rw [if_pos trivial, if_pos trivial, eqBytes_self]
 simp only [Option.bind_some, drayagelaw20_JournalReads.j0]
 rw [if_neg (by simp)]
 exact reads_loop _ hL hK x0.length _ 0 x0 (by omega) hlt (by omega) (by omega)
end Go.Proofs.Ytagkgddkpnbfoaa.Pure
