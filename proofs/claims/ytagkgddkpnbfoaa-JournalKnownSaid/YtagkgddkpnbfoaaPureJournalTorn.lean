import Derived.Test.YtagkgddkpnbfoaaHtorn
import Derived.Test.YtagkgddkpnbfoaaPf5
namespace Go.Proofs.Ytagkgddkpnbfoaa.Pure
set_option linter.unusedVariables false
set_option linter.unusedSimpArgs false
open Go.RowKit Go.Proofs.Ytagkgddkpnbfoaa.P Go.Proofs.YtagkgddkpnbfoaaW.PrintWords Go.Proofs.YtagkgddkpnbfoaaW.PrintLast

theorem torn_loop (M : List S25) (hM : ∀ r ∈ M, okX r = true) (hm : M.length ≤ 12) (n : Nat) (hn : n ≤ (cat M).length) : ∀ (d k q : Nat), q + d = M.length → d + 600 < k → k ≤ 100000 → (cat (M.take q)).length ≤ n →
  drayagelaw20_JournalTorn.l0 k M (cat M) (ends M) (n : Int) (q : Int) = some true := by
 have hcs := cat_small M hM
 have hb : bytesOk ((cat M).take n) = true := bytesOk_of (fun x hx => cat_byte M x (List.mem_of_mem_take hx)) (by rw [List.length_take]; omega)
 intro d
 induction d with
 | zero =>
  intro k q h hk hk2 hq
  obtain ⟨k, rfl⟩ : ∃ m, k = m + 1 := ⟨k - 1, by omega⟩
  simp only [drayagelaw20_JournalTorn.l0]
  rw [if_neg (by rw [ends_length]; omega), if_pos (by omega), if_pos (by omega), Int.toNat_natCast, tells_f M hM (by omega) q (by omega) _ hb (read_torn M hM n q (by omega) hq hn (fun h => by omega)) k (by omega) (by omega)]
  rfl
 | succ d ih =>
  intro k q h hk hk2 hq
  obtain ⟨k, rfl⟩ : ∃ m, k = m + 1 := ⟨k - 1, by omega⟩
  simp only [drayagelaw20_JournalTorn.l0]
  rw [if_pos (by rw [ends_length]; omega), if_pos (by omega), rd_ends M q (by omega)]
  by_cases hle : (cat (M.take (q + 1))).length ≤ n
  ·rw [if_pos (by omega), wrap_succ (n := 12) (by omega) (by omega)]
   exact ih k (q + 1) (by omega) (by omega) (by omega) hle
  ·rw [if_neg (by omega), if_pos (by omega), if_pos (by omega), Int.toNat_natCast, tells_f M hM (by omega) q (by omega) _ hb (read_torn M hM n q (by omega) hq hn (fun h => by omega)) k (by omega) (by omega)]
   rfl
theorem bind_true {o : Option Bool} {J : Bool → Option Bool} (h : o = some true) (hj : J true = some true) : o.bind J = some true := by
 subst h
 exact hj
theorem torn_j0 (M : List S25) (hM : ∀ r ∈ M, okX r = true) (hm : M.length ≤ 12) (a1 : Int) (k : Nat) (hk : 700 < k) (hk2 : k ≤ 100000) : drayagelaw20_JournalTorn.j0 (k + 1) a1 M (cat M) (ends M) false = some true := by
 have hcs := cat_small M hM
 have e : wrap64 (((cat M).length : Int) + 1) = ((cat M).length : Int) + 1 := wrap_id (by omega) (by omega)
 have eb : drayageref00_Bring.f a1 (((cat M).length : Int) + 1) = some (a1 % (((cat M).length : Int) + 1)) := bring_f a1 _ (by omega) (by omega)
 have h1 := Int.emod_nonneg a1 (show ((cat M).length : Int) + 1 ≠ 0 by omega)
 have h2 := Int.emod_lt_of_pos a1 (show 0 < ((cat M).length : Int) + 1 by omega)
 generalize a1 % (((cat M).length : Int) + 1) = n at *
 obtain ⟨n, rfl⟩ := Int.eq_ofNat_of_zero_le h1
 simp only [drayagelaw20_JournalTorn.j0]
 rw [e, eb]
 exact torn_loop M hM (by omega) n (by omega) M.length k 0 (by omega) (by omega) (by omega) (by simp [cat])
theorem JournalTorn (l0 : List S25) (a1 : Int) : ∃ k, drayagelaw20_JournalTorn.f k l0 a1 = some true := by
 obtain ⟨K, hK⟩ : ∃ K : Nat, K = 999 := ⟨_, rfl⟩
 refine ⟨K + 1, ?_⟩
 have hM := rowL_ok l0
 have hm := rowL_length l0
 unfold drayagelaw20_JournalTorn.f
 rw [works_f]
 simp only [Option.bind_some]
 rw [if_pos trivial, row_f l0 (K + 1) (by omega)]
 simp only [Option.bind_some]
 generalize rowL l0 = M at *
 have hcs := cat_small M hM
 have hall : readAll (cat M) = (M.take M.length, (cat (M.take M.length)).length) := by
  have := readAll_cat M [] hM firstOk_nil
  rw [List.take_length]
  rwa [List.append_nil] at this
 have ht := tells_f M hM (by omega) M.length (Nat.le_refl _) _ (bytesOk_of (cat_byte M) (by omega)) hall (K + 1) (by omega) (by omega)
 have hj := torn_j0 M hM (by omega) a1 K (by omega) (by omega)
 clear hall hcs hm hM hK
 rw [if_pos trivial]
 exact bind_true ht hj
end Go.Proofs.Ytagkgddkpnbfoaa.Pure
