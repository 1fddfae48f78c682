import Derived.Test.YtagkgddkpnbfoaaPf7
import Derived.Test.YtagkgddkpnbfoaaHworks
/- The plain law: what Read tells has just these bytes. -/
namespace Go.Proofs.Ytagkgddkpnbfoaa.Pure
set_option linter.unusedVariables false
set_option linter.unusedSimpArgs false
open Go.RowKit Go.Proofs.Ytagkgddkpnbfoaa.P Go.Proofs.YtagkgddkpnbfoaaW.PrintWords Go.Proofs.YtagkgddkpnbfoaaW.PrintLast

theorem again_loop (x0 : List Int) (hb : ∀ x ∈ x0, isByte x) (hl : x0.length ≤ 6000) (L : List S25) (hL : L = (readAll x0).1) (x4 : Int) (h4 : x4 = ((readAll x0).2 : Int)) :
    ∀ (d k n : Nat) (out : List S25), L.length = out.length + d → d < k → n ≤ x0.length → out ++ (readAll (x0.drop n)).1 = L → n + (readAll (x0.drop n)).2 = (readAll x0).2 →
      drayagelaw20_JournalAgain.l0 k x0 L x4 (x0.take n) (out.length : Int) = some true := by
  intro d
  have hc := readAll_count x0
  induction d with
  | zero =>
    intro k n out h1 h2 h3 h5 h6
    obtain ⟨k, rfl⟩ : ∃ j, k = j + 1 := ⟨k - 1, by omega⟩
    unfold drayagelaw20_JournalAgain.l0
    rw [if_neg (by omega)]
    have hz : (readAll (x0.drop n)).1 = [] := by
      have := congrArg List.length h5
      rw [List.length_append] at this
      exact List.eq_nil_of_length_eq_zero (by omega)
    have hok : firstOk (x0.drop n) = false := by
      cases h : firstOk (x0.drop n) with
      | false => rfl
      | true => rw [readAll_yes h] at hz; cases hz
    have hn : (readAll (x0.drop n)).2 = 0 := by rw [readAll_no hok]
    have e : x4 = (n : Int) := by omega
    rw [e, if_pos (by omega), if_pos (by omega), if_pos (by omega), Int.toNat_natCast, eqBytes_self]
    simp only [Option.bind_some]
    rw [if_pos trivial, works_f]
    rfl
  | succ d ih =>
    intro k n out h1 h2 h3 h5 h6
    obtain ⟨k, rfl⟩ : ∃ j, k = j + 1 := ⟨k - 1, by omega⟩
    unfold drayagelaw20_JournalAgain.l0
    rw [if_pos (by omega), if_pos (by omega)]
    have hok : firstOk (x0.drop n) = true := by
      cases h : firstOk (x0.drop n) with
      | true => rfl
      | false =>
        rw [readAll_no h] at h5
        have := congrArg List.length h5
        simp only [List.append_nil] at this
        omega
    have hs := firstOk_size hok
    rw [List.length_drop] at hs
    rw [readAll_yes hok] at h5 h6
    dsimp only at h5 h6
    rw [List.drop_drop] at h5 h6
    have hr : rd_T25 L (out.length : Int) = recOf (fMid (x0.drop n)) := by
      rw [← h5]
      unfold rd_T25
      rw [List.getD_eq_getElem?_getD, Int.toNat_natCast, List.getElem?_append_right (Nat.le_refl _), Nat.sub_self]
      rfl
    rw [hr]
    obtain ⟨hr1, hr2⟩ := bytes_of (fun x hx => hb x (List.mem_of_mem_drop hx)) hok
    unfold journal_Bytes.f
    rw [hr1, if_pos rfl, if_pos rfl, hr2]
    simp only [Option.bind_some]
    rw [if_pos trivial, if_pos (by simp only [List.length_take, List.length_drop]; omega)]
    have e1 : x0.take n ++ (x0.drop n).take (fN (x0.drop n)) = x0.take (n + fN (x0.drop n)) := by rw [List.take_add]
    have e2 : wrap64 ((out.length : Int) + 1) = ((out ++ [recOf (fMid (x0.drop n))]).length : Int) := by
      have hll : L.length = (readAll x0).1.length := by rw [hL]
      rw [wrap_id (by omega) (by omega)]
      simp
    rw [e1, e2]
    exact ih k (n + fN (x0.drop n)) (out ++ [recOf (fMid (x0.drop n))]) (by simp; omega) (by omega) (by omega) (by rw [← h5]; simp) (by omega)
theorem wfByte {x : Int} (h : (Lit.int .u8 x).wf = true) : isByte x := by
  have e1 : IntKind.u8.min = 0 := by decide
  have e2 : IntKind.u8.max = 255 := by decide
  simp only [Lit.wf, Bool.and_eq_true, decide_eq_true_eq, e1, e2] at h
  exact h
theorem JournalAgain : drayagelaw20_JournalAgain.Pure := by
  intro l0 h0 h1 hw
  have hb : ∀ x ∈ l0, isByte x := fun x hx => wfByte (hw x hx)
  refine ⟨l0.length + 1, ?_⟩
  unfold drayagelaw20_JournalAgain.f
  have hm : 0 ≤ mn (l0.length : Int) 6000 ∧ mn (l0.length : Int) 6000 ≤ 6000 ∧ mn (l0.length : Int) 6000 ≤ (l0.length : Int) := by unfold mn; omega
  rw [if_pos hm.1, if_pos hm.2.2]
  generalize (mn (l0.length : Int) 6000) = m at hm
  have hbt := take_byte hb m.toNat
  have hlt : (l0.take m.toNat).length ≤ 6000 := by rw [List.length_take]; omega
  have hlt2 : (l0.take m.toNat).length ≤ l0.length := by rw [List.length_take]; omega
  generalize (l0.take m.toNat) = x0 at hbt hlt hlt2
  have hbo : bytesOk x0 = true := by
    simp only [bytesOk, Bool.and_eq_true, List.all_eq_true, decide_eq_true_eq]
    exact ⟨fun x hx => hbt x hx, by omega⟩
  unfold journal_Read.f
  rw [hbo, if_pos rfl]
  simp only [Option.bind_some]
  have hc := readAll_count x0
  exact again_loop x0 hbt hlt _ rfl _ rfl (readAll x0).1.length (l0.length + 1) 0 [] (by simp) (by omega) (by omega) (by simp) (by simp)
end Go.Proofs.Ytagkgddkpnbfoaa.Pure
