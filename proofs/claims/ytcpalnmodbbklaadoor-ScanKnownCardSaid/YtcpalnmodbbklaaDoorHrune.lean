import Derived.Test.YtcpalnmodbbklaaDoorProg
import Derived.Test.YtcpalnmodbbklaaDoorWRest
import Derived.WalkKit
import Derived.WalkMore
import Derived.Laws.Runes
import Derived.Laws.RangeString
import Derived.Lib.OthersKept
/- The contract of strings.ContainsRune at a text of ASCII bytes: is the rune one of them? -/
namespace Go.Proofs.YtcpalnmodbbklaaDoor.P
set_option linter.unusedVariables false
set_option linter.unusedSimpArgs false
open Go.RowKit Go.Proofs.YtcpalnmodbbklaaDoorW.PrintWords Go.Proofs.YtcpalnmodbbklaaDoorW.PrintLast Go.Proofs.YtcpalnmodbbklaaDoorW.PrintMore

def hasR (s : ByteArray) (r : Int) : Bool := s.data.toList.any fun b => decide ((b.toNat : Int) = r)
theorem hasR_any (s : ByteArray) (r : Int) (h0 : 0 ≤ r) (h1 : r < 128) : decide (0 ≤ firstIdx s (UInt8.ofNat r.toNat)) = hasR s r := by
  rw [firstIdx_nonneg]
  unfold hasR
  congr 1
  funext b
  rw [Bool.eq_iff_iff]
  simp only [beq_iff_eq, decide_eq_true_eq]
  constructor
  · rintro rfl
    simp
    omega
  · intro h
    apply UInt8.toNat_inj.1
    simp
    omega
theorem hasR_no (s : ByteArray) (hs : ∀ b ∈ s.data.toList, b.toNat < 128) (r : Int) (h : 128 ≤ r) : hasR s r = false := by
  unfold hasR
  rw [List.any_eq_false]
  intro b hb
  have := hs b hb
  simp
  omega
theorem run_idx (s : ByteArray) (c : Int) (w : World) : (callFunc 74 #[.string s, .int .u8 c]).run Tryd.prog w = .ok (.value (.int .i64 (firstIdx s c.toNat.toUInt8))) w := by
  rw [run_callFunc_extern (f := 74) (fn := Tryd.f74) Tryd.func74 (by kernel_rfl) (by kernel_rfl) (by kernel_rfl) (e := Extern.BytealgIndexByte.indexByte) (by kernel_rfl), run_indexByte_string]
  rfl
theorem idxByte (s : ByteArray) (c : Int) (w : World) : Calls Tryd.prog 68 #[.string s, .int .u8 c] w fun e w' => e = .returned (.int .i64 (firstIdx s c.toNat.toUInt8)) ∧ w' = w := by
  have hx := run_idx
  go_enter Tryd.func68, Tryd.ntmps68
  go_wp2
  go_ret
  exact ⟨rfl, rfl⟩
theorem index_last (s : ByteArray) (n : Nat) (h1 : 1 ≤ n) (h : n - 1 < s.size) : ∀ W : World, (Instr.index 9 (.string s) (.int .i64 ((n : Int) - 1))).run Tryd.prog W = .ok (.int .u8 ((s[n - 1]'h).toNat : Nat)) W := by
  intro W
  obtain ⟨m, rfl⟩ : ∃ m, n = m + 1 := ⟨n - 1, by omega⟩
  have e : ((m + 1 : Nat) : Int) - 1 = (m : Int) := by omega
  rw [e]
  have h0 : (m : Int) < (s.size : Int) := by omega
  go_simp
theorem idxNo (t : ByteArray) (c : Int) (w : World) (h : firstIdx t c.toNat.toUInt8 = -1) : Calls Tryd.prog 68 #[.string t, .int .u8 c] w fun e w' => e = .returned (.int .i64 (-1)) ∧ w' = w := by
  refine (idxByte t c w).mono ?_
  rintro e w' ⟨rfl, rfl⟩
  rw [h]
  exact ⟨rfl, rfl⟩
set_option maxHeartbeats 1000000 in
set_option maxRecDepth 100000 in
theorem indexRune_low (s : ByteArray) (r : Int) (w : World) (h0 : 0 ≤ r) (h1 : r < 128) :
    Calls Tryd.prog 57 #[.string s, .int .i32 r] w fun e w' => e = .returned (.int .i64 (firstIdx s (UInt8.ofNat r.toNat))) ∧ w = w' := by
  have hx := run_idx
  go_enter Tryd.func57, Tryd.ntmps57
  go_wp2
  go_ret
  exact ⟨rfl, rfl⟩
set_option maxHeartbeats 1000000 in
set_option maxRecDepth 100000 in
theorem indexRune_bad (s : ByteArray) (r : Int) (w : World) (hs : ∀ b ∈ s.data.toList, b.toNat < 128) (hz : s.size ≤ 1000) (h0 : r = 65533) :
    Calls Tryd.prog 57 #[.string s, .int .i32 r] w fun e w' => e = .returned (.int .i64 (-1)) ∧ Below w.heap.size w w' := by
  subst h0
  have HS := Aside0.mk hs
  clear hs
  go_enter Tryd.func57, Tryd.ntmps57
  go_wp2
  go_loopw [5] (fun _ wr => ∃ pos : Nat, pos ≤ s.size ∧ wr = w.iter s pos) (fun _ wr => s.size - wr.iterPos w.heap.size)
  case atStart => exact ⟨0, Nat.zero_le _, rfl⟩
  case round =>
    obtain ⟨pos, hp, rfl⟩ := hrel
    by_cases hlt : pos < s.size
    · have ha : (s[pos]'hlt).toNat < 128 := HS.out _ (Array.getElem_mem_toList (xs := s.data) hlt)
      have hnx := run_next_ascii (P := Tryd.prog) w s pos 0 hlt ha
      have hq : ((((s[pos]'hlt).toNat : Nat) : Int) == 65533) = false := beq_eq_false_iff_ne.mpr (by omega)
      go_wp2
      go_roundw
      case rel => exact ⟨pos + 1, by omega, rfl⟩
      case measure => simp; omega
    · have hnx := run_next_end (P := Tryd.prog) w s pos 0 hlt
      go_wp2
      go_ret
      exact ⟨rfl, ((Below.refl _ _).alloc (Nat.le_refl _) _)⟩
set_option maxHeartbeats 1000000 in
set_option maxRecDepth 100000 in
theorem indexRune_high (s : ByteArray) (r : Int) (w : World) (hs : ∀ b ∈ s.data.toList, b.toNat < 128) (hz : s.size ≤ 1000) (h0 : 128 ≤ r) (h1 : r ≤ 1114111) (hne : r ≠ 65533) :
    Calls Tryd.prog 57 #[.string s, .int .i32 r] w fun e w' => e = .returned (.int .i64 (-1)) ∧ Below w.heap.size w w' := by
  have HS := Aside0.mk hs
  clear hs
  have hx := run_idx
  have hq : ((r : Int) == 65533) = false := beq_eq_false_iff_ne.mpr hne
  by_cases hsur : 55296 ≤ r ∧ r ≤ 57343
  · obtain ⟨q1, q2⟩ := hsur
    go_enter Tryd.func57, Tryd.ntmps57
    go_wp2
    go_ret
    exact ⟨rfl, Below.refl _ _⟩
  · have hv : Utf8.valid r = true := by rw [validRune_eq]; unfold validRune; exact decide_eq_true (by omega)
    obtain ⟨e1, e2, e3⟩ := encode_facts r hv h0
    have hcut : r < 55296 ∨ 57343 < r := by omega
    clear hsur hv
    by_cases hlt : (Utf8.encode r).size - 1 < s.size
    · have hle : (Utf8.encode r).size - 1 < (Utf8.encode r).size := by omega
      have hb := e3 hle
      have ha : (s[(Utf8.encode r).size - 1]'hlt).toNat < 128 := HS.out _ (Array.getElem_mem_toList (xs := s.data) hlt)
      have g1 := index_last s (Utf8.encode r).size (by omega) hlt
      have g2 := index_last (Utf8.encode r) (Utf8.encode r).size (by omega) hle
      have HF : Aside0 (∀ a e, firstIdx (s.extract a e) ((((((Utf8.encode r)[(Utf8.encode r).size - 1]'hle).toNat : Nat) : Int)).toNat.toUInt8) = -1) := ⟨fun a e => firstIdx_ascii s a e _ HS.out (by simp; omega)⟩
      have hne2 : ((((s[(Utf8.encode r).size - 1]'hlt).toNat : Nat) : Int) != ((((Utf8.encode r)[(Utf8.encode r).size - 1]'hle).toNat : Nat) : Int)) = true := by rw [bne_iff_ne]; omega
      generalize (((s[(Utf8.encode r).size - 1]'hlt).toNat : Nat) : Int) = x at g1 hne2
      generalize ((((Utf8.encode r)[(Utf8.encode r).size - 1]'hle).toNat : Nat) : Int) = y at g2 hne2 HF
      have b0 : 0 ≤ ((Utf8.encode r).size : Int) - 1 := by omega
      have b1 : ((Utf8.encode r).size : Int) - 1 < (s.size : Int) := by omega
      have HW : Aside0 (IntKind.i64.wrap ((Utf8.encode r).size : Int) = ((Utf8.encode r).size : Int)) := ⟨IntWalk.i64_in _ (by omega)⟩
      have HB3 : Aside0 (0 ≤ ((Utf8.encode r).size : Int)) := ⟨by omega⟩
      have HB4 : Aside0 (((Utf8.encode r).size : Int) ≤ (s.size : Int)) := ⟨by omega⟩
      have HNE := Aside0.mk hne2
      have HX := Aside0.mk hx
      have G1 := Aside0.mk g1
      have G2 := Aside0.mk g2
      clear ha hb e3 HS hne2 hx g1 g2
      rcases hcut with hcut | hcut
      all_goals
        go_enter Tryd.func57, Tryd.ntmps57
        go_wp2
        go_step3
        go_wp2
        refine wp_loop_rounds 1 ?_
        rw [rounds_succ]
        go_wp2
        go_step3
        have hne2 := HNE.out
        have g1 := G1.out
        have g2 := G2.out
        go_wp2
        go_quiet (fail)
        clear hne2 g1
        go_wp2
        have hw := HW.out
        have b3 := HB3.out
        have b4 := HB4.out
        go_quiet ((go_at_call 68; exact (idxNo _ _ _ (HF.out _ _)).mono fun _ _ ⟨he, hm⟩ => ⟨he, _, hm⟩))
        clear hw g2
        go_wp2
        rw [Exit.noGoto_ret]
        go_wp2
        rw [Exit.noGoto_ret]
        go_ret
        exact ⟨rfl, pw_below_drewN (Below.refl _ _) _⟩
    · rcases hcut with hcut | hcut
      all_goals
        go_enter Tryd.func57, Tryd.ntmps57
        go_wp2
        go_step3
        go_wp2
        refine wp_loop_rounds 1 ?_
        rw [rounds_succ]
        go_wp2
        rw [Exit.noGoto_ret]
        go_ret
        exact ⟨rfl, Below.refl _ _⟩

theorem contains_calls (s : ByteArray) (r : Int) (w : World) (hs : ∀ b ∈ s.data.toList, b.toNat < 128) (hz : s.size ≤ 1000) (h0 : 0 ≤ r) (h1 : r ≤ 1114111) :
    Calls Tryd.prog 35 #[.string s, .int .i32 r] w fun e w' => e = .returned (.bool (hasR s r)) ∧ Below w.heap.size w w' := by
  by_cases hlo : r < 128
  · have HR := Aside0.mk (hasR_any s r h0 hlo)
    go_enter Tryd.func35, Tryd.ntmps35
    go_wp2_with (go_at_call 57; refine (indexRune_low s r _ h0 hlo).mono ?_; rintro e w' ⟨rfl, rfl⟩)
    go_ret
    exact ⟨congrArg (fun b => Ending.returned (Value.bool b)) HR.out, Below.refl _ _⟩
  · have HR := Aside0.mk (hasR_no s hs r (by omega))
    have HS := Aside0.mk hs
    have HC : Aside0 (Calls Tryd.prog 57 #[.string s, .int .i32 r] w fun e w' => e = .returned (.int .i64 (-1)) ∧ Below w.heap.size w w') := ⟨by
      by_cases hne : r = 65533
      · exact indexRune_bad s r w hs hz hne
      · exact indexRune_high s r w hs hz (by omega) h1 hne⟩
    clear hs
    go_enter Tryd.func35, Tryd.ntmps35
    go_wp2_with (go_at_call 57; refine (HC.out).mono ?_; rintro e w' ⟨rfl, hb⟩)
    go_ret
    exact ⟨congrArg (fun b => Ending.returned (Value.bool b)) HR.out.symm, hb⟩
end Go.Proofs.YtcpalnmodbbklaaDoor.P
