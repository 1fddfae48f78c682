import Derived.Test.YtcpalnmodbbklaaDoorHscan
import Derived.Test.YtcpalnmodbbklaaDoorPf40
import Derived.Test.YtcpalnmodbbklaaDoorPf42
/- The reader of scan: what it does with a rune, in each of its modes. -/
namespace Go.Proofs.YtcpalnmodbbklaaDoor.P
set_option linter.unusedVariables false
set_option linter.unusedSimpArgs false
open Go.RowKit Go.Proofs.YtcpalnmodbbklaaDoorW.PrintWords Go.Proofs.YtcpalnmodbbklaaDoorW.PrintLast Go.Proofs.YtcpalnmodbbklaaDoorW.PrintMore

def smallB (c : Int) : Bool := decide (97 ≤ c) && decide (c ≤ 122)
def digitB (c : Int) : Bool := decide (48 ≤ c) && decide (c ≤ 57)
def greatB (c : Int) : Bool := decide (65 ≤ c) && decide (c ≤ 90)
def blankB (c : Int) : Bool := decide (c = 32) || decide (c = 9)
def signB (c : Int) : Bool := decide (c = 123) || decide (c = 125) || decide (c = 58) || decide (c = 59) || decide (c = 42)
def endsB (c : Int) : Bool := decide (c = 35) || decide (c = 10) || blankB c || signB c
def goB (k : Nat) (c : Int) : Bool := smallB c || digitB c || (if k = 1 then decide (c = 45) else greatB c || decide (c = 46) || decide (c = 37))
theorem small_f (c : Int) : scan_small.f c = some (smallB c) := by
  unfold scan_small.f smallB
  by_cases h : 97 ≤ c
  · rw [if_pos h, decide_eq_true h]; simp
  · rw [if_neg h, decide_eq_false h]; simp
theorem digit_f (c : Int) : scan_digit.f c = some (digitB c) := by
  unfold scan_digit.f digitB
  by_cases h : 48 ≤ c
  · rw [if_pos h, decide_eq_true h]; simp
  · rw [if_neg h, decide_eq_false h]; simp
theorem great_f (c : Int) : scan_great.f c = some (greatB c) := by
  unfold scan_great.f greatB
  by_cases h : 65 ≤ c
  · rw [if_pos h, decide_eq_true h]; simp
  · rw [if_neg h, decide_eq_false h]; simp
theorem name_f (c : Int) : scan_inName.f c = some (goB 1 c) := by
  unfold scan_inName.f goB
  rw [small_f, digit_f]
  cases smallB c <;> cases digitB c <;> simp
  rw [Bool.eq_iff_iff]; simp
theorem number_f (c : Int) : scan_inNumber.f c = some (goB 2 c) := by
  unfold scan_inNumber.f goB
  rw [small_f, great_f, digit_f]
  cases smallB c <;> cases greatB c <;> cases digitB c <;> simp
  by_cases h : c = 46
  · simp [h]
  · simp [h]
    rw [Bool.eq_iff_iff]; simp
theorem blank_calls (c : Int) (w : World) (h0 : 0 ≤ c) (h1 : c ≤ 1114111) : Calls Tryd.prog 35 #[.string ⟨#[32, 9]⟩, .int .i32 c] w fun e w' => e = .returned (.bool (blankB c)) ∧ Below w.heap.size w w' := by
  refine (contains_calls ⟨#[32, 9]⟩ c w (by decide) (by decide) h0 h1).mono ?_
  rintro e w' ⟨rfl, hb⟩
  refine ⟨congrArg (fun b => Ending.returned (Value.bool b)) ?_, hb⟩
  unfold hasR blankB
  rw [Bool.eq_iff_iff]
  simp
  omega
theorem sign_calls (c : Int) (w : World) (h0 : 0 ≤ c) (h1 : c ≤ 1114111) : Calls Tryd.prog 35 #[.string ⟨#[123, 125, 58, 59, 42]⟩, .int .i32 c] w fun e w' => e = .returned (.bool (signB c)) ∧ Below w.heap.size w w' := by
  refine (contains_calls ⟨#[123, 125, 58, 59, 42]⟩ c w (by decide) (by decide) h0 h1).mono ?_
  rintro e w' ⟨rfl, hb⟩
  refine ⟨congrArg (fun b => Ending.returned (Value.bool b)) ?_, hb⟩
  unfold hasR signB
  rw [Bool.eq_iff_iff]
  simp
  omega
theorem both_calls (c : Int) (w : World) (h0 : 0 ≤ c) (h1 : c ≤ 1114111) : Calls Tryd.prog 35 #[.string ⟨#[32, 9, 123, 125, 58, 59, 42]⟩, .int .i32 c] w fun e w' => e = .returned (.bool (blankB c || signB c)) ∧ Below w.heap.size w w' := by
  refine (contains_calls ⟨#[32, 9, 123, 125, 58, 59, 42]⟩ c w (by decide) (by decide) h0 h1).mono ?_
  rintro e w' ⟨rfl, hb⟩
  refine ⟨congrArg (fun b => Ending.returned (Value.bool b)) ?_, hb⟩
  unfold hasR signB blankB
  rw [Bool.eq_iff_iff]
  simp
  omega
theorem ends_calls (c : Int) (w : World) (h0 : 0 ≤ c) (h1 : c ≤ 1114111) : Calls Tryd.prog 58 #[.int .i32 c] w fun e w' => e = .returned (.bool (endsB c)) ∧ Below w.heap.size w w' := by
  by_cases h35 : c = 35
  · subst h35
    go_enter Tryd.func58, Tryd.ntmps58
    go_wp2_with fail
    go_ret
    exact ⟨rfl, Below.refl _ _⟩
  · have q1 : ((c : Int) == 35) = false := beq_eq_false_iff_ne.mpr h35
    by_cases h10 : c = 10
    · subst h10
      go_enter Tryd.func58, Tryd.ntmps58
      go_wp2_with fail
      go_ret
      exact ⟨rfl, Below.refl _ _⟩
    · have q2 : ((c : Int) == 10) = false := beq_eq_false_iff_ne.mpr h10
      have HE : Aside0 ((blankB c || signB c) = endsB c) := ⟨by unfold endsB; rw [decide_eq_false h35, decide_eq_false h10]; simp⟩
      clear h35 h10
      go_enter Tryd.func58, Tryd.ntmps58
      go_wp2_with fail
      refine (both_calls c _ h0 h1).mono ?_
      rintro e w' ⟨rfl, hb⟩
      go_wp2_with fail
      go_ret
      exact ⟨congrArg (fun b => Ending.returned (Value.bool b)) HE.out, hb⟩
/-- a rune more -/
theorem SB.lit {w0 W : World} {g it : Nat} {io : Obj} {cs : Array Value} {vw vt : Value} {wd : List SW} {tx : List Int} (h : SB w0 W g it io cs vw vt wd tx) (c : Int) : SB w0 (W.alloc (.cells #[.int .i32 c] 21)) g it io cs vw (.slice (some ⟨W.heap.size, 0, none⟩) 1 1) wd [c] := by
  have h1 := h.below (below_alloc (Below.refl W.heap.size W) (.cells #[.int .i32 c] 21))
  have ho := own_lit W w0.heap.size 21 .i32 [c] h.bl.size (by simp)
  have hf := h.freshT W.heap.size (Nat.le_refl _)
  refine ⟨h1.rb, h1.ib, h1.bl, ?_, ?_, h.hg, h.hi, h.ne⟩
  · refine Kd.R_alloc (Kd.R_mono (Kd.R_bound h.hw) (fun k hk => ⟨hk.1.1, hk.1.2.1, fun e => ?_⟩)) _
    have e2 : k = W.heap.size := by simpa [Value.ownBlock] using e
    have := hk.2.2.1
    omega
  · exact Kd.R_of_own ho (fun k hk => by
      have e : k = W.heap.size := by simpa [Value.ownBlock] using hk.symm
      rw [e]; exact hf)
end Go.Proofs.YtcpalnmodbbklaaDoor.P
