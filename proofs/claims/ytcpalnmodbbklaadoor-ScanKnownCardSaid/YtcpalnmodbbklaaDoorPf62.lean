-- PRINTED by print.py (a twelfth state) out of the translation. Not trusted: Lean checks it.
import Derived.Test.YtcpalnmodbbklaaDoorP0
namespace Go.Proofs.YtcpalnmodbbklaaDoor.P
open Go.RowKit Go.Proofs.YtcpalnmodbbklaaDoorW.PrintWords Go.Proofs.YtcpalnmodbbklaaDoorW.PrintLast Go.Proofs.YtcpalnmodbbklaaDoorW.PrintMore
attribute [local go_sem] max2_int min2_int max_two min_two max_three min_three max_four min_four   -- for this text's walks alone
set_option linter.unusedVariables false
set_option linter.unusedSimpArgs false

/-! ### drayageref04_escape: function 62 -/
def drayageref04_escape.f (a0 : Int) : Option (ByteArray × Bool) := if a0 = 34 then (some ((⟨#[34]⟩ : ByteArray), true)) else (if a0 = 92 then (some ((⟨#[92]⟩ : ByteArray), true)) else (if a0 = 110 then (some ((⟨#[10]⟩ : ByteArray), true)) else (some ((⟨#[]⟩ : ByteArray), false))))
set_option maxHeartbeats 8000000 in
set_option maxRecDepth 100000 in
theorem drayageref04_escape.calls (a0 : Int) (r1 : ByteArray) (r2 : Bool) (w : World) (h : drayageref04_escape.f a0 = some (r1, r2)) :
    Calls Tryd.prog 62 #[.int .i64 a0] w fun e w' => e = .returned (.tuple #[.string r1, .bool r2]) ∧ Drawn0 w w' := by
  have H : (if a0 = 34 then (some ((⟨#[34]⟩ : ByteArray), true)) else (if a0 = 92 then (some ((⟨#[92]⟩ : ByteArray), true)) else (if a0 = 110 then (some ((⟨#[10]⟩ : ByteArray), true)) else (some ((⟨#[]⟩ : ByteArray), false))))) = some (r1, r2) := h
  clear h
  by_cases c2 : a0 = 34
  · rw [if_pos c2] at H
    have c2b0 : (a0 == 34) = true := beq_iff_eq.mpr c2
    have c2b1 : (a0 != 34) = false := bne_eq_false_iff_eq.mpr c2
    clear c2
    simp only [Option.some.injEq, Prod.mk.injEq] at H
    obtain ⟨rfl, rfl⟩ := H
    go_enter Tryd.func62, Tryd.ntmps62
    go_wp2
    go_ret2
    exact ⟨by first | rfl | (simp; done) | (simp [*]; done), by repeat (first | exact Drawn0.refl _ | apply Drawn0.step)⟩
  · rw [if_neg c2] at H
    have c2b0 : (a0 == 34) = false := beq_eq_false_iff_ne.mpr c2
    have c2b1 : (a0 != 34) = true := bne_iff_ne.mpr c2
    by_cases c3 : a0 = 92
    · rw [if_pos c3] at H
      have c3b0 : (a0 == 92) = true := beq_iff_eq.mpr c3
      have c3b1 : (a0 != 92) = false := bne_eq_false_iff_eq.mpr c3
      clear c3
      simp only [Option.some.injEq, Prod.mk.injEq] at H
      obtain ⟨rfl, rfl⟩ := H
      go_enter Tryd.func62, Tryd.ntmps62
      go_wp2
      go_ret2
      exact ⟨by first | rfl | (simp; done) | (simp [*]; done), by repeat (first | exact Drawn0.refl _ | apply Drawn0.step)⟩
    · rw [if_neg c3] at H
      have c3b0 : (a0 == 92) = false := beq_eq_false_iff_ne.mpr c3
      have c3b1 : (a0 != 92) = true := bne_iff_ne.mpr c3
      by_cases c4 : a0 = 110
      · rw [if_pos c4] at H
        have c4b0 : (a0 == 110) = true := beq_iff_eq.mpr c4
        have c4b1 : (a0 != 110) = false := bne_eq_false_iff_eq.mpr c4
        clear c4
        simp only [Option.some.injEq, Prod.mk.injEq] at H
        obtain ⟨rfl, rfl⟩ := H
        go_enter Tryd.func62, Tryd.ntmps62
        go_wp2
        go_ret2
        exact ⟨by first | rfl | (simp; done) | (simp [*]; done), by repeat (first | exact Drawn0.refl _ | apply Drawn0.step)⟩
      · rw [if_neg c4] at H
        have c4b0 : (a0 == 110) = false := beq_eq_false_iff_ne.mpr c4
        have c4b1 : (a0 != 110) = true := bne_iff_ne.mpr c4
        simp only [Option.some.injEq, Prod.mk.injEq] at H
        obtain ⟨rfl, rfl⟩ := H
        go_enter Tryd.func62, Tryd.ntmps62
        go_wp2
        go_ret2
        exact ⟨by first | rfl | (simp; done) | (simp [*]; done), by repeat (first | exact Drawn0.refl _ | apply Drawn0.step)⟩

end Go.Proofs.YtcpalnmodbbklaaDoor.P
