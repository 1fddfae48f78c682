import Derived.Test.YtfnfjkddlnnolaaHrun
import Derived.Test.YtfnfjkddlnnolaaShelf
namespace Go.Proofs.Ytfnfjkddlnnolaa.P
set_option linter.unusedVariables false
set_option linter.unusedSimpArgs false
open Go.RowKit Go.Proofs.YtfnfjkddlnnolaaW.PrintWords Go.Proofs.YtfnfjkddlnnolaaW.PrintLast Go.Proofs.YtfnfjkddlnnolaaW.PrintMore

def outN (r : Nat) : Bool := !insB (r : Int)
theorem out_pred (w : World) : Go.Proofs.PredAt Try.prog 69 #[] Go.Proofs.encR outN w := by
 intro W x _
 unfold Go.Proofs.FnGives
 have hf : label_inside.f (x : Int) = some (insB (x : Int)) := inside_f _
 have HF := Aside0.mk hf
 clear hf
 show Calls Try.prog 69 #[.int .i32 (x : Int)] W _
 unfold outN
 generalize insB (x : Int) = bb at HF ⊢
 go_enter Try.func69, Try.ntmps69
 go_wp2_with fail
 refine (label_inside.calls _ _ _ HF.out).mono ?_
 rintro _ W2 ⟨rfl, ⟨q, rfl⟩⟩
 go_wp2_with fail
 go_ret
 exact ⟨rfl, q, rfl⟩
theorem idx_calls (s : ByteArray) (w : World) : Calls Try.prog 70 #[.string s, .func (.func 69) #[] #[]] w fun e w' => e = .returned (.int .i64 (Lib.idxFunc outN true s)) ∧ Below w.heap.size w w' :=
 Try.strings_IndexFunc 69 #[] (fun args w => enters_ Try.func69 (by kernel_rfl) rfl args w) outN s w (out_pred w)
def valB (s : ByteArray) : Bool := (!s.toList.isEmpty && decide ((s.size : Int) ≤ 15)) && decide (Lib.idxFunc outN true s < 0)
def label_Value.f (a0 : ByteArray) : Option Bool := some (valB a0)
set_option maxRecDepth 100000 in
theorem label_Value.calls (a0 : ByteArray) (r : Bool) (w : World) (h : label_Value.f a0 = some r) :
  Calls Try.prog 54 #[.string a0] w fun e w' => e = .returned (.bool r) ∧ Below w.heap.size w w' := by
 obtain rfl := Option.some.inj h
 have hv : Aside0 (valB a0 = ((!a0.toList.isEmpty && decide ((a0.size : Int) ≤ 15)) && decide (Lib.idxFunc outN true a0 < 0))) := ⟨rfl⟩
 generalize valB a0 = v at hv ⊢
 clear h
 by_cases h0 : a0.toList = []
 ·have b0 : a0.toList.isEmpty = true := by rw [h0]; rfl
  have hv2 : v = false := by rw [hv.out, b0]; rfl
  subst hv2
  clear hv
  go_enter Try.func54, Try.ntmps54
  go_wp2_with fail
  go_ret
  exact ⟨rfl, Below.refl _ _⟩
 ·have b0 : a0.toList.isEmpty = false := by rw [Bool.eq_false_iff]; intro h; exact h0 (List.isEmpty_iff.1 h)
  by_cases h1 : (a0.size : Int) ≤ 15
  ·have b1 : decide ((a0.size : Int) ≤ 15) = true := decide_eq_true h1
   have hv2 : Aside0 (v = decide (Lib.idxFunc outN true a0 < 0)) := ⟨by rw [hv.out, b0, b1]; rfl⟩
   clear hv
   go_enter Try.func54, Try.ntmps54
   go_wp2_with fail
   refine (idx_calls a0 _).mono ?_
   rintro _ W2 ⟨rfl, hb⟩
   have HB := Aside0.mk hb
   clear hb
   go_wp2_with fail
   go_ret
   exact ⟨by rw [hv2.out]; first | rfl | (simp; done), HB.out⟩
  ·have b1 : decide ((a0.size : Int) ≤ 15) = false := decide_eq_false h1
   have hv2 : v = false := by rw [hv.out, b1, Bool.and_false]; rfl
   subst hv2
   clear hv
   go_enter Try.func54, Try.ntmps54
   go_wp2_with fail
   go_ret
   exact ⟨rfl, Below.refl _ _⟩
end Go.Proofs.Ytfnfjkddlnnolaa.P
