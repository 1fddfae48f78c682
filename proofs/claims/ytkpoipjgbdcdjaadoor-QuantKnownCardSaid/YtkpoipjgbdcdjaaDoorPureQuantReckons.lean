import Derived.Test.YtkpoipjgbdcdjaaDoorPf7
import Derived.Test.YtkpoipjgbdcdjaaDoorHqr
import Derived.Test.YtkpoipjgbdcdjaaDoorHworks
namespace Go.Proofs.YtkpoipjgbdcdjaaDoor.Pure
open Go.RowKit Go.Proofs.YtkpoipjgbdcdjaaDoor.P Go.Proofs.YtkpoipjgbdcdjaaDoorW.PrintWords Go.Proofs.YtkpoipjgbdcdjaaDoorW.PrintMore
theorem reckons_at (l0 : List Int) (a1 a2 : Int) (hw : ∀ x ∈ l0, (Lit.int .i64 x).wf = true) : drayagelaw01_QuantReckons.f 100 l0 a1 a2 = some true := by
 unfold drayagelaw01_QuantReckons.f
 have m0 : 0 ≤ mn (l0.length : Int) 20 := by unfold mn; split <;> omega
 have m1 : mn (l0.length : Int) 20 ≤ (l0.length : Int) := by unfold mn; split <;> omega
 have m2 : mn (l0.length : Int) 20 ≤ 20 := by unfold mn; split <;> omega
 rw [if_pos m0, if_pos m1]
 have hl : (l0.take (mn (l0.length : Int) 20).toNat).length ≤ 30 := by rw [List.length_take]; omega
 have hx : ∀ x ∈ l0.take (mn (l0.length : Int) 20).toNat, x ≤ 9223372036854775807 := by
  intro x h
  have ha := hw x (List.mem_of_mem_take h)
  unfold Lit.wf at ha
  have hmax : IntKind.i64.max = 9223372036854775807 := rfl
  simp only [Bool.and_eq_true, decide_eq_true_eq] at ha
  omega
 generalize l0.take (mn (l0.length : Int) 20).toNat = l at hl hx
 rw [Add_f l hl 100 (by decide), refAdd_f l hl hx 100 (by decide), Option.bind_some, Option.bind_some, if_pos rfl]
 have e : ((sumS l).2 != (sumS l).2) = false := by simp
 rw [e, drayagelaw01_QuantReckons.j0, if_neg (by decide), Sub_f, refSub_f a1 a2 98, Mul_f, refMul_f a1 a2 98, Share_f a1 a2 98, refShare_f a1 a2 97]
 simp only [Option.bind_some, if_true]
 rw [works_at 99 (by decide)]
 rfl
end Go.Proofs.YtkpoipjgbdcdjaaDoor.Pure
