import Derived.Test.YtcpalnmodbbklaaDoorHscan5
import Derived.Maps.OwnSet
import Derived.Carry
/- The reader of scan: behind a backslash. -/
namespace Go.Proofs.YtcpalnmodbbklaaDoor.P
set_option linter.unusedVariables false
set_option linter.unusedSimpArgs false
open Go.RowKit Go.Proofs.YtcpalnmodbbklaaDoorW.PrintWords Go.Proofs.YtcpalnmodbbklaaDoorW.PrintLast Go.Proofs.YtcpalnmodbbklaaDoorW.PrintMore
open Go.Maps (Keyed int_keyed keyOf_int_mk)

theorem lawK : Keyed Tryd.prog 21 := int_keyed Tryd.underlying21
def escD : DataW Unit := .map [(.int .i32 34, .lit (.int .i32 34)), (.int .i32 92, .lit (.int .i32 92)), (.int .i32 110, .lit (.int .i32 10))]
theorem escD_eq : (((DataW.map [] : DataW Unit).put (.int .i32 34) (.lit (.int .i32 34))).put (.int .i32 92) (.lit (.int .i32 92))).put (.int .i32 110) (.lit (.int .i32 10)) = escD := by rfl
theorem keyI (c : Int) (h0 : 0 ≤ c) (h1 : c ≤ 1114111) : keyOf Tryd.prog 21 (.int .i32 c) = some (.int .i32 c) := keyOf_int_mk Tryd.underlying21 (by simp [Lit.wf, IntKind.min, IntKind.max, IntKind.signed, IntKind.bits]; omega)
theorem wfI (c : Int) (h0 : 0 ≤ c) (h1 : c ≤ 1114111) : (Lit.int .i32 c).wf = true := by simp [Lit.wf, IntKind.min, IntKind.max, IntKind.signed, IntKind.bits]; omega
set_option maxRecDepth 100000 in
set_option maxHeartbeats 3200000 in
theorem escapes_calls (W : World) :
    Calls Tryd.prog 72 #[] W fun e W' => e = .returned (.map (some W.heap.size)) ∧ W'.ownsMap Tryd.prog 21 (plainElem (H := Unit) Tryd.prog 21) W.heap.size 3 escD ∧ Below W.heap.size W W' := by
  have hmm := @run_makeMap Tryd.prog
  have o0 := World.ownsMap_made (H := Unit) W Tryd.prog 21 (plainElem Tryd.prog 21)
  obtain ⟨w1, k1, o1, g1⟩ := o0.update lawK Tryd.underlying100 (by unfold maxLen; omega) (keyI 34 (by omega) (by omega)) (plainElem_int Tryd.underlying21 (wfI 34 (by omega) (by omega)))
  obtain ⟨w2, k2, o2, g2⟩ := o1.update lawK Tryd.underlying100 (by unfold maxLen; omega) (keyI 92 (by omega) (by omega)) (plainElem_int Tryd.underlying21 (wfI 92 (by omega) (by omega)))
  obtain ⟨w3, k3, o3, g3⟩ := o2.update lawK Tryd.underlying100 (by unfold maxLen; omega) (keyI 110 (by omega) (by omega)) (plainElem_int Tryd.underlying21 (wfI 10 (by omega) (by omega)))
  rw [escD_eq] at o3
  have hB : Below W.heap.size W w3 := by
    have b0 : Below W.heap.size W (W.alloc (.map #[] 0)) := (Below.refl _ _).alloc (Nat.le_refl _) _
    have b1 := pw_below_grown b0 _ b0.size g1 (fun k hk => by cases hk; exact Nat.le_refl _)
    have b2 := pw_below_grown b1 _ b1.size g2 (fun k hk => by cases hk; exact Nat.le_refl _)
    exact pw_below_grown b2 _ b2.size g3 (fun k hk => by cases hk; exact Nat.le_refl _)
  have O3 := Aside0.mk o3
  have HB := Aside0.mk hB
  clear o0 o1 o2 o3 g1 g2 g3 hB
  go_enter Tryd.func72, Tryd.ntmps72
  go_wp2_with fail
  go_ret
  exact ⟨rfl, O3.out, HB.out⟩
end Go.Proofs.YtcpalnmodbbklaaDoor.P
