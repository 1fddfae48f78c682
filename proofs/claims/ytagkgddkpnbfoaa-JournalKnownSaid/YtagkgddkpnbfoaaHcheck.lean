import Derived.Test.YtagkgddkpnbfoaaHmay
namespace Go.Proofs.Ytagkgddkpnbfoaa.P
set_option linter.unusedVariables false
set_option linter.unusedSimpArgs false
open Go.RowKit Go.Proofs.YtagkgddkpnbfoaaW.PrintWords Go.Proofs.YtagkgddkpnbfoaaW.PrintLast Go.Proofs.YtagkgddkpnbfoaaW.PrintMore

def saidV (k n m : Int) (A3 : Option Addr) (n3 c3 : Nat) (A4 : Option Addr) (n4 c4 : Nat) : Value :=
 if k = 1 ∧ n = 0 ∧ m = 0 then .iface 54 (.agg #[.slice A3 n3 c3, .slice A4 n4 c4])
 else if 2 ≤ k ∧ k ≤ 6 ∧ n3 = 0 ∧ n4 = 0 then .iface 58 (.agg #[.int .i64 n, .int .i64 m]) else .nilIface

set_option maxHeartbeats 1600000 in
theorem said_calls (k n m : Int) (A3 : Option Addr) (n3 c3 : Nat) (A4 : Option Addr) (n4 c4 : Nat) (w : World) (h3 : n3 ≤ 9223372036854775807) (h4 : n4 ≤ 9223372036854775807) :
  Calls Try.prog 25 #[.agg #[.int .i64 k, .int .i64 n, .int .i64 m, .slice A3 n3 c3, .slice A4 n4 c4]] w fun e w' => e = .returned (saidV k n m A3 n3 c3 A4 n4 c4) ∧ Below w.heap.size w w' := by
 have HP : Aside0 (saidV k n m A3 n3 c3 A4 n4 c4 = saidV k n m A3 n3 c3 A4 n4 c4) := ⟨rfl⟩
 generalize hS : saidV k n m A3 n3 c3 A4 n4 c4 = S
 have HS := Aside0.mk hS
 clear hS HP
 go_enter Try.func25, Try.ntmps25
 go_wp2
 all_goals
  go_ret
  refine ⟨?_, (Below.refl _ _).alloc (Nat.le_refl _) _⟩
  rw [← HS.out]
  clear HS
  refine congrArg Ending.returned ?_
  show _ = saidV _ _ _ _ _ _ _ _ _
  unfold saidV
  first | (simp_all; done) | (simp_all; omega)
theorem ta54 (v : Value) (w : World) : Sem.run Try.prog (Instr.typeAssert (.iface 54 v) 20 54 true) w = .ok (.tuple #[v, .bool true]) w := by kernel_rfl
theorem ta58 (v : Value) (w : World) : Sem.run Try.prog (Instr.typeAssert (.iface 58 v) 20 58 true) w = .ok (.tuple #[v, .bool true]) w := by kernel_rfl
theorem ta58' (v : Value) (w : World) : Sem.run Try.prog (Instr.typeAssert (.iface 58 v) 20 58 false) w = .ok v w := by kernel_rfl
theorem ta54_58 (v : Value) (w : World) : Sem.run Try.prog (Instr.typeAssert (.iface 58 v) 20 54 true) w = .ok (.tuple #[.agg #[.slice none 0 0, .slice none 0 0], .bool false]) w := by kernel_rfl
theorem ta54_nil (w : World) : Sem.run Try.prog (Instr.typeAssert .nilIface 20 54 true) w = .ok (.tuple #[.agg #[.slice none 0 0, .slice none 0 0], .bool false]) w := by kernel_rfl
theorem ta58_nil (w : World) : Sem.run Try.prog (Instr.typeAssert .nilIface 20 58 true) w = .ok (.tuple #[.agg #[.int .i64 0, .int .i64 0], .bool false]) w := by kernel_rfl
theorem ok_of_pair (k n m : Int) (pl : List Int) (st : List S49) (h : ¬ (k = 1 ∧ n = 0 ∧ m = 0)) : okRec k n m pl st = (decide (2 ≤ k) && decide (k ≤ 6) && (decide (pl.length = 0) && decide (st.length = 0)) && (decide (0 ≤ n) && decide (n ≤ 65535)) && (decide (0 ≤ m) && decide (m ≤ 65535)) && (!decide (k = 6) || decide (1 ≤ n) && decide (n ≤ 3))) := by
 unfold okRec
 split
 ·simp_all
 ·rfl
theorem ok_of_plan (k n m : Int) (pl : List Int) (st : List S49) (h : k = 1 ∧ n = 0 ∧ m = 0) : okRec k n m pl st = okPlan pl st := by
 obtain ⟨rfl, rfl, rfl⟩ := h
 simp [okRec]

set_option maxHeartbeats 1600000 in
theorem journal_Check.calls (k n m : Int) (A3 : Option Addr) (c3 : Nat) (l3 : List Int) (A4 : Option Addr) (c4 : Nat) (l4 : List S49) (r : Int) (w : World) (hr3 : Kd.C (Kd.int .i64) w A3 l3.length l3) (hc3 : l3.length ≤ c3)
  (hr4 : Kd.C k49 w A4 l4.length l4) (hc4 : l4.length ≤ c4) (h : journal_Check.f k n m l3 l4 = some r) :
  Calls Try.prog 12 #[.agg #[.int .i64 k, .int .i64 n, .int .i64 m, .slice A3 l3.length c3, .slice A4 l4.length c4]] w fun e w' => e = .returned (.int .i64 r) ∧ Below w.heap.size w w' := by
 have HR3 := Aside0.mk hr3
 have HR4 := Aside0.mk hr4
 have hm3 := hr3.2.1
 have hm4 := hr4.2.1
 clear hr3 hr4
 have HR := Aside0.mk (Option.some.inj h)
 clear h
 have HB0 : ∀ o, Aside0 (Below w.heap.size w (w.alloc o)) := fun o => ⟨(Below.refl _ _).alloc (Nat.le_refl _) _⟩
 by_cases hk : k = 1 ∧ n = 0 ∧ m = 0
 ·have HO := Aside0.mk (ok_of_plan k n m l3 l4 hk)
  have HV : Aside0 (saidV k n m A3 l3.length c3 A4 l4.length c4 = .iface 54 (.agg #[.slice A3 l3.length c3, .slice A4 l4.length c4])) := ⟨by unfold saidV; rw [if_pos hk]⟩
  clear hk
  go_enter Try.func12, Try.ntmps12
  have e54 := ta54
  have ea : ∀ (W : World) (o : Obj), Below W.heap.size W (W.alloc o) := fun W o => (Below.refl _ _).alloc (Nat.le_refl _) _
  have EA := Aside0.mk ea
  clear ea
  go_wp2_with (first | (go_at_call 25; refine (said_calls _ _ _ _ _ _ _ _ _ _ hm3 hm4).mono ?_; rintro e w1 ⟨rfl, hb1⟩; rw [HV.out]; replace hb1 := Aside0.mk (below_then (HB0 _).out (HB0 _).out.size hb1)) | (go_at_call 30; refine (may_calls _ _ _ _ _ _ _ (Kd.C_below HR3.out (below_alloc hb1.out _)) hc3 (Kd.C_below HR4.out (below_alloc hb1.out _)) hc4).mono ?_; rintro e w2 ⟨rfl, hb2⟩; replace hb2 := Aside0.mk (below_then (below_alloc hb1.out _) (below_alloc hb1.out _).size hb2)))
  all_goals
   go_ret
   refine ⟨?_, hb2.out⟩
   rw [← HR.out, HO.out]
   simp_all
 ·have HO := Aside0.mk (ok_of_pair k n m l3 l4 hk)
  have HV : Aside0 (saidV k n m A3 l3.length c3 A4 l4.length c4 = if 2 ≤ k ∧ k ≤ 6 ∧ l3.length = 0 ∧ l4.length = 0 then .iface 58 (.agg #[.int .i64 n, .int .i64 m]) else .nilIface) := ⟨by unfold saidV; rw [if_neg hk]⟩
  clear hk
  have e1 := ta58
  have e2 := ta54_58
  have e3 := ta54_nil
  have e4 := ta58_nil
  by_cases hk : 2 ≤ k ∧ k ≤ 6 ∧ l3.length = 0 ∧ l4.length = 0
  ·rw [if_pos hk] at HV
   have hk1 := hk.1
   have hk2 := hk.2.1
   have HK := Aside0.mk hk
   clear hk
   go_enter Try.func12, Try.ntmps12
   go_wp2_with (first | (go_at_call 25; refine (said_calls _ _ _ _ _ _ _ _ _ _ hm3 hm4).mono ?_; rintro e w1 ⟨rfl, hb1⟩; rw [HV.out]; obtain ⟨bc, bf⟩ := bcell hb1; have hz : w.heap.size < w1.heap.size := (by have := hb1.size; simp only [World.alloc, Array.size_push] at this; omega); have hz2 : w.heap.size < w1.heap.size + 1 := (by omega); replace hb1 := Aside0.mk (below_then (HB0 _).out (HB0 _).out.size hb1)) | (go_at_call 31; go_in))
   all_goals
    go_ret
    refine ⟨?_, ?_⟩
    ·rw [← HR.out, HO.out]
     obtain ⟨_, _, K3, K4⟩ := HK.out
     refine congrArg (fun z => Ending.returned (Value.int .i64 z)) ?_
     simp only [K3, K4]
     clear bc bf e1 e2 e3 e4 HR HO HV HB0 HR3 HR4 hb1 hz hz2
     split <;> first | rfl | (exfalso; simp_all; done) | (exfalso; simp_all; omega)
    ·exact below_alloc (below_alloc hb1.out _) _
  ·rw [if_neg hk] at HV
   have HK := Aside0.mk hk
   clear hk
   go_enter Try.func12, Try.ntmps12
   go_wp2_with (first | (go_at_call 25; refine (said_calls _ _ _ _ _ _ _ _ _ _ hm3 hm4).mono ?_; rintro e w1 ⟨rfl, hb1⟩; rw [HV.out]; obtain ⟨bc, bf⟩ := bcell hb1; have hz : w.heap.size < w1.heap.size := (by have := hb1.size; simp only [World.alloc, Array.size_push] at this; omega); have hz2 : w.heap.size < w1.heap.size + 1 := (by omega); replace hb1 := Aside0.mk (below_then (HB0 _).out (HB0 _).out.size hb1)) | (go_at_call 31; go_in))
   all_goals
    go_ret
    refine ⟨?_, ?_⟩
    ·rw [← HR.out, HO.out]
     have HK := HK.out
     refine congrArg (fun z => Ending.returned (Value.int .i64 z)) ?_
     rw [if_neg]
     simp only [Bool.and_eq_true, decide_eq_true_eq, Bool.or_eq_true, Bool.not_eq_true']
     omega
    ·exact below_alloc (below_alloc hb1.out _) _
end Go.Proofs.Ytagkgddkpnbfoaa.P
