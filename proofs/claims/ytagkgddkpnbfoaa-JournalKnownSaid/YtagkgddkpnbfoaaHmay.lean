import Derived.Test.YtagkgddkpnbfoaaHplain
namespace Go.Proofs.Ytagkgddkpnbfoaa.P
set_option linter.unusedVariables false
set_option linter.unusedSimpArgs false
open Go.RowKit Go.Proofs.YtagkgddkpnbfoaaW.PrintWords Go.Proofs.YtagkgddkpnbfoaaW.PrintLast Go.Proofs.YtagkgddkpnbfoaaW.PrintMore

def allN (l : List Int) : Bool := l.all okNode
def allS (l : List S49) : Bool := l.all okStep
set_option maxHeartbeats 400000 in
theorem node_calls (n : Int) (w : World) : Calls Try.prog 39 #[.int .i64 n] w fun e w' => e = .returned (.bool (!okNode n)) ∧ w = w' := by
 unfold okNode
 by_cases h : -1 ≤ n
 ·have h1 : decide (-1 ≤ n) = true := decide_eq_true h
  go_enter Try.func39, Try.ntmps39
  go_wp2
  go_ret
  exact ⟨by simp <;> omega, rfl⟩
 ·have h1 : decide (-1 ≤ n) = false := decide_eq_false h
  go_enter Try.func39, Try.ntmps39
  go_wp2
  go_ret
  exact ⟨by simp [h1], rfl⟩

set_option maxHeartbeats 800000 in
theorem step_calls (x : S49) (w : World) : Calls Try.prog 40 #[.agg #[.int .i64 x.f0, .int .i64 x.f1, .int .i64 x.f2]] w fun e w' => e = .returned (.bool (!okStep x)) ∧ Below w.heap.size w w' := by
 obtain ⟨a, b, c⟩ := x
 unfold okStep
 go_enter Try.func40, Try.ntmps40
 go_wp2
 all_goals
  go_ret
  exact ⟨congrArg (fun b => Ending.returned (Value.bool b)) (by first | (simp [*]; done) | (simp [*]; omega) | (simp [*]; rw [Bool.eq_iff_iff]; simp)), (Below.refl _ _).alloc (Nat.le_refl _) _⟩

set_option maxHeartbeats 800000 in
theorem idx39_calls (A : Option Addr) (c : Nat) (l : List Int) (w : World) (hr : Kd.C (Kd.int .i64) w A l.length l) (hc : l.length ≤ c) :
  Calls Try.prog 47 #[.slice A l.length c, .func (.func 39) #[] #[]] w fun e w' => e = .returned (.int .i64 (firstBad okNode l 0)) ∧ w = w' := by
 have HR := Aside0.mk hr
 have hm := hr.2.1
 clear hr
 go_enter Try.func47, Try.ntmps47
 go_wp2
 go_loop [8] (fun i => ∃ k : Nat, k ≤ l.length ∧ i = .int .i64 k ∧ Aside0 (firstBad okNode l 0 = firstBad okNode (l.drop k) k)) (fun i => l.length - (intOf i).toNat)
 case atStart => exact ⟨0, Nat.zero_le _, rfl, ⟨rfl⟩⟩
 case round =>
  obtain ⟨k, hk, rfl, HF⟩ := hrel
  by_cases hlt : k < l.length
  ·obtain ⟨ad, e, hcell⟩ := Kd.at_int HR.out (k : Int) (by omega) (by omega)
   cases e
   rw [Int.toNat_natCast] at hcell
   have HS : Aside0 (firstBad okNode (l.drop k) k = if okNode (rd l k) = true then firstBad okNode (l.drop (k + 1)) (k + 1) else (k : Int)) := ⟨by
    rw [List.drop_eq_getElem_cons hlt]
    simp [firstBad, rd, List.getD_eq_getElem?_getD, List.getElem?_eq_getElem hlt]⟩
   cases ho : okNode (rd l k) with
   | true =>
    go_wp2_with (go_at_call 39; refine (node_calls _ _).mono ?_; rintro e w' ⟨rfl, rfl⟩)
    go_round
    case rel => exact ⟨k + 1, by omega, by go_num, ⟨by rw [HF.out, HS.out, if_pos ho]⟩⟩
    case measure => simp [intOf]; omega
   | false =>
    go_wp2_with (go_at_call 39; refine (node_calls _ _).mono ?_; rintro e w' ⟨rfl, rfl⟩)
    go_ret
    exact ⟨by rw [HF.out, HS.out, ho]; rfl, rfl⟩
  ·go_wp2
   go_ret
   exact ⟨by rw [HF.out, List.drop_of_length_le (by omega)]; rfl, rfl⟩

set_option maxHeartbeats 800000 in
theorem idx48_calls (A : Option Addr) (c : Nat) (l : List S49) (w : World) (hr : Kd.C k49 w A l.length l) (hc : l.length ≤ c) :
  Calls Try.prog 48 #[.slice A l.length c, .func (.func 40) #[] #[]] w fun e w' => e = .returned (.int .i64 (firstBad okStep l 0)) ∧ Below w.heap.size w w' := by
 have HR := Aside0.mk hr
 have hm := hr.2.1
 clear hr
 go_enter Try.func48, Try.ntmps48
 go_wp2
 go_loopw [8] (fun i wr => ∃ k : Nat, k ≤ l.length ∧ i = .int .i64 k ∧ Aside0 (firstBad okStep l 0 = firstBad okStep (l.drop k) k) ∧ Aside0 (Below w.heap.size w wr)) (fun i _ => l.length - (intOf i).toNat)
 case atStart => exact ⟨0, Nat.zero_le _, rfl, ⟨rfl⟩, ⟨Below.refl _ _⟩⟩
 case round =>
  obtain ⟨k, hk, rfl, HF, HB⟩ := hrel
  by_cases hlt : k < l.length
  ·obtain ⟨ad, e, h0, h1, h2⟩ := at_T49 (Kd.C_below HR.out HB.out) (k : Int) (by omega) (by omega)
   cases e
   rw [Int.toNat_natCast] at h0 h1 h2
   have HS : Aside0 (firstBad okStep (l.drop k) k = if okStep (rd_T49 l k) = true then firstBad okStep (l.drop (k + 1)) (k + 1) else (k : Int)) := ⟨by
    rw [List.drop_eq_getElem_cons hlt]
    simp [firstBad, rd_T49, List.getD_eq_getElem?_getD, List.getElem?_eq_getElem hlt]⟩
   cases ho : okStep (rd_T49 l k) with
   | true =>
    go_wp2_with (go_at_call 40; refine (step_calls (rd_T49 l k) _).mono ?_; rintro e w' ⟨rfl, hb1⟩)
    go_roundw
    case rel => exact ⟨k + 1, by omega, by go_num, ⟨by rw [HF.out, HS.out, if_pos ho]⟩, ⟨below_then HB.out HB.out.size hb1⟩⟩
    case measure => simp [intOf]; omega
   | false =>
    go_wp2_with (go_at_call 40; refine (step_calls (rd_T49 l k) _).mono ?_; rintro e w' ⟨rfl, hb1⟩)
    go_ret
    exact ⟨by rw [HF.out, HS.out, ho]; rfl, below_then HB.out HB.out.size hb1⟩
  ·go_wp2
   go_ret
   exact ⟨by rw [HF.out, List.drop_of_length_le (by omega)]; rfl, HB.out⟩

theorem has41_calls (A : Option Addr) (c : Nat) (l : List Int) (w : World) (hr : Kd.C (Kd.int .i64) w A l.length l) (hc : l.length ≤ c) :
  Calls Try.prog 41 #[.slice A l.length c, .func (.func 39) #[] #[]] w fun e w' => e = .returned (.bool (!allN l)) ∧ w = w' := by
 have HR := Aside0.mk hr
 clear hr
 go_enter Try.func41, Try.ntmps41
 go_wp2_with (go_at_call 47; refine (idx39_calls _ _ _ _ HR.out hc).mono ?_; rintro e w' ⟨rfl, rfl⟩)
 go_ret
 exact ⟨congrArg (fun b => Ending.returned (Value.bool b)) (firstBad_ge _ _ _), rfl⟩
theorem has42_calls (A : Option Addr) (c : Nat) (l : List S49) (w : World) (hr : Kd.C k49 w A l.length l) (hc : l.length ≤ c) :
  Calls Try.prog 42 #[.slice A l.length c, .func (.func 40) #[] #[]] w fun e w' => e = .returned (.bool (!allS l)) ∧ Below w.heap.size w w' := by
 have HR := Aside0.mk hr
 clear hr
 go_enter Try.func42, Try.ntmps42
 go_wp2_with (go_at_call 48; refine (idx48_calls _ _ _ _ HR.out hc).mono ?_; rintro e w' ⟨rfl, hb⟩)
 go_ret
 exact ⟨congrArg (fun b => Ending.returned (Value.bool b)) (firstBad_ge _ _ _), hb⟩

set_option maxHeartbeats 800000 in
theorem may_calls (A : Option Addr) (c : Nat) (l : List Int) (A' : Option Addr) (c' : Nat) (l' : List S49) (w : World) (hr : Kd.C (Kd.int .i64) w A l.length l) (hc : l.length ≤ c)
  (hr' : Kd.C k49 w A' l'.length l') (hc' : l'.length ≤ c') :
  Calls Try.prog 30 #[.agg #[.slice A l.length c, .slice A' l'.length c']] w fun e w' => e = .returned (.bool (okPlan l l')) ∧ Below w.heap.size w w' := by
 have HR := Aside0.mk hr
 have HR' := Aside0.mk hr'
 have hm := hr.2.1
 have hm' := hr'.2.1
 clear hr hr'
 have HB0 : ∀ o, Aside0 (Below w.heap.size w (w.alloc o)) := fun o => ⟨(Below.refl _ _).alloc (Nat.le_refl _) _⟩
 have HP : Aside0 (okPlan l l' = (decide (l.length ≤ 24) && decide (l'.length ≤ 255) && allN l && allS l')) := ⟨rfl⟩
 generalize okPlan l l' = R at HP ⊢
 go_enter Try.func30, Try.ntmps30
 go_wp2_with (first | (go_at_call 41; refine (has41_calls _ _ _ _ (Kd.C_below HR.out (HB0 _).out) hc).mono ?_; rintro e w' ⟨rfl, rfl⟩) | (go_at_call 42; refine (has42_calls _ _ _ _ (Kd.C_below HR'.out (HB0 _).out) hc').mono ?_; rintro e w' ⟨rfl, hb⟩))
 all_goals
  go_ret
  refine ⟨congrArg (fun b => Ending.returned (Value.bool b)) ?_, ?_⟩
  ·rw [HP.out]
   first | (simp [*]; done) | (simp [*]; omega)
  ·first | exact (HB0 _).out | exact below_then (HB0 _).out (HB0 _).out.size hb
end Go.Proofs.Ytagkgddkpnbfoaa.P
