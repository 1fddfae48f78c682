import Derived.Test.YtagkgddkpnbfoaaHcheck
import Derived.Test.YtagkgddkpnbfoaaHput
namespace Go.Proofs.Ytagkgddkpnbfoaa.P
set_option linter.unusedVariables false
set_option linter.unusedSimpArgs false
open Go.RowKit Go.Proofs.YtagkgddkpnbfoaaW.PrintWords Go.Proofs.YtagkgddkpnbfoaaW.PrintLast Go.Proofs.YtagkgddkpnbfoaaW.PrintMore

def fieldsOf (k n m : Int) (pl : List Int) (st : List S49) : List Int := if k = 1 then planB pl st else putL [n, m]
def headB (k n m : Int) (pl : List Int) (st : List S49) : List Int :=
  putL [((fieldsOf k n m pl st).length : Int) + 7, 65535 - (((fieldsOf k n m pl st).length : Int) + 7)] ++ [k % 256] ++ fieldsOf k n m pl st
def recB (k n m : Int) (pl : List Int) (st : List S49) : List Int := headB k n m pl st ++ putL [sumL (headB k n m pl st)]
def journal_Bytes.f (k n m : Int) (pl : List Int) (st : List S49) : Option (List Int × Int) := some (if okRec k n m pl st = true then recB k n m pl st else [], if okRec k n m pl st = true then 0 else 2)

theorem said_ok (k n m : Int) (A3 : Option Addr) (l3 : List Int) (c3 : Nat) (A4 : Option Addr) (l4 : List S49) (c4 : Nat) (h : okRec k n m l3 l4 = true) :
    saidV k n m A3 l3.length c3 A4 l4.length c4 = if k = 1 then .iface 54 (.agg #[.slice A3 l3.length c3, .slice A4 l4.length c4]) else .iface 58 (.agg #[.int .i64 n, .int .i64 m]) := by
  unfold okRec at h
  unfold saidV
  split at h
  · simp_all
  · simp only [Bool.and_eq_true, decide_eq_true_eq] at h
    rw [if_neg (by omega), if_pos (by omega), if_neg (by omega)]

theorem lit2_C (W : World) (k : IntKind) (g : Nat) (x y : Int) (h0 : W.cell? ⟨g, 0, none⟩ = some (.int k x)) (h1 : W.cell? ⟨g, 1, none⟩ = some (.int k y)) : Kd.C (Kd.int k) W (some ⟨g, 0, none⟩) [x, y].length [x, y] := by
  refine ⟨rfl, by simp, fun _ => ⟨_, rfl, fun j p hj => ?_⟩⟩
  rcases j with _ | _ | j
  · simp at hj; subst hj
    exact ⟨_, rfl, rfl, fun i u hu => by rcases i with _ | i <;> simp_all [Addr.add, Kd.int, Kd.scalar]⟩
  · simp at hj; subst hj
    exact ⟨_, rfl, rfl, fun i u hu => by rcases i with _ | i <;> simp_all [Addr.add, Kd.int, Kd.scalar]⟩
  · simp at hj
theorem lit1_C (W : World) (k : IntKind) (g : Nat) (x : Int) (h0 : W.cell? ⟨g, 0, none⟩ = some (.int k x)) : Kd.C (Kd.int k) W (some ⟨g, 0, none⟩) [x].length [x] := by
  refine ⟨rfl, by simp, fun _ => ⟨_, rfl, fun j p hj => ?_⟩⟩
  rcases j with _ | j
  · simp at hj; subst hj
    exact ⟨_, rfl, rfl, fun i u hu => by rcases i with _ | i <;> simp_all [Addr.add, Kd.int, Kd.scalar]⟩
  · simp at hj
theorem put_nil2 (g : Nat) (x y : Int) (w0 w : World) (hB : Below w0.heap.size w0 w) (h0 : w.cell? ⟨g, 0, none⟩ = some (.int .i64 x)) (h1 : w.cell? ⟨g, 1, none⟩ = some (.int .i64 y)) :
    Calls Try.prog 27 #[.slice none 0 0, .slice (some ⟨g, 0, none⟩) 2 2] w fun e w' => ∃ v0 : Value, e = .returned v0 ∧ Kd.R (Kd.int .u8) 5 w' w0.heap.size (fun k => w.heap.size ≤ k) v0 (putL [x, y]) ∧ Below w0.heap.size w0 w' ∧ Below w.heap.size w w' :=
  put_nil (some ⟨g, 0, none⟩) 2 [x, y] w0 w hB (lit2_C w .i64 g x y h0 h1) (by simp) (by simp)
theorem fresh_of {w3 W : World} (hb : Below w3.heap.size w3 W) : ∀ k, W.heap.size ≤ k → w3.heap.size ≤ k := fun _ hk => Nat.le_trans hb.size hk
theorem put_own1 (B g : Nat) (v : Value) (l0 : List Int) (x : Int) (w0 w : World) (hB : Below w0.heap.size w0 w) (ho : Kd.R (Kd.int .u8) 5 w w0.heap.size (fun k => k < B) v l0)
    (h0 : w.cell? ⟨g, 0, none⟩ = some (.int .i64 x)) (hA : B ≤ g) (hl : l0.length ≤ 2000) :
    Calls Try.prog 27 #[v, .slice (some ⟨g, 0, none⟩) 1 1] w fun e w' => ∃ v0 : Value, e = .returned v0 ∧ Kd.R (Kd.int .u8) 5 w' w0.heap.size (fun _ => True) v0 (l0 ++ putL [x]) ∧ Below w0.heap.size w0 w' :=
  put_own B v l0 (some ⟨g, 0, none⟩) 1 [x] w0 w hB ho (lit1_C w .i64 g x h0) (fun ad h => by cases h; exact hA) (by simp) (by simp; omega)
theorem two_isByte (n : Int) : ∀ x ∈ two n, isByte x := by
  intro x hx
  simp only [two, List.mem_cons, List.not_mem_nil, or_false] at hx
  unfold isByte
  omega
theorem putL_isByte (l : List Int) : ∀ x ∈ putL l, isByte x := by
  intro x hx
  obtain ⟨n, _, h⟩ := List.mem_flatMap.1 hx
  exact two_isByte n x h
theorem planB_isByte (l : List Int) (st : List S49) : ∀ x ∈ planB l st, isByte x := by
  intro x hx
  simp only [planB, List.mem_append, List.mem_map, List.mem_flatMap, List.mem_singleton, stepB, List.mem_cons, List.not_mem_nil, or_false] at hx
  unfold isByte
  rcases hx with ((rfl | ⟨a, _, rfl⟩) | rfl) | ⟨a, _, (rfl | rfl | rfl)⟩ <;> omega
theorem fieldsOf_isByte (k n m : Int) (l : List Int) (st : List S49) : ∀ x ∈ fieldsOf k n m l st, isByte x := by
  unfold fieldsOf
  split
  · exact planB_isByte l st
  · exact putL_isByte _
theorem headB_isByte (k n m : Int) (l : List Int) (st : List S49) : ∀ x ∈ headB k n m l st, isByte x := by
  intro x hx
  simp only [headB, List.mem_append, List.mem_singleton] at hx
  rcases hx with (h | rfl) | h
  · exact putL_isByte _ _ h
  · unfold isByte; omega
  · exact fieldsOf_isByte _ _ _ _ _ _ h
theorem headB_length (k n m : Int) (l : List Int) (st : List S49) : (headB k n m l st).length = (fieldsOf k n m l st).length + 5 := by
  simp only [headB, List.length_append, putL_length, List.length_cons, List.length_nil]
  omega
theorem headB_eq {k n m : Int} {l : List Int} {st : List S49} {F : List Int} (h : fieldsOf k n m l st = F) : putL [5 + (F.length : Int) + 2, 65535 - (5 + (F.length : Int) + 2)] ++ [k % 256] ++ F = headB k n m l st := by
  unfold headB
  rw [h, show 5 + (F.length : Int) + 2 = (F.length : Int) + 7 by omega]
theorem planB_length (l : List Int) (st : List S49) (h : okPlan l st = true) : (planB l st).length ≤ 1000 := by
  simp only [okPlan, Bool.and_eq_true, decide_eq_true_eq] at h
  simp only [planB, List.length_append, List.length_map, stepsB_length, List.length_singleton]
  omega
set_option maxHeartbeats 1600000 in
set_option maxRecDepth 100000 in
theorem bytes_plan (k n m : Int) (A3 : Option Addr) (c3 : Nat) (l3 : List Int) (A4 : Option Addr) (c4 : Nat) (l4 : List S49) (w : World) (hr3 : Kd.C (Kd.int .i64) w A3 l3.length l3) (hc3 : l3.length ≤ c3)
    (hr4 : Kd.C k49 w A4 l4.length l4) (hc4 : l4.length ≤ c4) (hok : okRec k n m l3 l4 = true) (hk : k = 1) :
    Calls Try.prog 10 #[.agg #[.int .i64 k, .int .i64 n, .int .i64 m, .slice A3 l3.length c3, .slice A4 l4.length c4]] w fun e w' => ∃ v0_ : Value, e = .returned (.tuple #[v0_, .int .i64 0]) ∧ Kd.R (Kd.int .u8) 5 w' w.heap.size (fun _ => True) v0_ (recB k n m l3 l4) ∧ Below w.heap.size w w' := by
  have HR3 := Aside0.mk hr3
  have HR4 := Aside0.mk hr4
  have hm3 := hr3.2.1
  have hm4 := hr4.2.1
  have HCK : Aside0 (journal_Check.f k n m l3 l4 = some 0) := ⟨by unfold journal_Check.f; rw [if_pos hok]⟩
  have HS := Aside0.mk (said_ok k n m A3 l3 c3 A4 l4 c4 hok)
  rw [if_pos hk] at HS
  have HPL : Aside0 (okPlan l3 l4 = true) := ⟨by unfold okRec at hok; rw [if_pos hk] at hok; simp_all⟩
  have HFO : Aside0 (fieldsOf k n m l3 l4 = planB l3 l4) := ⟨by unfold fieldsOf; rw [if_pos hk]⟩
  have hFl := planB_length _ _ HPL.out
  generalize hF : planB l3 l4 = F at *
  have HF := Aside0.mk hF
  clear hr3 hr4 hF hok hk
  have HB0 : ∀ o, Aside0 (Below w.heap.size w (w.alloc o)) := fun o => ⟨(Below.refl _ _).alloc (Nat.le_refl _) _⟩
  have e54 := ta54
  go_enter Try.func10, Try.ntmps10
  go_wp2_with fail
  refine (journal_Check.calls _ _ _ _ _ _ _ _ _ 0 _ (Kd.C_below HR3.out (HB0 _).out) hc3 (Kd.C_below HR4.out (HB0 _).out) hc4 HCK.out).mono ?_
  rintro e w1 ⟨rfl, hb1⟩
  obtain ⟨bc, bf⟩ := bcell hb1
  have hz : w.heap.size < w1.heap.size := by have := hb1.size; simp only [World.alloc, Array.size_push] at this; omega
  replace hb1 := Aside0.mk (below_then (HB0 _).out (HB0 _).out.size hb1)
  go_wp2_with fail
  refine (said_calls _ _ _ _ _ _ _ _ _ _ hm3 hm4).mono ?_
  rintro e w2 ⟨rfl, hb2⟩
  rw [HS.out]
  obtain ⟨bc2, bf2⟩ := bcell hb2
  have hz2 : w.heap.size < w2.heap.size := by have := hb2.size; omega
  replace hb2 := Aside0.mk (below_then hb1.out hb1.out.size hb2)
  go_wp2_with fail
  refine (journal_plan_bytes.calls _ _ _ _ _ _ _ _ _ (Kd.C_below HR3.out (below_alloc hb2.out _)) hc3 (Kd.C_below HR4.out (below_alloc hb2.out _)) hc4 (plan_f _ _ HPL.out)).mono ?_
  rintro e w3 ⟨vf, rfl, HV, hb3⟩
  rw [HF.out] at HV
  obtain ⟨Af, cf, rfl, hcf, HRF⟩ := Kd.R_reads HV
  have HV := Aside0.mk HV
  have HRF := Aside0.mk HRF
  obtain ⟨bc3, bf3⟩ := bcell hb3
  have hz3 : w2.heap.size < w3.heap.size := by have := hb3.size; simp only [World.alloc, Array.size_push] at this; omega
  replace hb3 := Aside0.mk (below_then (below_alloc hb2.out _) (below_alloc hb2.out _).size hb3)
  have hkc : w3.cell? ⟨w.heap.size, 0, none⟩ = some (.int .i64 k) := by
    rw [bc3 _ _ (by simp only [World.alloc, Array.size_push]; omega), World.cell?_alloc_past _ _ _ hz2, bc2 _ _ hz, bc _ _ (by simp only [World.alloc, Array.size_push]; omega)]
    simp
  clear bc bf bc2 bf2 bc3 bf3
  go_wp2_with fail
  have hB3 : Aside0 (Below w3.heap.size w3 w3) := ⟨Below.refl _ _⟩
  have hw0 : IntKind.i64.wrap (65535 - (5 + (F.length : Int) + 2)) = 65535 - (5 + (F.length : Int) + 2) := IntWalk.i64_in _ (by omega)
  have hz4 : w.heap.size < w3.heap.size := by omega
  have hw1 : IntKind.u8.wrap k = k % 256 := IntKind.wrap_u8 k
  go_region_held3 (fun w' => w'.cell? ⟨w.heap.size, 0, none⟩ = some (.int .i64 k))
    (first | go_keep | (rw [hb7.cell (p := ⟨w.heap.size, 0, none⟩) hz4]; exact hkc) | (rw [hb6.cell (p := ⟨w.heap.size, 0, none⟩) hz4]; exact hkc) | (rw [hb5.cell (p := ⟨w.heap.size, 0, none⟩) hz4]; exact hkc))
    (first
      | (refine Kd.R_append_rows_step (Kd.int .u8) (Rr := fun x cs => cs = [Value.int .u8 x]) (w0 := w3) w3.heap.size (by rfl) (.tmp 43) (.tmp 47) 26 5 (.int .u8 0) 1 (by rfl) Try.underlying26 info5 rfl (by decide) (by decide) v4 (putL [5 + (F.length : Int) + 2, 65535 - (5 + (F.length : Int) + 2)]) [k % 256] _ _ _ (fun k_ => w3.heap.size ≤ k_) (fun _ => False) rfl rfl ?_ ?_ (fun _ _ h => h) (fun _ h => h.elim) (fresh_of ?_) ?_ (Below.size (B := w3.heap.size) ?_) ?_ ?_
         · (repeat (first | exact HV4 | apply Kd.R_alloc | apply Kd.R_drewN | apply Kd.R_drew))
         · (refine lit1_C _ _ _ _ ?_; first | (go_simp; done) | (rw [hbk5.cell (by simp <;> omega)]; go_simp))
         · (repeat (first | exact hb5 | exact hB3.out | apply below_alloc | apply pw_below_drewN | apply below_drew))
         · (repeat (first | exact hb5 | exact hB3.out | apply below_alloc | apply pw_below_drewN | apply below_drew))
         · (repeat (first | exact hb5 | exact hB3.out | apply below_alloc | apply pw_below_drewN | apply below_drew))
         · simp [putL_length]
         intro v6 w6 HV6 hb6 hg6 hat6)
      | (refine Kd.R_append_rows_step (Kd.int .u8) (Rr := fun x cs => cs = [Value.int .u8 x]) (w0 := w3) w3.heap.size (by rfl) (.tmp 48) (.tmp 49) 26 5 (.int .u8 0) 1 (by rfl) Try.underlying26 info5 rfl (by decide) (by decide) v6 (putL [5 + (F.length : Int) + 2, 65535 - (5 + (F.length : Int) + 2)] ++ [k % 256]) F _ _ _ (fun k_ => w3.heap.size ≤ k_) (fun _ => False) rfl rfl ?_ ?_ (fun _ _ h => h) (fun _ h => h.elim) (fresh_of ?_) ?_ (Below.size (B := w3.heap.size) ?_) ?_ ?_
         · (repeat (first | exact HV6 | apply Kd.R_alloc | apply Kd.R_drewN | apply Kd.R_drew))
         · (refine Kd.C_below HRF.out ?_; (repeat (first | exact hb6 | exact hb5 | exact hB3.out | apply below_alloc | apply pw_below_drewN | apply below_drew)))
         · (repeat (first | exact hb6 | exact hb5 | exact hB3.out | apply below_alloc | apply pw_below_drewN | apply below_drew))
         · (repeat (first | exact hb6 | exact hb5 | exact hB3.out | apply below_alloc | apply pw_below_drewN | apply below_drew))
         · (repeat (first | exact hb6 | exact hb5 | exact hB3.out | apply below_alloc | apply pw_below_drewN | apply below_drew))
         · (simp [putL_length]; omega)
         intro v7 w7 HV7 hb7 hg7 hat7)
      | (go_at_call 27; refine Calls.mono (put_nil2 _ (5 + (F.length : Int) + 2) (65535 - (5 + (F.length : Int) + 2)) w3 _ ?_ ?_ ?_) ?_
         · (repeat (first | exact hB3.out | apply below_alloc | apply pw_below_drewN | apply below_drew))
         · go_simp
         · go_simp
         rintro e w5 ⟨v4, rfl, HV4, hb5, hbk5⟩; replace HV4 := Kd.R_mono (ok' := fun k_ => w3.heap.size ≤ k_) HV4 (fun k_ hk => by simp at hk; omega)))
  all_goals
    rw [headB_eq HFO.out] at HV7
    obtain ⟨Ab, cb, rfl, hcb, HRb⟩ := Kd.R_reads HV7
    have hlb : (headB k n m l3 l4).length ≤ 2000 := by rw [headB_length, HFO.out]; omega
    replace HV7 := Aside0.mk HV7
    replace HRb := Aside0.mk HRb
    replace hb7 := Aside0.mk hb7
    clear hg7 hat7 hg6 hat6 hbk5 hb5 hb6 HV6 HV4 hkc
    go_wp2_with fail
    refine (journal_Sum.calls _ _ _ _ _ _ HRb.out hcb (sum_f _ (headB_isByte _ _ _ _ _) (by omega))).mono ?_
    rintro e w8 ⟨rfl, ⟨q, rfl⟩⟩
    go_wp2_with fail
    refine (put_own1 w7.heap.size _ _ _ (sumL (headB k n m l3 l4)) w3 _ ?_ ?_ ?_ ?_ hlb).mono ?_
    · (repeat (first | exact hb7.out | apply below_alloc | apply pw_below_drewN | apply below_drew))
    · (repeat (first | exact Kd.R_mono (Kd.R_bound HV7.out) (fun _ h => h.2.2.1) | apply Kd.R_alloc | apply Kd.R_drewN | apply Kd.R_drew))
    · exact (World.cell?_alloc_at (w := w7.drewN q) _ _ _ 0 rfl).trans rfl
    · simp
    rintro e w9 ⟨v9, rfl, HV9, hb9⟩
    go_wp2_with fail
    go_ret2
    exact ⟨_, rfl, Kd.R_lower HV9 (by omega), below_then hb3.out hb3.out.size hb9⟩
set_option maxHeartbeats 1600000 in
set_option maxRecDepth 100000 in
theorem bytes_pair (k n m : Int) (A3 : Option Addr) (c3 : Nat) (l3 : List Int) (A4 : Option Addr) (c4 : Nat) (l4 : List S49) (w : World) (hr3 : Kd.C (Kd.int .i64) w A3 l3.length l3) (hc3 : l3.length ≤ c3)
    (hr4 : Kd.C k49 w A4 l4.length l4) (hc4 : l4.length ≤ c4) (hok : okRec k n m l3 l4 = true) (hk : ¬ k = 1) :
    Calls Try.prog 10 #[.agg #[.int .i64 k, .int .i64 n, .int .i64 m, .slice A3 l3.length c3, .slice A4 l4.length c4]] w fun e w' => ∃ v0_ : Value, e = .returned (.tuple #[v0_, .int .i64 0]) ∧ Kd.R (Kd.int .u8) 5 w' w.heap.size (fun _ => True) v0_ (recB k n m l3 l4) ∧ Below w.heap.size w w' := by
  have HR3 := Aside0.mk hr3
  have HR4 := Aside0.mk hr4
  have hm3 := hr3.2.1
  have hm4 := hr4.2.1
  have HCK : Aside0 (journal_Check.f k n m l3 l4 = some 0) := ⟨by unfold journal_Check.f; rw [if_pos hok]⟩
  have HS := Aside0.mk (said_ok k n m A3 l3 c3 A4 l4 c4 hok)
  rw [if_neg hk] at HS
  have HFO : Aside0 (fieldsOf k n m l3 l4 = putL [n, m]) := ⟨by unfold fieldsOf; rw [if_neg hk]⟩
  have hFl : (putL [n, m]).length ≤ 1000 := by rw [putL_length]; simp
  generalize hF : putL [n, m] = F at *
  have HF := Aside0.mk hF
  clear hr3 hr4 hF hok hk
  have HB0 : ∀ o, Aside0 (Below w.heap.size w (w.alloc o)) := fun o => ⟨(Below.refl _ _).alloc (Nat.le_refl _) _⟩
  have e54 := ta54_58
  have e58 := ta58'
  go_enter Try.func10, Try.ntmps10
  go_wp2_with fail
  refine (journal_Check.calls _ _ _ _ _ _ _ _ _ 0 _ (Kd.C_below HR3.out (HB0 _).out) hc3 (Kd.C_below HR4.out (HB0 _).out) hc4 HCK.out).mono ?_
  rintro e w1 ⟨rfl, hb1⟩
  obtain ⟨bc, bf⟩ := bcell hb1
  have hz : w.heap.size < w1.heap.size := by have := hb1.size; simp only [World.alloc, Array.size_push] at this; omega
  replace hb1 := Aside0.mk (below_then (HB0 _).out (HB0 _).out.size hb1)
  go_wp2_with fail
  refine (said_calls _ _ _ _ _ _ _ _ _ _ hm3 hm4).mono ?_
  rintro e w2 ⟨rfl, hb2⟩
  rw [HS.out]
  obtain ⟨bc2, bf2⟩ := bcell hb2
  have hz2 : w.heap.size < w2.heap.size := by have := hb2.size; omega
  replace hb2 := Aside0.mk (below_then hb1.out hb1.out.size hb2)
  go_wp2_with fail
  refine (put_nil2 _ n m w _ ?_ ?_ ?_).mono ?_
  · (repeat (first | exact hb2.out | apply below_alloc | apply pw_below_drewN | apply below_drew))
  · go_simp
  · go_simp
  rintro e w3 ⟨vf, rfl, HV, hb3', hb3⟩
  rw [HF.out] at HV
  obtain ⟨Af, cf, rfl, hcf, HRF⟩ := Kd.R_reads HV
  have HV := Aside0.mk HV
  have HRF := Aside0.mk HRF
  obtain ⟨bc3, bf3⟩ := bcell hb3
  have hz3 : w2.heap.size < w3.heap.size := by have := hb3.size; simp only [World.alloc, Array.size_push] at this; omega
  replace hb3 := Aside0.mk hb3'
  clear hb3'
  have hkc : w3.cell? ⟨w.heap.size, 0, none⟩ = some (.int .i64 k) := by
    rw [bc3 _ _ (by simp only [World.alloc, Array.size_push]; omega), World.cell?_alloc_past _ _ _ (by simp only [World.alloc, Array.size_push]; omega), World.cell?_alloc_past _ _ _ (by simp only [World.alloc, Array.size_push]; omega), World.cell?_alloc_past _ _ _ hz2, bc2 _ _ hz, bc _ _ (by simp only [World.alloc, Array.size_push]; omega)]
    simp
  clear bc bf bc2 bf2 bc3 bf3
  go_wp2_with fail
  have hB3 : Aside0 (Below w3.heap.size w3 w3) := ⟨Below.refl _ _⟩
  have hw0 : IntKind.i64.wrap (65535 - (5 + (F.length : Int) + 2)) = 65535 - (5 + (F.length : Int) + 2) := IntWalk.i64_in _ (by omega)
  have hz4 : w.heap.size < w3.heap.size := by omega
  have hw1 : IntKind.u8.wrap k = k % 256 := IntKind.wrap_u8 k
  go_region_held3 (fun w' => w'.cell? ⟨w.heap.size, 0, none⟩ = some (.int .i64 k))
    (first | go_keep | (rw [hb7.cell (p := ⟨w.heap.size, 0, none⟩) hz4]; exact hkc) | (rw [hb6.cell (p := ⟨w.heap.size, 0, none⟩) hz4]; exact hkc) | (rw [hb5.cell (p := ⟨w.heap.size, 0, none⟩) hz4]; exact hkc))
    (first
      | (refine Kd.R_append_rows_step (Kd.int .u8) (Rr := fun x cs => cs = [Value.int .u8 x]) (w0 := w3) w3.heap.size (by rfl) (.tmp 43) (.tmp 47) 26 5 (.int .u8 0) 1 (by rfl) Try.underlying26 info5 rfl (by decide) (by decide) v4 (putL [5 + (F.length : Int) + 2, 65535 - (5 + (F.length : Int) + 2)]) [k % 256] _ _ _ (fun k_ => w3.heap.size ≤ k_) (fun _ => False) rfl rfl ?_ ?_ (fun _ _ h => h) (fun _ h => h.elim) (fresh_of ?_) ?_ (Below.size (B := w3.heap.size) ?_) ?_ ?_
         · (repeat (first | exact HV4 | apply Kd.R_alloc | apply Kd.R_drewN | apply Kd.R_drew))
         · (refine lit1_C _ _ _ _ ?_; first | (go_simp; done) | (rw [hbk5.cell (by simp <;> omega)]; go_simp))
         · (repeat (first | exact hb5 | exact hB3.out | apply below_alloc | apply pw_below_drewN | apply below_drew))
         · (repeat (first | exact hb5 | exact hB3.out | apply below_alloc | apply pw_below_drewN | apply below_drew))
         · (repeat (first | exact hb5 | exact hB3.out | apply below_alloc | apply pw_below_drewN | apply below_drew))
         · simp [putL_length]
         intro v6 w6 HV6 hb6 hg6 hat6)
      | (refine Kd.R_append_rows_step (Kd.int .u8) (Rr := fun x cs => cs = [Value.int .u8 x]) (w0 := w3) w3.heap.size (by rfl) (.tmp 48) (.tmp 49) 26 5 (.int .u8 0) 1 (by rfl) Try.underlying26 info5 rfl (by decide) (by decide) v6 (putL [5 + (F.length : Int) + 2, 65535 - (5 + (F.length : Int) + 2)] ++ [k % 256]) F _ _ _ (fun k_ => w3.heap.size ≤ k_) (fun _ => False) rfl rfl ?_ ?_ (fun _ _ h => h) (fun _ h => h.elim) (fresh_of ?_) ?_ (Below.size (B := w3.heap.size) ?_) ?_ ?_
         · (repeat (first | exact HV6 | apply Kd.R_alloc | apply Kd.R_drewN | apply Kd.R_drew))
         · (refine Kd.C_below HRF.out ?_; (repeat (first | exact hb6 | exact hb5 | exact hB3.out | apply below_alloc | apply pw_below_drewN | apply below_drew)))
         · (repeat (first | exact hb6 | exact hb5 | exact hB3.out | apply below_alloc | apply pw_below_drewN | apply below_drew))
         · (repeat (first | exact hb6 | exact hb5 | exact hB3.out | apply below_alloc | apply pw_below_drewN | apply below_drew))
         · (repeat (first | exact hb6 | exact hb5 | exact hB3.out | apply below_alloc | apply pw_below_drewN | apply below_drew))
         · (simp [putL_length]; omega)
         intro v7 w7 HV7 hb7 hg7 hat7)
      | (go_at_call 27; refine Calls.mono (put_nil2 _ (5 + (F.length : Int) + 2) (65535 - (5 + (F.length : Int) + 2)) w3 _ ?_ ?_ ?_) ?_
         · (repeat (first | exact hB3.out | apply below_alloc | apply pw_below_drewN | apply below_drew))
         · go_simp
         · go_simp
         rintro e w5 ⟨v4, rfl, HV4, hb5, hbk5⟩; replace HV4 := Kd.R_mono (ok' := fun k_ => w3.heap.size ≤ k_) HV4 (fun k_ hk => by simp at hk; omega)))
  all_goals
    rw [headB_eq HFO.out] at HV7
    obtain ⟨Ab, cb, rfl, hcb, HRb⟩ := Kd.R_reads HV7
    have hlb : (headB k n m l3 l4).length ≤ 2000 := by rw [headB_length, HFO.out]; omega
    replace HV7 := Aside0.mk HV7
    replace HRb := Aside0.mk HRb
    replace hb7 := Aside0.mk hb7
    clear hg7 hat7 hg6 hat6 hbk5 hb5 hb6 HV6 HV4 hkc
    go_wp2_with fail
    refine (journal_Sum.calls _ _ _ _ _ _ HRb.out hcb (sum_f _ (headB_isByte _ _ _ _ _) (by omega))).mono ?_
    rintro e w8 ⟨rfl, ⟨q, rfl⟩⟩
    go_wp2_with fail
    refine (put_own1 w7.heap.size _ _ _ (sumL (headB k n m l3 l4)) w3 _ ?_ ?_ ?_ ?_ hlb).mono ?_
    · (repeat (first | exact hb7.out | apply below_alloc | apply pw_below_drewN | apply below_drew))
    · (repeat (first | exact Kd.R_mono (Kd.R_bound HV7.out) (fun _ h => h.2.2.1) | apply Kd.R_alloc | apply Kd.R_drewN | apply Kd.R_drew))
    · exact (World.cell?_alloc_at (w := w7.drewN q) _ _ _ 0 rfl).trans rfl
    · simp
    rintro e w9 ⟨v9, rfl, HV9, hb9⟩
    go_wp2_with fail
    go_ret2
    exact ⟨_, rfl, Kd.R_lower HV9 (by omega), below_then hb3.out hb3.out.size hb9⟩

theorem journal_Bytes.calls (k n m : Int) (A3 : Option Addr) (c3 : Nat) (l3 : List Int) (A4 : Option Addr) (c4 : Nat) (l4 : List S49) (r1 : List Int) (r2 : Int) (w : World) (hr3 : Kd.C (Kd.int .i64) w A3 l3.length l3) (hc3 : l3.length ≤ c3)
    (hr4 : Kd.C k49 w A4 l4.length l4) (hc4 : l4.length ≤ c4) (h : journal_Bytes.f k n m l3 l4 = some (r1, r2)) :
    Calls Try.prog 10 #[.agg #[.int .i64 k, .int .i64 n, .int .i64 m, .slice A3 l3.length c3, .slice A4 l4.length c4]] w fun e w' => ∃ v0_ : Value, e = .returned (.tuple #[v0_, .int .i64 r2]) ∧ Kd.R (Kd.int .u8) 5 w' w.heap.size (fun _ => True) v0_ r1 ∧ Below w.heap.size w w' := by
  unfold journal_Bytes.f at h
  by_cases hok : okRec k n m l3 l4 = true
  · rw [if_pos hok, if_pos hok] at h
    cases h
    by_cases hk : k = 1
    · exact bytes_plan k n m A3 c3 l3 A4 c4 l4 w hr3 hc3 hr4 hc4 hok hk
    · exact bytes_pair k n m A3 c3 l3 A4 c4 l4 w hr3 hc3 hr4 hc4 hok hk
  · rw [if_neg hok, if_neg hok] at h
    cases h
    have HR3 := Aside0.mk hr3
    have HR4 := Aside0.mk hr4
    have HCK : Aside0 (journal_Check.f k n m l3 l4 = some 2) := ⟨by unfold journal_Check.f; rw [if_neg hok]⟩
    clear hr3 hr4 hok
    have HB0 : ∀ o, Aside0 (Below w.heap.size w (w.alloc o)) := fun o => ⟨(Below.refl _ _).alloc (Nat.le_refl _) _⟩
    go_enter Try.func10, Try.ntmps10
    go_wp2_with fail
    refine (journal_Check.calls _ _ _ _ _ _ _ _ _ 2 _ (Kd.C_below HR3.out (HB0 _).out) hc3 (Kd.C_below HR4.out (HB0 _).out) hc4 HCK.out).mono ?_
    rintro e w1 ⟨rfl, hb1⟩
    replace hb1 := Aside0.mk (below_then (HB0 _).out (HB0 _).out.size hb1)
    go_wp2_with fail
    go_ret2
    exact ⟨_, rfl, Kd.R_nil _ _ _ _ _, hb1.out⟩
end Go.Proofs.Ytagkgddkpnbfoaa.P
