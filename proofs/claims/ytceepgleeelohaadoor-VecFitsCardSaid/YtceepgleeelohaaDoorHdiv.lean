import Derived.Test.YtceepgleeelohaaDoorHlib
import Derived.Laws.BitsAllLaws
/- bits.Div64 at the two units of quant. -/
namespace Go.Proofs.YtceepgleeelohaaDoor.P
set_option linter.unusedVariables false
set_option linter.unusedSimpArgs false
open Go.RowKit Go.Proofs.YtceepgleeelohaaDoorW.PrintWords Go.Proofs.YtceepgleeelohaaDoorW.PrintLast Go.Proofs.YtceepgleeelohaaDoorW.PrintMore
theorem w64 (x : Int) : IntKind.u64.wrap x = x % 18446744073709551616 := by
  unfold IntKind.wrap
  simp [IntKind.signed, IntKind.bits]
theorem or_add (a b k : Nat) (hb : b < 2 ^ k) : a * 2 ^ k ||| b = a * 2 ^ k + b := by
  rw [← Nat.shiftLeft_eq, ← Nat.shiftLeft_add_eq_or_of_lt hb]

def dv1000 (hi lo : Int) : Int × Int :=
  let u := hi * 18014398509481984 + lo / 1024
  let q1 := u / 4194304000
  let a := (lo * 18014398509481984) % 18446744073709551616
  let u2 := (u - q1 * 4194304000) * 4294967296 + a / 4294967296
  let q0 := u2 / 4194304000
  (q1 * 4294967296 + q0, ((u2 * 4294967296 + bits .and .u64 a 4294967295 - q0 * 18014398509481984000) % 18446744073709551616) / 18014398509481984)
set_option maxRecDepth 100000 in
set_option maxHeartbeats 3200000 in
theorem div_1000 (hi lo : Int) (w : World) (h0 : 0 < hi) (h1 : hi < 1000) (l0 : 0 ≤ lo) (l1 : lo < 18446744073709551616) :
    Calls Tryd.prog 69 #[.int .u64 hi, .int .u64 lo, .int .u64 1000] w fun e w' => e = .returned (.tuple #[.int .u64 (dv1000 hi lo).1, .int .u64 (dv1000 hi lo).2]) ∧ Below w.heap.size w w' := by
  have i1 : decide (1000 ≤ hi) = false := decide_eq_false (by omega)
  have i2 : (hi == 0) = false := by rw [beq_eq_false_iff_ne]; omega
  obtain ⟨u, hu⟩ : ∃ u, hi * 18014398509481984 + lo / 1024 = u := ⟨_, rfl⟩
  have hu0 : 0 ≤ u ∧ u < 18014398509481984000 := by omega
  have e1 : bits .or .u64 (hi * 18014398509481984) (lo / 1024) = u := by
    rw [u64_or _ _ (by omega) (by omega) (by omega) (by omega), ← hu]
    have hn := or_add hi.toNat (lo / 1024).toNat 54 (by omega)
    have ha : (hi * 18014398509481984).toNat = hi.toNat * 2 ^ 54 := by
      obtain ⟨m, rfl⟩ := Int.eq_ofNat_of_zero_le (Int.le_of_lt h0)
      omega
    rw [ha, hn]
    omega
  obtain ⟨q1, hq1⟩ : ∃ q1, u / 4194304000 = q1 := ⟨_, rfl⟩
  have hq10 : 0 ≤ q1 ∧ q1 < 4294967296 := by omega
  have e2 : IntKind.u64.wrap (u.tdiv 4194304000) = q1 := by
    rw [w64, Int.tdiv_eq_ediv_of_nonneg hu0.1]
    omega
  obtain ⟨rh, hrh⟩ : ∃ rh, u - q1 * 4194304000 = rh := ⟨_, rfl⟩
  have hrh0 : 0 ≤ rh ∧ rh < 4194304000 := by omega
  have e3 : IntKind.u64.wrap (u - IntKind.u64.wrap (q1 * 4194304000)) = rh := by
    rw [w64, w64]
    omega
  obtain ⟨a, ha⟩ : ∃ a, (lo * 18014398509481984) % 18446744073709551616 = a := ⟨_, rfl⟩
  have ha0 : 0 ≤ a ∧ a < 18446744073709551616 := by omega
  have e4 : IntKind.u64.wrap (lo * 18014398509481984) = a := by rw [w64]; exact ha
  have e5 : bits .and .u64 18014398509481984000 4294967295 = 0 := by decide
  obtain ⟨u0, hu0e⟩ : ∃ u0, bits .and .u64 a 4294967295 = u0 := ⟨_, rfl⟩
  obtain ⟨u1, hu1⟩ : ∃ u1, a / 4294967296 = u1 := ⟨_, rfl⟩
  have hu10 : 0 ≤ u1 ∧ u1 < 4294967296 := by omega
  obtain ⟨u2, hu2⟩ : ∃ u2, rh * 4294967296 + u1 = u2 := ⟨_, rfl⟩
  have hu20 : 0 ≤ u2 ∧ u2 < 18014398509481984000 := by omega
  have e6 : IntKind.u64.wrap (IntKind.u64.wrap (IntKind.u64.wrap (u * 4294967296) + u1) - IntKind.u64.wrap (q1 * 18014398509481984000)) = u2 := by
    rw [w64, w64, w64, w64]
    omega
  obtain ⟨q0, hq0⟩ : ∃ q0, u2 / 4194304000 = q0 := ⟨_, rfl⟩
  have hq00 : 0 ≤ q0 ∧ q0 < 4294967296 := by omega
  have e7 : IntKind.u64.wrap (u2.tdiv 4194304000) = q0 := by
    rw [w64, Int.tdiv_eq_ediv_of_nonneg hu20.1]
    omega
  obtain ⟨rh2, hrh2⟩ : ∃ rh2, IntKind.u64.wrap (u2 - IntKind.u64.wrap (q0 * 4194304000)) = rh2 := ⟨_, rfl⟩
  have e8 : IntKind.u64.wrap (IntKind.u64.wrap (q1 * 4294967296) + q0) = q1 * 4294967296 + q0 := by
    rw [w64, w64]
    omega
  obtain ⟨rr, hrr⟩ : ∃ rr, IntKind.u64.wrap (IntKind.u64.wrap (IntKind.u64.wrap (u2 * 4294967296) + u0) - IntKind.u64.wrap (q0 * 18014398509481984000)) = rr := ⟨_, rfl⟩
  have hres : dv1000 hi lo = (q1 * 4294967296 + q0, rr / 18014398509481984) := by
    unfold dv1000
    dsimp only
    rw [hu, hq1, hrh, ha, hu1, hu2, hq0, hu0e, ← hrr, w64, w64, w64, w64]
    congr 2
    omega
  have j1 : decide (4294967296 ≤ q1) = false := decide_eq_false (by omega)
  have j2 : decide (4294967296 ≤ q0) = false := decide_eq_false (by omega)
  obtain ⟨k1, hk1⟩ : ∃ k1, IntKind.u64.wrap (IntKind.u64.wrap (4294967296 * rh) + u1) = k1 := ⟨_, rfl⟩
  have hk10 : decide (k1 < 0) = false := decide_eq_false (by rw [← hk1, w64]; omega)
  obtain ⟨k2, hk2⟩ : ∃ k2, IntKind.u64.wrap (IntKind.u64.wrap (4294967296 * rh2) + u0) = k2 := ⟨_, rfl⟩
  have hk20 : decide (k2 < 0) = false := decide_eq_false (by rw [← hk2, w64]; omega)
  rw [hres]
  obtain ⟨qq, hqq⟩ : ∃ qq, q1 * 4294967296 + q0 = qq := ⟨_, rfl⟩
  rw [hqq] at e8 ⊢
  clear hres hu hq1 hrh ha hu2 hq0 hqq hu0 hq10 hrh0 ha0 hu10 hu20 hq00
  go_enter Tryd.func69, Tryd.ntmps69
  go_wp2_with fail
  refine (Tryd.bits_LeadingZeros64 1000 w (by decide) (by decide)).mono ?_
  rintro _ W2 ⟨rfl, hW⟩
  rw [hW]
  clear hW
  have e : (64 - ((Lib.bitLen (1000 : Int).toNat : Nat) : Int)) = 54 := by decide
  rw [e]
  go_upto_region 17 with (fail)
  go_loopw [15, 16] (fun v1 v2 wr => v1 = .int .u64 q1 ∧ v2 = .int .u64 rh ∧ wr = w) (fun _ _ _ => 0)
  case atStart => exact ⟨rfl, rfl, rfl⟩
  case round =>
    obtain ⟨rfl, rfl, hwe⟩ := hrel
    have hwe2 := hwe.symm
    clear hwe
    subst hwe2
    go_upto_region 24 with (fail)
    go_loopw [16, 18] (fun v1 v2 wr => v1 = .int .u64 rh2 ∧ v2 = .int .u64 q0 ∧ wr = w) (fun _ _ _ => 0)
    case atStart => exact ⟨rfl, rfl, rfl⟩
    case round =>
      obtain ⟨rfl, rfl, rfl⟩ := hrel
      go_wp2_with fail
      go_ret2
      exact ⟨rfl, Below.refl _ _⟩

def dv1000000 (hi lo : Int) : Int × Int :=
  let u := hi * 17592186044416 + lo / 1048576
  let q1 := u / 4096000000
  let a := (lo * 17592186044416) % 18446744073709551616
  let u2 := (u - q1 * 4096000000) * 4294967296 + a / 4294967296
  let q0 := u2 / 4096000000
  (q1 * 4294967296 + q0, ((u2 * 4294967296 + bits .and .u64 a 4294967295 - q0 * 17592186044416000000) % 18446744073709551616) / 17592186044416)
set_option maxRecDepth 100000 in
set_option maxHeartbeats 3200000 in
theorem div_1000000 (hi lo : Int) (w : World) (h0 : 0 < hi) (h1 : hi < 1000000) (l0 : 0 ≤ lo) (l1 : lo < 18446744073709551616) :
    Calls Tryd.prog 69 #[.int .u64 hi, .int .u64 lo, .int .u64 1000000] w fun e w' => e = .returned (.tuple #[.int .u64 (dv1000000 hi lo).1, .int .u64 (dv1000000 hi lo).2]) ∧ Below w.heap.size w w' := by
  have i1 : decide (1000000 ≤ hi) = false := decide_eq_false (by omega)
  have i2 : (hi == 0) = false := by rw [beq_eq_false_iff_ne]; omega
  obtain ⟨u, hu⟩ : ∃ u, hi * 17592186044416 + lo / 1048576 = u := ⟨_, rfl⟩
  have hu0 : 0 ≤ u ∧ u < 17592186044416000000 := by omega
  have e1 : bits .or .u64 (hi * 17592186044416) (lo / 1048576) = u := by
    rw [u64_or _ _ (by omega) (by omega) (by omega) (by omega), ← hu]
    have hn := or_add hi.toNat (lo / 1048576).toNat 44 (by omega)
    have ha : (hi * 17592186044416).toNat = hi.toNat * 2 ^ 44 := by
      obtain ⟨m, rfl⟩ := Int.eq_ofNat_of_zero_le (Int.le_of_lt h0)
      omega
    rw [ha, hn]
    omega
  obtain ⟨q1, hq1⟩ : ∃ q1, u / 4096000000 = q1 := ⟨_, rfl⟩
  have hq10 : 0 ≤ q1 ∧ q1 < 4294967296 := by omega
  have e2 : IntKind.u64.wrap (u.tdiv 4096000000) = q1 := by
    rw [w64, Int.tdiv_eq_ediv_of_nonneg hu0.1]
    omega
  obtain ⟨rh, hrh⟩ : ∃ rh, u - q1 * 4096000000 = rh := ⟨_, rfl⟩
  have hrh0 : 0 ≤ rh ∧ rh < 4096000000 := by omega
  have e3 : IntKind.u64.wrap (u - IntKind.u64.wrap (q1 * 4096000000)) = rh := by
    rw [w64, w64]
    omega
  obtain ⟨a, ha⟩ : ∃ a, (lo * 17592186044416) % 18446744073709551616 = a := ⟨_, rfl⟩
  have ha0 : 0 ≤ a ∧ a < 18446744073709551616 := by omega
  have e4 : IntKind.u64.wrap (lo * 17592186044416) = a := by rw [w64]; exact ha
  have e5 : bits .and .u64 17592186044416000000 4294967295 = 0 := by decide
  obtain ⟨u0, hu0e⟩ : ∃ u0, bits .and .u64 a 4294967295 = u0 := ⟨_, rfl⟩
  obtain ⟨u1, hu1⟩ : ∃ u1, a / 4294967296 = u1 := ⟨_, rfl⟩
  have hu10 : 0 ≤ u1 ∧ u1 < 4294967296 := by omega
  obtain ⟨u2, hu2⟩ : ∃ u2, rh * 4294967296 + u1 = u2 := ⟨_, rfl⟩
  have hu20 : 0 ≤ u2 ∧ u2 < 17592186044416000000 := by omega
  have e6 : IntKind.u64.wrap (IntKind.u64.wrap (IntKind.u64.wrap (u * 4294967296) + u1) - IntKind.u64.wrap (q1 * 17592186044416000000)) = u2 := by
    rw [w64, w64, w64, w64]
    omega
  obtain ⟨q0, hq0⟩ : ∃ q0, u2 / 4096000000 = q0 := ⟨_, rfl⟩
  have hq00 : 0 ≤ q0 ∧ q0 < 4294967296 := by omega
  have e7 : IntKind.u64.wrap (u2.tdiv 4096000000) = q0 := by
    rw [w64, Int.tdiv_eq_ediv_of_nonneg hu20.1]
    omega
  obtain ⟨rh2, hrh2⟩ : ∃ rh2, IntKind.u64.wrap (u2 - IntKind.u64.wrap (q0 * 4096000000)) = rh2 := ⟨_, rfl⟩
  have e8 : IntKind.u64.wrap (IntKind.u64.wrap (q1 * 4294967296) + q0) = q1 * 4294967296 + q0 := by
    rw [w64, w64]
    omega
  obtain ⟨rr, hrr⟩ : ∃ rr, IntKind.u64.wrap (IntKind.u64.wrap (IntKind.u64.wrap (u2 * 4294967296) + u0) - IntKind.u64.wrap (q0 * 17592186044416000000)) = rr := ⟨_, rfl⟩
  have hres : dv1000000 hi lo = (q1 * 4294967296 + q0, rr / 17592186044416) := by
    unfold dv1000000
    dsimp only
    rw [hu, hq1, hrh, ha, hu1, hu2, hq0, hu0e, ← hrr, w64, w64, w64, w64]
    congr 2
    omega
  have j1 : decide (4294967296 ≤ q1) = false := decide_eq_false (by omega)
  have j2 : decide (4294967296 ≤ q0) = false := decide_eq_false (by omega)
  obtain ⟨k1, hk1⟩ : ∃ k1, IntKind.u64.wrap (IntKind.u64.wrap (4294967296 * rh) + u1) = k1 := ⟨_, rfl⟩
  have hk10 : decide (k1 < 0) = false := decide_eq_false (by rw [← hk1, w64]; omega)
  obtain ⟨k2, hk2⟩ : ∃ k2, IntKind.u64.wrap (IntKind.u64.wrap (4294967296 * rh2) + u0) = k2 := ⟨_, rfl⟩
  have hk20 : decide (k2 < 0) = false := decide_eq_false (by rw [← hk2, w64]; omega)
  rw [hres]
  obtain ⟨qq, hqq⟩ : ∃ qq, q1 * 4294967296 + q0 = qq := ⟨_, rfl⟩
  rw [hqq] at e8 ⊢
  clear hres hu hq1 hrh ha hu2 hq0 hqq hu0 hq10 hrh0 ha0 hu10 hu20 hq00
  go_enter Tryd.func69, Tryd.ntmps69
  go_wp2_with fail
  refine (Tryd.bits_LeadingZeros64 1000000 w (by decide) (by decide)).mono ?_
  rintro _ W2 ⟨rfl, hW⟩
  rw [hW]
  clear hW
  have e : (64 - ((Lib.bitLen (1000000 : Int).toNat : Nat) : Int)) = 44 := by decide
  rw [e]
  go_upto_region 17 with (fail)
  go_loopw [15, 16] (fun v1 v2 wr => v1 = .int .u64 q1 ∧ v2 = .int .u64 rh ∧ wr = w) (fun _ _ _ => 0)
  case atStart => exact ⟨rfl, rfl, rfl⟩
  case round =>
    obtain ⟨rfl, rfl, hwe⟩ := hrel
    have hwe2 := hwe.symm
    clear hwe
    subst hwe2
    go_upto_region 24 with (fail)
    go_loopw [16, 18] (fun v1 v2 wr => v1 = .int .u64 rh2 ∧ v2 = .int .u64 q0 ∧ wr = w) (fun _ _ _ => 0)
    case atStart => exact ⟨rfl, rfl, rfl⟩
    case round =>
      obtain ⟨rfl, rfl, rfl⟩ := hrel
      go_wp2_with fail
      go_ret2
      exact ⟨rfl, Below.refl _ _⟩

set_option maxRecDepth 100000 in
set_option maxHeartbeats 3200000 in
theorem div_zero (lo y : Int) (w : World) (l0 : 0 ≤ lo) (l1 : lo < 18446744073709551616) (y0 : 0 < y) (y1 : y < 18446744073709551616) :
    Calls Tryd.prog 69 #[.int .u64 0, .int .u64 lo, .int .u64 y] w fun e w' => e = .returned (.tuple #[.int .u64 (lo / y), .int .u64 (lo % y)]) ∧ Below w.heap.size w w' := by
  have i1 : (y == 0) = false := by rw [beq_eq_false_iff_ne]; omega
  have i2 : decide (y ≤ 0) = false := decide_eq_false (by omega)
  have i3 : (y = 0) = False := eq_false (by omega)
  have hd : 0 ≤ lo / y ∧ lo / y ≤ lo := ⟨Int.ediv_nonneg l0 (by omega), Int.ediv_le_self _ l0⟩
  have hm : 0 ≤ lo % y ∧ lo % y < y := ⟨Int.emod_nonneg _ (by omega), Int.emod_lt_of_pos _ y0⟩
  have e1 : IntKind.u64.wrap (lo.tdiv y) = lo / y := by rw [w64, Int.tdiv_eq_ediv_of_nonneg l0]; omega
  have e2 : IntKind.u64.wrap (lo.tmod y) = lo % y := by rw [w64, Int.tmod_eq_emod_of_nonneg l0]; omega
  have e2' : lo.tmod y = lo % y := Int.tmod_eq_emod_of_nonneg l0
  generalize lo / y = d at *
  generalize lo % y = m at *
  clear l0 l1 y0 y1 hd hm
  have HB : Aside0 (Below w.heap.size w w.drew) := ⟨below_drew1 (Below.refl _ _)⟩
  go_enter Tryd.func69, Tryd.ntmps69
  go_wp2_with fail
  refine start_ (n := 8) (S := fun w' => True) (ds := []) #[false, false, false, false, false, false, false, false] (by kernel_rfl) rfl rfl trivial (fun hHeld => ?_)
  refine pure_ (i := 0) (N := some 28) (v := ?_) (a' := ?_) #[true, false, false, false, false, false, false, false] rfl rfl (by kernel_rfl) (fun _ _ _ h => h) (Or.inl ⟨by rfl, ?_⟩) ?_ ?_
  rotate_left
  · intro w'
    go_simp
    with_reducible rfl
  rotate_left
  · simp only [Act.put, List.setIfInBounds_toArray, List.set_cons_zero, List.set_cons_succ, i64_w, i32_w]
    rfl
  refine pure_ (i := 1) (N := some 29) (v := ?_) (a' := ?_) #[true, true, false, false, false, false, false, false] rfl rfl (by kernel_rfl) (fun _ _ _ h => h) (Or.inl ⟨by rfl, ?_⟩) ?_ ?_
  rotate_left
  · intro w'
    go_simp
    with_reducible rfl
  rotate_left
  · simp only [Act.put, List.setIfInBounds_toArray, List.set_cons_zero, List.set_cons_succ, i64_w, i32_w]
    rfl
  refine pure_ (i := 2) (N := some 30) (v := ?_) (a' := ?_) #[true, true, true, false, false, false, false, false] rfl rfl (by kernel_rfl) (fun _ _ _ h => h) (Or.inl ⟨by rfl, ?_⟩) ?_ ?_
  rotate_left
  · intro w'
    go_simp
    with_reducible rfl
  rotate_left
  · simp only [Act.put, List.setIfInBounds_toArray, List.set_cons_zero, List.set_cons_succ, i64_w, i32_w]
    rfl
  refine pure_ (i := 3) (N := some 31) (v := ?_) (a' := ?_) #[true, true, true, true, false, false, false, false] rfl rfl (by kernel_rfl) (fun _ _ _ h => h) (Or.inl ⟨by rfl, ?_⟩) ?_ ?_
  rotate_left
  · intro w'
    go_simp
    with_reducible rfl
  rotate_left
  · simp only [Act.put, List.setIfInBounds_toArray, List.set_cons_zero, List.set_cons_succ, i64_w, i32_w]
    rfl
  refine pure_ (i := 4) (N := some 32) (v := ?_) (a' := ?_) #[true, true, true, true, true, false, false, false] rfl rfl (by kernel_rfl) (fun _ _ _ h => h) (Or.inl ⟨by rfl, ?_⟩) ?_ ?_
  rotate_left
  · intro w'
    go_simp
    with_reducible rfl
  rotate_left
  · simp only [Act.put, List.setIfInBounds_toArray, List.set_cons_zero, List.set_cons_succ, i64_w, i32_w]
    rfl
  refine pure_ (i := 5) (N := some 33) (v := ?_) (a' := ?_) #[true, true, true, true, true, true, false, false] rfl rfl (by kernel_rfl) (fun _ _ _ h => h) (Or.inl ⟨by rfl, ?_⟩) ?_ ?_
  rotate_left
  · intro w'
    go_simp
    with_reducible rfl
  rotate_left
  · simp only [Act.put, List.setIfInBounds_toArray, List.set_cons_zero, List.set_cons_succ, i64_w, i32_w]
    rfl
  refine pure_ (i := 6) (N := some 6) (v := ?_) (a' := ?_) #[true, true, true, true, true, true, true, false] rfl rfl (by kernel_rfl) (fun _ _ _ h => h) (Or.inl ⟨by rfl, ?_⟩) ?_ ?_
  rotate_left
  · intro w'
    go_simp
    with_reducible rfl
  rotate_left
  · simp only [Act.put, List.setIfInBounds_toArray, List.set_cons_zero, List.set_cons_succ, i64_w, i32_w]
    rfl
  refine pure_ (i := 7) (N := some 7) (v := ?_) (a' := ?_) #[true, true, true, true, true, true, true, true] rfl rfl (by kernel_rfl) (fun _ _ _ h => h) (Or.inl ⟨by rfl, ?_⟩) ?_ ?_
  rotate_left
  · intro w'
    go_simp
    with_reducible rfl
  rotate_left
  · simp only [Act.put, List.setIfInBounds_toArray, List.set_cons_zero, List.set_cons_succ, i64_w, i32_w]
    rfl
  refine done_ (by kernel_rfl) ?_
  go_wp2_with fail
  go_ret2
  exact ⟨rfl, HB.out⟩
/-- what Div64 answers at the units -/
def divP (hi lo y : Int) : Int × Int := if hi = 0 then (lo / y, lo % y) else if y = 1000 then dv1000 hi lo else dv1000000 hi lo
def bits_Div64.f (hi lo y : Int) : Option (Int × Int) := if (y = 1000 ∨ y = 1000000) ∧ 0 ≤ hi ∧ hi < y ∧ 0 ≤ lo ∧ lo < 18446744073709551616 then some (divP hi lo y) else none
theorem bits_Div64.calls (hi lo y : Int) (r1 r2 : Int) (w : World) (h : bits_Div64.f hi lo y = some (r1, r2)) :
    Calls Tryd.prog 69 #[.int .u64 hi, .int .u64 lo, .int .u64 y] w fun e w' => e = .returned (.tuple #[.int .u64 r1, .int .u64 r2]) ∧ Below w.heap.size w w' := by
  unfold bits_Div64.f at h
  split at h
  · rename_i hc
    obtain ⟨hy, h0, h1, l0, l1⟩ := hc
    injection h with h
    have e1 : r1 = (divP hi lo y).1 := by rw [h]
    have e2 : r2 = (divP hi lo y).2 := by rw [h]
    rw [e1, e2]
    clear h e1 e2
    unfold divP
    by_cases hz : hi = 0
    · rw [if_pos hz]
      subst hz
      exact div_zero lo y w l0 l1 (by omega) (by omega)
    · rw [if_neg hz]
      rcases hy with rfl | rfl
      · rw [if_pos rfl]
        exact div_1000 hi lo w (by omega) h1 l0 l1
      · rw [if_neg (by decide)]
        exact div_1000000 hi lo w (by omega) h1 l0 l1
  · cases h

end Go.Proofs.YtceepgleeelohaaDoor.P
