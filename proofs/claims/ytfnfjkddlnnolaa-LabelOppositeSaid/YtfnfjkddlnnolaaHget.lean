import Derived.Test.YtfnfjkddlnnolaaHval
namespace Go.Proofs.Ytfnfjkddlnnolaa.P
set_option linter.unusedVariables false
set_option linter.unusedSimpArgs false
open Go.RowKit Go.Proofs.YtfnfjkddlnnolaaW.PrintWords Go.Proofs.YtfnfjkddlnnolaaW.PrintLast Go.Proofs.YtfnfjkddlnnolaaW.PrintMore
def findI (p : S43 → Bool) : Nat → List S43 → Int
 | _, [] => -1
 | k, x :: r => if p x = true then (k : Int) else findI p (k + 1) r
theorem findI_on (p : S43 → Bool) (xs : List S43) (k : Nat) (h : k < xs.length) : findI p k (xs.drop k) = if p (rd_T43 xs (k : Int)) = true then (k : Int) else findI p (k + 1) (xs.drop (k + 1)) := by
 have e : xs.drop k = rd_T43 xs (k : Int) :: xs.drop (k + 1) := by
  unfold rd_T43
  rw [Int.toNat_natCast, List.getD_eq_getElem?_getD, List.getElem?_eq_getElem h]
  exact List.drop_eq_getElem_cons h
 rw [e]
 rfl
def keyIs (key : ByteArray) (x : S43) : Bool := x.f0.toList == key.toList
def bearsB (b x : S43) : Bool := x.f0.toList == b.f0.toList && (x.f1.toList == b.f1.toList || x.f1.toList == [42])
theorem get1_calls (x : S43) (key : ByteArray) (pk : Nat) (w : World) (hc : w.heap[pk]? = some (.cells #[.string key] 9 (0, 0))) :
  Calls Try.prog 50 #[.agg #[.string x.f0, .string x.f1], .pointer (some ⟨pk, 0, none⟩)] w fun e w' => e = .returned (.bool (keyIs key x)) ∧ Below w.heap.size w w' := by
 have hu43 := Try.underlying43
 have hpk := blk_lt hc
 have hb : (w.alloc (.cells #[.string x.f0, .string x.f1] 43)).heap[pk]? = some (.cells #[.string key] 9 (0, 0)) := ((below_alloc (Below.refl w.heap.size w) _).block pk hpk).trans hc
 have c0 : (w.alloc (.cells #[.string x.f0, .string x.f1] 43)).cell? ⟨pk, 0, none⟩ = some (.string key) := (blk_cell hb 0).trans rfl
 clear hc hpk hb
 go_enter Try.func50, Try.ntmps50
 go_wp2_with fail
 go_ret
 exact ⟨rfl, below_alloc (Below.refl _ _) _⟩
theorem bears1_calls (x b : S43) (pk : Nat) (w : World) (hc : w.heap[pk]? = some (.cells #[.string b.f0, .string b.f1] 43 (0, 0))) :
  Calls Try.prog 48 #[.agg #[.string x.f0, .string x.f1], .pointer (some ⟨pk, 0, none⟩)] w fun e w' => e = .returned (.bool (bearsB b x)) ∧ Below w.heap.size w w' := by
 have hu43 := Try.underlying43
 have hpk := blk_lt hc
 have hb : (w.alloc (.cells #[.string x.f0, .string x.f1] 43)).heap[pk]? = some (.cells #[.string b.f0, .string b.f1] 43 (0, 0)) := ((below_alloc (Below.refl w.heap.size w) _).block pk hpk).trans hc
 have c0 : (w.alloc (.cells #[.string x.f0, .string x.f1] 43)).cell? ⟨pk, 0, none⟩ = some (.string b.f0) := (blk_cell hb 0).trans rfl
 have c1 : (w.alloc (.cells #[.string x.f0, .string x.f1] 43)).cell? ⟨pk, 1, none⟩ = some (.string b.f1) := (blk_cell hb 1).trans rfl
 clear hc hpk hb
 by_cases h1 : (x.f0.toList == b.f0.toList) = true
 ·by_cases h2 : (x.f1.toList == b.f1.toList) = true
  ·have e : Aside0 (bearsB b x = true) := ⟨by unfold bearsB; rw [h1, h2]; rfl⟩
   go_enter Try.func48, Try.ntmps48
   go_wp2_with fail
   go_ret
   exact ⟨by rw [e.out]; first | rfl | (simp; done), below_alloc (Below.refl _ _) _⟩
  ·have h2' : (x.f1.toList == b.f1.toList) = false := by simpa using h2
   clear h2
   have e : Aside0 (bearsB b x = (x.f1.toList == [42])) := ⟨by unfold bearsB; rw [h1, h2']; simp⟩
   go_enter Try.func48, Try.ntmps48
   go_wp2_with fail
   go_ret
   exact ⟨by rw [e.out]; first | rfl | (simp; done), below_alloc (Below.refl _ _) _⟩
 ·have h1' : (x.f0.toList == b.f0.toList) = false := by simpa using h1
  clear h1
  have e : Aside0 (bearsB b x = false) := ⟨by unfold bearsB; rw [h1']; rfl⟩
  go_enter Try.func48, Try.ntmps48
  go_wp2_with fail
  go_ret
  exact ⟨by rw [e.out]; first | rfl | (simp; done), below_alloc (Below.refl _ _) _⟩
set_option maxRecDepth 100000 in
set_option maxHeartbeats 800000 in
theorem idx50_calls (A0 : Option Addr) (c0 : Nat) (xs : List S43) (key : ByteArray) (pk : Nat) (w : World) (hr : Kd.C k43 w A0 xs.length xs) (hc : xs.length ≤ c0) (hk : w.heap[pk]? = some (.cells #[.string key] 9 (0, 0))) :
  Calls Try.prog 49 #[.slice A0 xs.length c0, .func (.func 50) #[] #[.pointer (some ⟨pk, 0, none⟩)]] w fun e w' => e = .returned (.int .i64 (findI (keyIs key) 0 xs)) ∧ Below w.heap.size w w' := by
 have hu43 := Try.underlying43
 have hm := Kd.C_max hr
 have hpk := blk_lt hk
 have HR := Aside0.mk (And.intro hr (And.intro hc (And.intro hk hpk)))
 clear hr hc hk hpk
 obtain ⟨res, hres⟩ : ∃ res, findI (keyIs key) 0 xs = res := ⟨_, rfl⟩
 have H0 := Aside0.mk hres
 rw [hres]
 clear hres
 go_enter Try.func49, Try.ntmps49
 go_wp2_with fail
 go_loopw [8] (fun v wr => ∃ k : Nat, k ≤ xs.length ∧ v = .int .i64 k ∧ Aside0 (findI (keyIs key) k (xs.drop k) = res) ∧ Aside0 (Below w.heap.size w wr)) (fun v _ => xs.length - (intOf v).toNat)
 case atStart => exact ⟨0, Nat.zero_le _, rfl, H0, ⟨Below.refl _ _⟩⟩
 case round =>
  obtain ⟨k, hk, rfl, HF, HB⟩ := hrel
  by_cases hlt : k < xs.length
  ·have hf := HF.out
   rw [findI_on _ _ _ hlt] at hf
   have HF1 := Aside0.mk hf
   clear hf HF
   obtain ⟨ad, rfl, l0_, l1_⟩ := at_T43 (Kd.C_below HR.out.1 HB.out) (k : Int) (by omega) (by omega)
   rw [Int.toNat_natCast] at l0_ l1_
   generalize rd_T43 xs (k : Int) = x at l0_ l1_ HF1
   go_wp2_with fail
   refine (get1_calls x _ pk _ ((HB.out.block pk HR.out.2.2.2).trans HR.out.2.2.1)).mono ?_
   rintro _ W2 ⟨rfl, hb⟩
   have HB2 := Aside0.mk (below_step HB.out hb)
   clear hb l0_ l1_ HB
   cases hp : keyIs key x with
   | true =>
    have hq : res = (k : Int) := by have := HF1.out; rw [if_pos hp] at this; exact this.symm
    clear HF1 hp
    subst hq
    go_wp2_with fail
    go_ret
    exact ⟨rfl, HB2.out⟩
   | false =>
    have HF2 : Aside0 (findI (keyIs key) (k + 1) (xs.drop (k + 1)) = res) := ⟨by have := HF1.out; rw [if_neg (by rw [hp]; simp)] at this; exact this⟩
    clear HF1 hp
    go_wp2_with fail
    go_roundw
    case rel => exact ⟨k + 1, by omega, by go_num, HF2, HB2⟩
    case measure => simp [intOf]; omega
  ·have hq : res = -1 := by
    have := HF.out
    rw [List.drop_of_length_le (by omega)] at this
    exact this.symm
   subst hq
   clear HF
   go_wp2_with fail
   go_ret
   exact ⟨rfl, HB.out⟩
set_option maxRecDepth 100000 in
set_option maxHeartbeats 800000 in
theorem idx48_calls (A0 : Option Addr) (c0 : Nat) (xs : List S43) (b : S43) (pk : Nat) (w : World) (hr : Kd.C k43 w A0 xs.length xs) (hc : xs.length ≤ c0) (hk : w.heap[pk]? = some (.cells #[.string b.f0, .string b.f1] 43 (0, 0))) :
  Calls Try.prog 49 #[.slice A0 xs.length c0, .func (.func 48) #[] #[.pointer (some ⟨pk, 0, none⟩)]] w fun e w' => e = .returned (.int .i64 (findI (bearsB b) 0 xs)) ∧ Below w.heap.size w w' := by
 have hu43 := Try.underlying43
 have hm := Kd.C_max hr
 have hpk := blk_lt hk
 have HR := Aside0.mk (And.intro hr (And.intro hc (And.intro hk hpk)))
 clear hr hc hk hpk
 obtain ⟨res, hres⟩ : ∃ res, findI (bearsB b) 0 xs = res := ⟨_, rfl⟩
 have H0 := Aside0.mk hres
 rw [hres]
 clear hres
 go_enter Try.func49, Try.ntmps49
 go_wp2_with fail
 go_loopw [8] (fun v wr => ∃ k : Nat, k ≤ xs.length ∧ v = .int .i64 k ∧ Aside0 (findI (bearsB b) k (xs.drop k) = res) ∧ Aside0 (Below w.heap.size w wr)) (fun v _ => xs.length - (intOf v).toNat)
 case atStart => exact ⟨0, Nat.zero_le _, rfl, H0, ⟨Below.refl _ _⟩⟩
 case round =>
  obtain ⟨k, hk, rfl, HF, HB⟩ := hrel
  by_cases hlt : k < xs.length
  ·have hf := HF.out
   rw [findI_on _ _ _ hlt] at hf
   have HF1 := Aside0.mk hf
   clear hf HF
   obtain ⟨ad, rfl, l0_, l1_⟩ := at_T43 (Kd.C_below HR.out.1 HB.out) (k : Int) (by omega) (by omega)
   rw [Int.toNat_natCast] at l0_ l1_
   generalize rd_T43 xs (k : Int) = x at l0_ l1_ HF1
   go_wp2_with fail
   refine (bears1_calls x _ pk _ ((HB.out.block pk HR.out.2.2.2).trans HR.out.2.2.1)).mono ?_
   rintro _ W2 ⟨rfl, hb⟩
   have HB2 := Aside0.mk (below_step HB.out hb)
   clear hb l0_ l1_ HB
   cases hp : bearsB b x with
   | true =>
    have hq : res = (k : Int) := by have := HF1.out; rw [if_pos hp] at this; exact this.symm
    clear HF1 hp
    subst hq
    go_wp2_with fail
    go_ret
    exact ⟨rfl, HB2.out⟩
   | false =>
    have HF2 : Aside0 (findI (bearsB b) (k + 1) (xs.drop (k + 1)) = res) := ⟨by have := HF1.out; rw [if_neg (by rw [hp]; simp)] at this; exact this⟩
    clear HF1 hp
    go_wp2_with fail
    go_roundw
    case rel => exact ⟨k + 1, by omega, by go_num, HF2, HB2⟩
    case measure => simp [intOf]; omega
  ·have hq : res = -1 := by
    have := HF.out
    rw [List.drop_of_length_le (by omega)] at this
    exact this.symm
   subst hq
   clear HF
   go_wp2_with fail
   go_ret
   exact ⟨rfl, HB.out⟩
theorem findI_lt (p : S43 → Bool) : ∀ (xs : List S43) (k : Nat), findI p k xs = -1 ∨ ((k : Int) ≤ findI p k xs ∧ findI p k xs < (k : Int) + xs.length)
 | [], _ => Or.inl rfl
 | x :: r, k => by
  unfold findI
  by_cases h : p x = true
  ·rw [if_pos h]; right; simp only [List.length_cons]; omega
  ·rw [if_neg h]
   rcases findI_lt p r (k + 1) with h1 | h1
   ·exact Or.inl h1
   ·right; simp only [List.length_cons]; omega
def label_Get.f (l : List S43) (key : ByteArray) : Option (ByteArray × Bool) := if findI (keyIs key) 0 l < 0 then some (⟨#[]⟩, false) else some ((rd_T43 l (findI (keyIs key) 0 l)).f1, true)
set_option maxRecDepth 100000 in
set_option maxHeartbeats 800000 in
theorem label_Get.calls (A0 : Option Addr) (c0 : Nat) (l0 : List S43) (a1 : ByteArray) (r1 : ByteArray) (r2 : Bool) (w : World) (hr0 : Kd.C k43 w A0 l0.length l0) (hc0 : l0.length ≤ c0) (h : label_Get.f l0 a1 = some (r1, r2)) :
  Calls Try.prog 21 #[.slice A0 l0.length c0, .string a1] w fun e w' => e = .returned (.tuple #[.string r1, .bool r2]) ∧ Below w.heap.size w w' := by
 have hu43 := Try.underlying43
 have H := Aside0.mk h
 have hm := Kd.C_max hr0
 have HR := Aside0.mk (And.intro hr0 hc0)
 clear h hr0 hc0
 go_enter Try.func21, Try.ntmps21
 go_wp2_with fail
 have hb1 : Below w.heap.size w (w.alloc (.cells #[.string a1] 9)) := below_alloc (Below.refl _ _) _
 refine (idx50_calls A0 c0 l0 a1 w.heap.size _ (Kd.C_below HR.out.1 hb1) HR.out.2 (heap_alloc_new w _)).mono ?_
 rintro _ W2 ⟨rfl, hb⟩
 have HB := Aside0.mk (below_step hb1 hb)
 clear hb hb1
 have hl := findI_lt (keyIs a1) l0 0
 generalize hi : findI (keyIs a1) 0 l0 = i at hl ⊢
 have HI := Aside0.mk hi
 clear hi
 by_cases hn : i < 0
 ·have h1 := H.out
  unfold label_Get.f at h1
  rw [HI.out, if_pos hn] at h1
  cases h1
  clear hl H HI
  go_wp2_with fail
  go_ret2
  exact ⟨rfl, HB.out⟩
 ·have h1 := H.out
  unfold label_Get.f at h1
  rw [HI.out, if_neg hn] at h1
  obtain ⟨x, hx⟩ : ∃ x, rd_T43 l0 i = x := ⟨_, rfl⟩
  rw [hx] at h1
  have HX := Aside0.mk hx
  clear hx
  cases h1
  have i0 : 0 ≤ i := by omega
  have i1 : i < (l0.length : Int) := by rcases hl with h | h <;> simp at * <;> omega
  clear hl H HI
  obtain ⟨ad, rfl, l0_, l1_⟩ := at_T43 (Kd.C_below HR.out.1 HB.out) i i0 i1
  rw [HX.out] at l0_ l1_
  have b0 : decide (i < 0) = false := decide_eq_false hn
  go_wp2_with fail
  go_ret2
  exact ⟨rfl, HB.out⟩
def label_Bears.l (bears : List S43) : List S43 → Bool
 | [] => true
 | x :: r => if 0 ≤ findI (bearsB x) 0 bears then label_Bears.l bears r else false
def label_Bears.f (bears taints : List S43) : Option Bool := some (label_Bears.l bears taints)
theorem bears_on (bears xs : List S43) (k : Nat) (h : k < xs.length) : label_Bears.l bears (xs.drop k) = if 0 ≤ findI (bearsB (rd_T43 xs (k : Int))) 0 bears then label_Bears.l bears (xs.drop (k + 1)) else false := by
 have e : xs.drop k = rd_T43 xs (k : Int) :: xs.drop (k + 1) := by
  unfold rd_T43
  rw [Int.toNat_natCast, List.getD_eq_getElem?_getD, List.getElem?_eq_getElem h]
  exact List.drop_eq_getElem_cons h
 rw [e]
 rfl
set_option maxRecDepth 100000 in
set_option maxHeartbeats 800000 in
theorem contains_calls (A0 : Option Addr) (c0 : Nat) (xs : List S43) (b : S43) (pk : Nat) (w : World) (hr : Kd.C k43 w A0 xs.length xs) (hc : xs.length ≤ c0) (hk : w.heap[pk]? = some (.cells #[.string b.f0, .string b.f1] 43 (0, 0))) :
  Calls Try.prog 47 #[.slice A0 xs.length c0, .func (.func 48) #[] #[.pointer (some ⟨pk, 0, none⟩)]] w fun e w' => e = .returned (.bool (decide (0 ≤ findI (bearsB b) 0 xs))) ∧ Below w.heap.size w w' := by
 have HR := Aside0.mk (And.intro hr (And.intro hc hk))
 clear hr hc hk
 go_enter Try.func47, Try.ntmps47
 go_wp2_with fail
 refine (idx48_calls A0 c0 xs b pk _ HR.out.1 HR.out.2.1 HR.out.2.2).mono ?_
 rintro _ W2 ⟨rfl, hb⟩
 have HB := Aside0.mk hb
 clear hb
 go_wp2_with fail
 go_ret
 exact ⟨by first | rfl | (simp; done), HB.out⟩
set_option maxRecDepth 100000 in
set_option maxHeartbeats 800000 in
theorem label_Bears.calls (A0 : Option Addr) (c0 : Nat) (l0 : List S43) (A1 : Option Addr) (c1 : Nat) (l1 : List S43) (r : Bool) (w : World) (hr0 : Kd.C k43 w A0 l0.length l0) (hc0 : l0.length ≤ c0) (hr1 : Kd.C k43 w A1 l1.length l1) (hc1 : l1.length ≤ c1) (h : label_Bears.f l0 l1 = some r) :
  Calls Try.prog 20 #[.slice A0 l0.length c0, .slice A1 l1.length c1] w fun e w' => e = .returned (.bool r) ∧ Below w.heap.size w w' := by
 have hu43 := Try.underlying43
 have H0 := Aside0.mk (Option.some.inj h)
 have hm := Kd.C_max hr1
 have HR := Aside0.mk (And.intro hr0 (And.intro hc0 (And.intro hr1 hc1)))
 clear h hr0 hc0 hr1 hc1
 go_enter Try.func20, Try.ntmps20
 go_wp2_with fail
 go_loopw [9] (fun v wr => ∃ k : Nat, k ≤ l1.length ∧ v = .int .i64 k ∧ Aside0 (label_Bears.l l0 (l1.drop k) = r) ∧ Aside0 (Below w.heap.size w wr)) (fun v _ => l1.length - (intOf v).toNat)
 case atStart => exact ⟨0, Nat.zero_le _, rfl, H0, ⟨Below.refl _ _⟩⟩
 case round =>
  obtain ⟨k, hk, rfl, HF, HB⟩ := hrel
  by_cases hlt : k < l1.length
  ·have hf := HF.out
   rw [bears_on _ _ _ hlt] at hf
   have HF1 := Aside0.mk hf
   clear hf HF
   obtain ⟨ad, rfl, l0_, l1_⟩ := at_T43 (Kd.C_below HR.out.2.2.1 HB.out) (k : Int) (by omega) (by omega)
   rw [Int.toNat_natCast] at l0_ l1_
   generalize rd_T43 l1 (k : Int) = x at l0_ l1_ HF1
   go_wp2_with fail
   have hb1 : Below wr.heap.size wr (wr.alloc (.cells #[.string x.f0, .string x.f1] 43)) := below_alloc (Below.refl _ _) _
   refine (contains_calls A0 c0 l0 x wr.heap.size _ (Kd.C_below HR.out.1 (below_step HB.out hb1)) HR.out.2.1 (heap_alloc_new wr _)).mono ?_
   rintro _ W2 ⟨rfl, hb⟩
   have HB2 := Aside0.mk (below_step HB.out (below_step hb1 hb))
   clear hb hb1 l0_ l1_ HB
   by_cases hp : 0 ≤ findI (bearsB x) 0 l0
   ·have b0 : decide (0 ≤ findI (bearsB x) 0 l0) = true := decide_eq_true hp
    have HF2 : Aside0 (label_Bears.l l0 (l1.drop (k + 1)) = r) := ⟨by have := HF1.out; rw [if_pos hp] at this; exact this⟩
    rw [b0]
    clear HF1 hp b0
    go_wp2_with fail
    go_roundw
    case rel => exact ⟨k + 1, by omega, by go_num, HF2, HB2⟩
    case measure => simp [intOf]; omega
   ·have b0 : decide (0 ≤ findI (bearsB x) 0 l0) = false := decide_eq_false hp
    have hq : r = false := by have := HF1.out; rw [if_neg hp] at this; exact this.symm
    rw [b0]
    clear HF1 hp b0
    subst hq
    go_wp2_with fail
    go_ret
    exact ⟨rfl, HB2.out⟩
  ·have hq : r = true := by
    have := HF.out
    rw [List.drop_of_length_le (by omega)] at this
    exact this.symm
   subst hq
   clear HF
   go_wp2_with fail
   go_ret
   exact ⟨rfl, HB.out⟩
end Go.Proofs.Ytfnfjkddlnnolaa.P
