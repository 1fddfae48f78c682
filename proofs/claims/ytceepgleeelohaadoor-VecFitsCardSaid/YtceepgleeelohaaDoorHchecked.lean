import Derived.Test.YtceepgleeelohaaDoorPf52
import Derived.Test.YtceepgleeelohaaDoorPf71
/- quant.checked: are all numbers quantities? -/
namespace Go.Proofs.YtceepgleeelohaaDoor.P
set_option linter.unusedVariables false
set_option linter.unusedSimpArgs false
open Go.RowKit Go.Proofs.YtceepgleeelohaaDoorW.PrintWords Go.Proofs.YtceepgleeelohaaDoorW.PrintLast Go.Proofs.YtceepgleeelohaaDoorW.PrintMore
/-- the first index at which a test holds, or -1 -/
def findI {α : Type} (p : α → Bool) : Nat → List α → Int
  | _, [] => -1
  | k, x :: r => if p x = true then (k : Int) else findI p (k + 1) r
theorem findI_on {α : Type} (p : α → Bool) (xs : List α) (k : Nat) (h : k < xs.length) : findI p k (xs.drop k) = if p xs[k] = true then (k : Int) else findI p (k + 1) (xs.drop (k + 1)) := by
  rw [List.drop_eq_getElem_cons h]
  rfl
theorem findI_any {α : Type} (p : α → Bool) : ∀ (l : List α) (k : Nat), decide (0 ≤ findI p k l) = l.any p
  | [], k => rfl
  | x :: r, k => by
    unfold findI
    rw [List.any_cons]
    cases p x with
    | true => rw [if_pos rfl, decide_eq_true (by omega)]; rfl
    | false => rw [if_neg (by decide), findI_any p r (k + 1), Bool.false_or]
theorem rd_get (xs : List Int) (i : Nat) (h : i < xs.length) : rd xs (i : Int) = xs[i] := by
  unfold rd
  rw [Int.toNat_natCast, List.getD_eq_getElem?_getD, List.getElem?_eq_getElem h]
  rfl
def belowB : Int → Bool := fun x : Int => decide (x < 0)
theorem below_f (x : Int) : quant_below.f x = some (belowB x) := rfl
set_option maxRecDepth 100000 in
set_option maxHeartbeats 800000 in
theorem idx_below (A0 : Option Addr) (c0 : Nat) (xs : List Int) (w : World) (hr : Kd.C (Kd.int .i64) w A0 xs.length xs) (hc : xs.length ≤ c0) :
    Calls Tryd.prog 83 #[.slice A0 xs.length c0, .func (.func 71) #[] #[]] w fun e w' => e = .returned (.int .i64 (findI belowB 0 xs)) ∧ Below w.heap.size w w' := by
  have hm := Kd.C_max hr
  have HR := Aside0.mk (And.intro hr hc)
  clear hr hc
  obtain ⟨res, hres⟩ : ∃ res, findI belowB 0 xs = res := ⟨_, rfl⟩
  have H0 := Aside0.mk hres
  rw [hres]
  clear hres
  go_enter Tryd.func83, Tryd.ntmps83
  go_wp2_with fail
  go_loopw [8] (fun v wr => ∃ k : Nat, k ≤ xs.length ∧ v = .int .i64 k ∧ Aside0 (findI belowB k (xs.drop k) = res) ∧ Aside0 (Below w.heap.size w wr)) (fun v _ => xs.length - (intOf v).toNat)
  case atStart => exact ⟨0, Nat.zero_le _, rfl, H0, ⟨Below.refl _ _⟩⟩
  case round =>
    obtain ⟨k, hk, rfl, HF, HB⟩ := hrel
    by_cases hlt : k < xs.length
    · have hf := HF.out
      rw [findI_on _ _ _ hlt] at hf
      have HF1 := Aside0.mk hf
      clear hf HF
      obtain ⟨ad, rfl, l0_⟩ := Kd.at_int (Kd.C_below HR.out.1 HB.out) (k : Int) (by omega) (by omega)
      rw [Int.toNat_natCast, rd_get xs k hlt] at l0_
      generalize xs[k] = x at l0_ HF1
      go_wp2_with fail
      refine (quant_below.calls x _ _ (below_f x)).mono ?_
      rintro _ W2 ⟨rfl, hb⟩
      have HB2 := Aside0.mk (below_step HB.out hb.below)
      clear hb l0_ HB
      cases hp : belowB x with
      | true =>
        have hq : res = (k : Int) := by have := HF1.out; rw [if_pos hp] at this; exact this.symm
        clear HF1 hp
        subst hq
        go_wp2_with fail
        go_ret
        exact ⟨rfl, HB2.out⟩
      | false =>
        have HF2 : Aside0 (findI belowB (k + 1) (xs.drop (k + 1)) = res) := ⟨by have := HF1.out; rw [if_neg (by rw [hp]; simp)] at this; exact this⟩
        clear HF1 hp
        go_wp2_with fail
        go_roundw
        case rel => exact ⟨k + 1, by omega, by go_num, HF2, HB2⟩
        case measure => simp [intOf]; omega
    · have hq : res = -1 := by
        have := HF.out
        rw [List.drop_of_length_le (by omega)] at this
        exact this.symm
      subst hq
      clear HF
      go_wp2_with fail
      go_ret
      exact ⟨rfl, HB.out⟩
theorem has_below (A0 : Option Addr) (c0 : Nat) (xs : List Int) (w : World) (hr : Kd.C (Kd.int .i64) w A0 xs.length xs) (hc : xs.length ≤ c0) :
    Calls Tryd.prog 70 #[.slice A0 xs.length c0, .func (.func 71) #[] #[]] w fun e w' => e = .returned (.bool (xs.any belowB)) ∧ Below w.heap.size w w' := by
  have HR := Aside0.mk (And.intro hr hc)
  clear hr hc
  obtain ⟨res, hres⟩ : ∃ res, xs.any belowB = res := ⟨_, rfl⟩
  have hfa := findI_any belowB xs 0
  rw [hres] at hfa ⊢
  have HA := Aside0.mk hfa
  clear hres hfa
  go_enter Tryd.func70, Tryd.ntmps70
  go_wp2_with fail
  refine (idx_below A0 c0 xs _ HR.out.1 HR.out.2).mono ?_
  rintro _ W2 ⟨rfl, hb⟩
  have HB := Aside0.mk hb
  clear hb
  generalize findI belowB 0 xs = i at HA ⊢
  go_wp2_with fail
  go_ret
  exact ⟨by rw [← HA.out]; first | rfl | (congr 2; apply decide_eq_decide.2; constructor <;> intro h <;> omega), HB.out⟩
def aboveB : Int → Bool := fun x : Int => decide (x > 1099511627776)
theorem above_f (x : Int) : quant_above.f x = some (aboveB x) := rfl
set_option maxRecDepth 100000 in
set_option maxHeartbeats 800000 in
theorem idx_above (A0 : Option Addr) (c0 : Nat) (xs : List Int) (w : World) (hr : Kd.C (Kd.int .i64) w A0 xs.length xs) (hc : xs.length ≤ c0) :
    Calls Tryd.prog 83 #[.slice A0 xs.length c0, .func (.func 52) #[] #[]] w fun e w' => e = .returned (.int .i64 (findI aboveB 0 xs)) ∧ Below w.heap.size w w' := by
  have hm := Kd.C_max hr
  have HR := Aside0.mk (And.intro hr hc)
  clear hr hc
  obtain ⟨res, hres⟩ : ∃ res, findI aboveB 0 xs = res := ⟨_, rfl⟩
  have H0 := Aside0.mk hres
  rw [hres]
  clear hres
  go_enter Tryd.func83, Tryd.ntmps83
  go_wp2_with fail
  go_loopw [8] (fun v wr => ∃ k : Nat, k ≤ xs.length ∧ v = .int .i64 k ∧ Aside0 (findI aboveB k (xs.drop k) = res) ∧ Aside0 (Below w.heap.size w wr)) (fun v _ => xs.length - (intOf v).toNat)
  case atStart => exact ⟨0, Nat.zero_le _, rfl, H0, ⟨Below.refl _ _⟩⟩
  case round =>
    obtain ⟨k, hk, rfl, HF, HB⟩ := hrel
    by_cases hlt : k < xs.length
    · have hf := HF.out
      rw [findI_on _ _ _ hlt] at hf
      have HF1 := Aside0.mk hf
      clear hf HF
      obtain ⟨ad, rfl, l0_⟩ := Kd.at_int (Kd.C_below HR.out.1 HB.out) (k : Int) (by omega) (by omega)
      rw [Int.toNat_natCast, rd_get xs k hlt] at l0_
      generalize xs[k] = x at l0_ HF1
      go_wp2_with fail
      refine (quant_above.calls x _ _ (above_f x)).mono ?_
      rintro _ W2 ⟨rfl, hb⟩
      have HB2 := Aside0.mk (below_step HB.out hb.below)
      clear hb l0_ HB
      cases hp : aboveB x with
      | true =>
        have hq : res = (k : Int) := by have := HF1.out; rw [if_pos hp] at this; exact this.symm
        clear HF1 hp
        subst hq
        go_wp2_with fail
        go_ret
        exact ⟨rfl, HB2.out⟩
      | false =>
        have HF2 : Aside0 (findI aboveB (k + 1) (xs.drop (k + 1)) = res) := ⟨by have := HF1.out; rw [if_neg (by rw [hp]; simp)] at this; exact this⟩
        clear HF1 hp
        go_wp2_with fail
        go_roundw
        case rel => exact ⟨k + 1, by omega, by go_num, HF2, HB2⟩
        case measure => simp [intOf]; omega
    · have hq : res = -1 := by
        have := HF.out
        rw [List.drop_of_length_le (by omega)] at this
        exact this.symm
      subst hq
      clear HF
      go_wp2_with fail
      go_ret
      exact ⟨rfl, HB.out⟩
theorem has_above (A0 : Option Addr) (c0 : Nat) (xs : List Int) (w : World) (hr : Kd.C (Kd.int .i64) w A0 xs.length xs) (hc : xs.length ≤ c0) :
    Calls Tryd.prog 70 #[.slice A0 xs.length c0, .func (.func 52) #[] #[]] w fun e w' => e = .returned (.bool (xs.any aboveB)) ∧ Below w.heap.size w w' := by
  have HR := Aside0.mk (And.intro hr hc)
  clear hr hc
  obtain ⟨res, hres⟩ : ∃ res, xs.any aboveB = res := ⟨_, rfl⟩
  have hfa := findI_any aboveB xs 0
  rw [hres] at hfa ⊢
  have HA := Aside0.mk hfa
  clear hres hfa
  go_enter Tryd.func70, Tryd.ntmps70
  go_wp2_with fail
  refine (idx_above A0 c0 xs _ HR.out.1 HR.out.2).mono ?_
  rintro _ W2 ⟨rfl, hb⟩
  have HB := Aside0.mk hb
  clear hb
  generalize findI aboveB 0 xs = i at HA ⊢
  go_wp2_with fail
  go_ret
  exact ⟨by rw [← HA.out]; first | rfl | (congr 2; apply decide_eq_decide.2; constructor <;> intro h <;> omega), HB.out⟩
def checkedI (l : List Int) : Int := if l.any belowB = true then 2 else if l.any aboveB = true then 10 else 0
def quant_checked.f (l : List Int) : Option Int := some (checkedI l)
set_option maxRecDepth 100000 in
set_option maxHeartbeats 800000 in
theorem quant_checked.calls (A0 : Option Addr) (c0 : Nat) (l0 : List Int) (r : Int) (w : World) (hr0 : Kd.C (Kd.int .i64) w A0 l0.length l0) (hc0 : l0.length ≤ c0) (h : quant_checked.f l0 = some r) :
    Calls Tryd.prog 51 #[.slice A0 l0.length c0] w fun e w' => e = .returned (.int .i64 r) ∧ Below w.heap.size w w' := by
  obtain rfl := Option.some.inj h
  have HR := Aside0.mk (And.intro hr0 hc0)
  clear hr0 hc0 h
  unfold checkedI
  obtain ⟨b1, h1⟩ : ∃ b, l0.any belowB = b := ⟨_, rfl⟩
  obtain ⟨b2, h2⟩ : ∃ b, l0.any aboveB = b := ⟨_, rfl⟩
  have c1 := fun W (hw : Below w.heap.size w W) => has_below A0 c0 l0 W (Kd.C_below HR.out.1 hw) HR.out.2
  have c2 := fun W (hw : Below w.heap.size w W) => has_above A0 c0 l0 W (Kd.C_below HR.out.1 hw) HR.out.2
  rw [h1] at c1 ⊢
  rw [h2] at c2 ⊢
  have C1 := Aside0.mk c1
  have C2 := Aside0.mk c2
  clear c1 c2 h1 h2
  go_enter Tryd.func51, Tryd.ntmps51
  go_wp2_with fail
  refine (C1.out w (Below.refl _ _)).mono ?_
  rintro _ W2 ⟨rfl, hb⟩
  have HB := Aside0.mk hb
  clear hb
  cases b1 with
  | true =>
    go_wp2_with fail
    go_ret
    exact ⟨rfl, HB.out⟩
  | false =>
    go_wp2_with fail
    refine (C2.out _ HB.out).mono ?_
    rintro _ W3 ⟨rfl, hb⟩
    have HB3 := Aside0.mk (below_step HB.out hb)
    clear hb HB
    cases b2 with
    | true =>
      go_wp2_with fail
      go_ret
      exact ⟨rfl, HB3.out⟩
    | false =>
      go_wp2_with fail
      go_ret
      exact ⟨rfl, HB3.out⟩
end Go.Proofs.YtceepgleeelohaaDoor.P
