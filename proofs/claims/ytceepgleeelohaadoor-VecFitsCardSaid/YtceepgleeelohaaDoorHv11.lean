import Derived.Test.YtceepgleeelohaaDoorHv6
import Derived.Test.YtceepgleeelohaaDoorHv9
import Derived.Test.YtceepgleeelohaaDoorHparse
/- strings.Cut at a comma. -/
namespace Go.Proofs.YtceepgleeelohaaDoor.P
set_option linter.unusedVariables false
set_option linter.unusedSimpArgs false
open Go.RowKit Go.Proofs.YtceepgleeelohaaDoorW.PrintWords Go.Proofs.YtceepgleeelohaaDoorW.PrintLast Go.Proofs.YtceepgleeelohaaDoorW.PrintMore
def cutI (s : ByteArray) : Int := Lib.indexByte s.data.toList 44
def cutA (s : ByteArray) : ByteArray := if 0 ≤ cutI s then s.extract 0 (cutI s).toNat else s
def cutM (s : ByteArray) : Bool := decide (0 ≤ cutI s)
theorem idx_lt : ∀ (l : List UInt8) (c : UInt8), Lib.indexByte l c < l.length
  | [], c => by unfold Lib.indexByte; decide
  | b :: l, c => by
    have ih := idx_lt l c
    unfold Lib.indexByte
    rw [List.length_cons]
    split
    · omega
    split
    · omega
    · omega
theorem cutI_lt (s : ByteArray) : cutI s < (s.size : Int) := idx_lt s.data.toList 44
set_option maxRecDepth 100000 in
set_option maxHeartbeats 4000000 in
theorem cut0_c (s : ByteArray) (w : World) (hs : s.size ≤ 1000000) :
    Calls Tryd.prog 59 #[.string s, .string (⟨#[44]⟩ : ByteArray)] w fun e_ w' => (∃ b, e_ = .returned (.tuple #[.string (cutA s), .string b, .bool (cutM s)])) ∧ Below w.heap.size w w' := by
  have hlt := cutI_lt s
  have ci := fun W => Tryd.stringslite_Index_one s 44 W
  have hge : -1 ≤ cutI s := Lib.indexByte_ge _ _
  unfold cutA cutM
  obtain ⟨i, hi⟩ : ∃ i, cutI s = i := ⟨_, rfl⟩
  rw [hi] at hlt hge ⊢
  have hi2 : Lib.indexByte s.data.toList 44 = i := hi
  rw [hi2] at ci
  clear hi hi2
  have CI := Aside0.mk ci
  clear ci
  by_cases h : 0 ≤ i
  · rw [if_pos h, decide_eq_true h]
    obtain ⟨n, rfl⟩ := Int.eq_ofNat_of_zero_le h
    have h1 : n ≤ s.size := by omega
    have h2 : n + 1 ≤ s.size := by omega
    have h4 : (0 : Int) ≤ (n : Int) + 1 := by omega
    have h5 : (n : Int) + 1 ≤ (s.size : Int) := by omega
    rw [Int.toNat_natCast]
    have h3 : wrap64 ((n : Int) + 1) = (n : Int) + 1 := by unfold wrap64; omega
    go_enter Tryd.func59, Tryd.ntmps59
    go_wp2_with fail
    refine (CI.out _).mono ?_
    rintro _ V ⟨rfl, rfl⟩
    go_wp2_with fail
    refine start_ (n := 12) (S := fun w' => True) (ds := []) #[false, false, false, false, false, false, false, false, false, false, false, false] (by kernel_rfl) rfl rfl trivial (fun hHeld => ?_)
    refine pure_ (i := 0) (N := some 13) (v := ?_) (a' := ?_) #[true, false, false, false, false, false, false, false, false, false, false, false] rfl rfl (by kernel_rfl) (fun _ _ _ h => h) (Or.inl ⟨by rfl, ?_⟩) ?_ ?_
    rotate_left
    · intro w'
      go_simp
      with_reducible rfl
    rotate_left
    · simp only [Act.put, List.setIfInBounds_toArray, List.set_cons_zero, List.set_cons_succ, i64_w, i32_w]
      rfl
    refine pure_ (i := 1) (N := some 14) (v := ?_) (a' := ?_) #[true, true, false, false, false, false, false, false, false, false, false, false] rfl rfl (by kernel_rfl) (fun _ _ _ h => h) (Or.inl ⟨by rfl, ?_⟩) ?_ ?_
    rotate_left
    · intro w'
      go_simp
      with_reducible rfl
    rotate_left
    · simp only [Act.put, List.setIfInBounds_toArray, List.set_cons_zero, List.set_cons_succ, i64_w, i32_w]
      rfl
    refine pure_ (i := 2) (N := some 15) (v := ?_) (a' := ?_) #[true, true, true, false, false, false, false, false, false, false, false, false] rfl rfl (by kernel_rfl) (fun _ _ _ h => h) (Or.inl ⟨by rfl, ?_⟩) ?_ ?_
    rotate_left
    · intro w'
      go_simp
      with_reducible rfl
    rotate_left
    · simp only [Act.put, List.setIfInBounds_toArray, List.set_cons_zero, List.set_cons_succ, i64_w, i32_w]
      rfl
    refine pure_ (i := 3) (N := some 16) (v := ?_) (a' := ?_) #[true, true, true, true, false, false, false, false, false, false, false, false] rfl rfl (by kernel_rfl) (fun _ _ _ h => h) (Or.inl ⟨by rfl, ?_⟩) ?_ ?_
    rotate_left
    · intro w'
      go_simp
      with_reducible rfl
    rotate_left
    · simp only [Act.put, List.setIfInBounds_toArray, List.set_cons_zero, List.set_cons_succ, i64_w, i32_w]
      rfl
    refine pure_ (i := 4) (N := some 17) (v := ?_) (a' := ?_) #[true, true, true, true, true, false, false, false, false, false, false, false] rfl rfl (by kernel_rfl) (fun _ _ _ h => h) (Or.inl ⟨by rfl, ?_⟩) ?_ ?_
    rotate_left
    · intro w'
      go_simp
      with_reducible rfl
    rotate_left
    · simp only [Act.put, List.setIfInBounds_toArray, List.set_cons_zero, List.set_cons_succ, i64_w, i32_w]
      rfl
    refine pure_ (i := 5) (N := some 18) (v := ?_) (a' := ?_) #[true, true, true, true, true, true, false, false, false, false, false, false] rfl rfl (by kernel_rfl) (fun _ _ _ h => h) (Or.inl ⟨by rfl, ?_⟩) ?_ ?_
    rotate_left
    · intro w'
      go_simp
      with_reducible rfl
    rotate_left
    · simp only [Act.put, List.setIfInBounds_toArray, List.set_cons_zero, List.set_cons_succ, i64_w, i32_w]
      rfl
    refine pure_ (i := 6) (N := some 19) (v := ?_) (a' := ?_) #[true, true, true, true, true, true, true, false, false, false, false, false] rfl rfl (by kernel_rfl) (fun _ _ _ h => h) (Or.inl ⟨by rfl, ?_⟩) ?_ ?_
    rotate_left
    · intro w'
      go_simp
      with_reducible rfl
    rotate_left
    · simp only [Act.put, List.setIfInBounds_toArray, List.set_cons_zero, List.set_cons_succ, i64_w, i32_w]
      rfl
    refine pure_ (i := 7) (N := some 20) (v := ?_) (a' := ?_) #[true, true, true, true, true, true, true, true, false, false, false, false] rfl rfl (by kernel_rfl) (fun _ _ _ h => h) (Or.inl ⟨by rfl, ?_⟩) ?_ ?_
    rotate_left
    · intro w'
      go_simp
      with_reducible rfl
    rotate_left
    · simp only [Act.put, List.setIfInBounds_toArray, List.set_cons_zero, List.set_cons_succ, i64_w, i32_w]
      rfl
    refine pure_ (i := 8) (N := some 21) (v := ?_) (a' := ?_) #[true, true, true, true, true, true, true, true, true, false, false, false] rfl rfl (by kernel_rfl) (fun _ _ _ h => h) (Or.inl ⟨by rfl, ?_⟩) ?_ ?_
    rotate_left
    · intro w'
      go_simp
      with_reducible rfl
    rotate_left
    · simp only [Act.put, List.setIfInBounds_toArray, List.set_cons_zero, List.set_cons_succ, i64_w, i32_w]
      rfl
    refine pure_ (i := 9) (N := some 4) (v := ?_) (a' := ?_) #[true, true, true, true, true, true, true, true, true, true, false, false] rfl rfl (by kernel_rfl) (fun _ _ _ h => h) (Or.inl ⟨by rfl, ?_⟩) ?_ ?_
    rotate_left
    · intro w'
      go_simp
      with_reducible rfl
    rotate_left
    · simp only [Act.put, List.setIfInBounds_toArray, List.set_cons_zero, List.set_cons_succ, i64_w, i32_w]
      rfl
    refine pure_ (i := 10) (N := some 5) (v := ?_) (a' := ?_) #[true, true, true, true, true, true, true, true, true, true, true, false] rfl rfl (by kernel_rfl) (fun _ _ _ h => h) (Or.inl ⟨by rfl, ?_⟩) ?_ ?_
    rotate_left
    · intro w'
      go_simp
      with_reducible rfl
    rotate_left
    · simp only [Act.put, List.setIfInBounds_toArray, List.set_cons_zero, List.set_cons_succ, i64_w, i32_w]
      rfl
    refine pure_ (i := 11) (N := some 6) (v := ?_) (a' := ?_) #[true, true, true, true, true, true, true, true, true, true, true, true] rfl rfl (by kernel_rfl) (fun _ _ _ h => h) (Or.inl ⟨by rfl, ?_⟩) ?_ ?_
    rotate_left
    · intro w'
      go_simp
      with_reducible rfl
    rotate_left
    · simp only [Act.put, List.setIfInBounds_toArray, List.set_cons_zero, List.set_cons_succ, i64_w, i32_w]
      rfl
    refine done_ (by kernel_rfl) ?_
    go_wp2_with fail
    go_ret3
    exact ⟨⟨_, rfl⟩, by first | exact Below.refl _ _ | exact below_drew1 (Below.refl _ _)⟩
  · rw [if_neg h, decide_eq_false h]
    have hb : decide (0 ≤ i) = false := decide_eq_false h
    go_enter Tryd.func59, Tryd.ntmps59
    go_wp2_with fail
    refine (CI.out _).mono ?_
    rintro _ V ⟨rfl, rfl⟩
    go_wp2_with fail
    go_ret3
    exact ⟨⟨_, rfl⟩, Below.refl _ _⟩
theorem cut_c (s : ByteArray) (w : World) (hs : s.size ≤ 1000000) :
    Calls Tryd.prog 43 #[.string s, .string (⟨#[44]⟩ : ByteArray)] w fun e_ w' => (∃ b, e_ = .returned (.tuple #[.string (cutA s), .string b, .bool (cutM s)])) ∧ Below w.heap.size w w' := by
  have C0 := Aside0.mk (cut0_c s w hs)
  generalize cutA s = a at C0 ⊢
  generalize cutM s = m at C0 ⊢
  go_enter Tryd.func43, Tryd.ntmps43
  go_wp2_with fail
  refine C0.out.mono ?_
  rintro _ V ⟨⟨b, rfl⟩, hb⟩
  have HB := Aside0.mk hb
  clear hb C0
  go_wp2_with fail
  go_ret3
  exact ⟨⟨b, rfl⟩, HB.out⟩
end Go.Proofs.YtceepgleeelohaaDoor.P
