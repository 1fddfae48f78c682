import Derived.Test.YtceepgleeelohaaDoorHv2
import Derived.Test.YtceepgleeelohaaDoorShelf
/- The places' names; named. -/
namespace Go.Proofs.YtceepgleeelohaaDoor.P
set_option linter.unusedVariables false
set_option linter.unusedSimpArgs false
open Go.RowKit Go.Proofs.YtceepgleeelohaaDoorW.PrintWords Go.Proofs.YtceepgleeelohaaDoorW.PrintLast Go.Proofs.YtceepgleeelohaaDoorW.PrintMore
def nmB : Nat → ByteArray
  | 0 => ⟨#[99, 112, 117]⟩
  | 1 => ⟨#[109, 101, 109]⟩
  | 2 => ⟨#[100, 105, 115, 107]⟩
  | 3 => ⟨#[115, 108, 111, 116, 115]⟩
  | _ => ⟨#[101, 120, 116, 114, 97]⟩
/-- the names lie in their variable -/
structure Nm (w : World) : Prop where mk :: (out : 0 < w.heap.size ∧ ∀ i : Nat, i < 5 → w.cell? ⟨0, i, none⟩ = some (.string (nmB i)))
theorem Nm.up {w W : World} (h : Nm w) (hb : Below w.heap.size w W) : Nm W :=
  ⟨Nat.lt_of_lt_of_le h.out.1 hb.size, fun i hi => (hb.cell h.out.1).trans (h.out.2 i hi)⟩
theorem Nm.at_ {w : World} (h : Nm w) (i : Nat) (hi : i < 5) : w.cell? ⟨0, i, none⟩ = some (.string (nmB i)) := h.out.2 i hi
/-- does a name stand at the beginning, whole? -/
def isAt (r p : ByteArray) : Bool := Lib.hasPrefix r.data.toList p.data.toList && (match Lib.trimPrefix r.data.toList p.data.toList with | [] => true | x :: _ => decide ((x.toNat : Int) = 61))
/-- is all of it a beginning of the name? -/
def shortB (r p : ByteArray) : Bool := decide (r.size < p.size) && Lib.hasPrefix p.data.toList r.data.toList
def namedF (r : ByteArray) : Nat → Nat → Bool → Int × Bool
  | 0, _, c => (-1, c)
  | n + 1, k, c => if isAt r (nmB k) = true then ((k : Int), false) else namedF r n (k + 1) (c || shortB r (nmB k))
def namedS (r : ByteArray) (k : Nat) : Int × Bool := namedF r (5 - k) k false
set_option maxRecDepth 100000 in
set_option maxHeartbeats 4000000 in
theorem named_c (r : ByteArray) (from_ : Nat) (w : World) (hN : Nm w) (hr : r.size < 9223372036854775807) (hf : from_ ≤ 5) :
    Calls Tryd.prog 42 #[.string r, .int .i64 (from_ : Int)] w fun e_ w' => e_ = .returned (.tuple #[.int .i64 (namedS r from_).1, .bool (namedS r from_).2]) ∧ Below w.heap.size w w' := by
  obtain ⟨R, hR⟩ : ∃ R, namedS r from_ = R := ⟨_, rfl⟩
  rw [hR]
  unfold namedS at hR
  have H0 := Aside0.mk hR
  clear hR
  go_enter Tryd.func42, Tryd.ntmps42
  go_wp2_with fail
  go_loopw [5, 6] (fun v u wr => ∃ (k : Nat) (c : Bool), k ≤ 5 ∧ u = .int .i64 k ∧ v = .bool c ∧ Aside0 (namedF r (5 - k) k c = R ∧ Nm wr ∧ Below w.heap.size w wr)) (fun _ u _ => 5 - (intOf u).toNat)
  case atStart => exact ⟨from_, false, hf, rfl, rfl, ⟨H0.out, hN, Below.refl _ _⟩⟩
  case round =>
    obtain ⟨k, c, hk, rfl, rfl, HF⟩ := hrel
    by_cases hlt : k < 5
    · have h1_ := HF.out.2.1.at_ k hlt
      have i0 : (0 : Int) ≤ (k : Int) := by omega
      have i5 : (k : Int) < 5 := by omega
      obtain ⟨p, hp⟩ : ∃ p, nmB k = p := ⟨_, rfl⟩
      have hs : (if isAt r p = true then ((k : Int), false) else namedF r (5 - (k + 1)) (k + 1) (c || shortB r p)) = R := by
        rw [← HF.out.1, show 5 - k = (5 - (k + 1)) + 1 by omega, ← hp]
        rfl
      rw [hp] at h1_
      clear hp
      obtain ⟨q, hq⟩ : ∃ q, Lib.hasPrefix r.data.toList p.data.toList = q := ⟨_, rfl⟩
      have cp := fun W => Tryd.strings_CutPrefix r p W
      unfold isAt at hs
      rw [hq] at hs cp
      clear hq
      cases hL : Lib.trimPrefix r.data.toList p.data.toList with
      | nil =>
        rw [hL] at hs cp
        have CP := Aside0.mk cp
        clear cp hL
        cases q with
        | false =>
          have HS1 : Aside0 (namedF r (5 - (k + 1)) (k + 1) (c || shortB r p) = R) := ⟨by simpa using hs⟩
          clear hs
          go_wp2_with fail
          refine (CP.out _).mono ?_
          rintro _ V ⟨rfl, rfl⟩
          cases c with
          | true =>
            have HS2 : Aside0 (namedF r (5 - (k + 1)) (k + 1) true = R) := ⟨HS1.out⟩
            clear HS1
            go_wp2_with fail
            go_roundw
            case rel => exact ⟨k + 1, true, by omega, by go_num, rfl, HS2.out, HF.out.2⟩
            case measure => simp [intOf]; omega
          | false =>
            by_cases hl : r.size < p.size
            · obtain ⟨s, hs⟩ : ∃ s, Lib.hasPrefix p.data.toList r.data.toList = s := ⟨_, rfl⟩
              have hp0 := fun W => Tryd.strings_HasPrefix p r W
              rw [hs] at hp0
              have HP := Aside0.mk hp0
              clear hp0
              have HS2 : Aside0 (namedF r (5 - (k + 1)) (k + 1) s = R) := ⟨by
                have := HS1.out
                unfold shortB at this
                rw [hs, decide_eq_true hl] at this
                simpa using this⟩
              clear HS1 hs
              have hl2 : decide (r.size < p.size) = true := decide_eq_true hl
              clear hl
              go_wp2_with fail
              refine (HP.out _).mono ?_
              rintro _ V2 ⟨rfl, rfl⟩
              go_wp2_with fail
              go_roundw
              case rel => exact ⟨k + 1, s, by omega, by go_num, rfl, HS2.out, HF.out.2⟩
              case measure => simp [intOf]; omega
            · have HS2 : Aside0 (namedF r (5 - (k + 1)) (k + 1) false = R) := ⟨by
                have := HS1.out
                unfold shortB at this
                rw [decide_eq_false hl] at this
                simpa using this⟩
              clear HS1
              have hl2 : decide (r.size < p.size) = false := decide_eq_false hl
              clear hl
              go_wp2_with fail
              go_roundw
              case rel => exact ⟨k + 1, false, by omega, by go_num, rfl, HS2.out, HF.out.2⟩
              case measure => simp [intOf]; omega
        | true =>
          have HR : Aside0 (R = ((k : Int), false)) := ⟨by simpa using hs.symm⟩
          clear hs
          go_wp2_with fail
          refine (CP.out _).mono ?_
          rintro _ V ⟨rfl, rfl⟩
          go_wp2_with fail
          go_ret2
          exact ⟨by rw [HR.out]; rfl, HF.out.2.2⟩
      | cons x l =>
        rw [hL] at hs cp
        have CP := Aside0.mk cp
        clear cp hL
        dsimp only at hs
        cases q with
        | false =>
          have HS1 : Aside0 (namedF r (5 - (k + 1)) (k + 1) (c || shortB r p) = R) := ⟨by simpa using hs⟩
          clear hs
          go_wp2_with fail
          refine (CP.out _).mono ?_
          rintro _ V ⟨rfl, rfl⟩
          cases c with
          | true =>
            have HS2 : Aside0 (namedF r (5 - (k + 1)) (k + 1) true = R) := ⟨HS1.out⟩
            clear HS1
            go_wp2_with fail
            go_roundw
            case rel => exact ⟨k + 1, true, by omega, by go_num, rfl, HS2.out, HF.out.2⟩
            case measure => simp [intOf]; omega
          | false =>
            by_cases hl : r.size < p.size
            · obtain ⟨s, hs⟩ : ∃ s, Lib.hasPrefix p.data.toList r.data.toList = s := ⟨_, rfl⟩
              have hp0 := fun W => Tryd.strings_HasPrefix p r W
              rw [hs] at hp0
              have HP := Aside0.mk hp0
              clear hp0
              have HS2 : Aside0 (namedF r (5 - (k + 1)) (k + 1) s = R) := ⟨by
                have := HS1.out
                unfold shortB at this
                rw [hs, decide_eq_true hl] at this
                simpa using this⟩
              clear HS1 hs
              have hl2 : decide (r.size < p.size) = true := decide_eq_true hl
              clear hl
              go_wp2_with fail
              refine (HP.out _).mono ?_
              rintro _ V2 ⟨rfl, rfl⟩
              go_wp2_with fail
              go_roundw
              case rel => exact ⟨k + 1, s, by omega, by go_num, rfl, HS2.out, HF.out.2⟩
              case measure => simp [intOf]; omega
            · have HS2 : Aside0 (namedF r (5 - (k + 1)) (k + 1) false = R) := ⟨by
                have := HS1.out
                unfold shortB at this
                rw [decide_eq_false hl] at this
                simpa using this⟩
              clear HS1
              have hl2 : decide (r.size < p.size) = false := decide_eq_false hl
              clear hl
              go_wp2_with fail
              go_roundw
              case rel => exact ⟨k + 1, false, by omega, by go_num, rfl, HS2.out, HF.out.2⟩
              case measure => simp [intOf]; omega
        | true =>
          by_cases hx : (x.toNat : Int) = 61
          · have HR : Aside0 (R = ((k : Int), false)) := ⟨by simpa [hx] using hs.symm⟩
            have hx2 : ∀ h, (((((⟨(x :: l).toArray⟩ : ByteArray)[0]'h).toNat : Int)) == 61) = true := fun _ => by show ((x.toNat : Int) == 61) = true; simpa using hx
            clear hs hx
            go_wp2_with fail
            refine (CP.out _).mono ?_
            rintro _ V ⟨rfl, rfl⟩
            go_wp2_with fail
            go_ret2
            exact ⟨by rw [HR.out]; rfl, HF.out.2.2⟩
          · have HS1 : Aside0 (namedF r (5 - (k + 1)) (k + 1) (c || shortB r p) = R) := ⟨by simpa [hx] using hs⟩
            have hx2 : ∀ h, (((((⟨(x :: l).toArray⟩ : ByteArray)[0]'h).toNat : Int)) == 61) = false := fun _ => by show ((x.toNat : Int) == 61) = false; simpa using hx
            clear hs hx
            go_wp2_with fail
            refine (CP.out _).mono ?_
            rintro _ V ⟨rfl, rfl⟩
            cases c with
            | true =>
              have HS2 : Aside0 (namedF r (5 - (k + 1)) (k + 1) true = R) := ⟨HS1.out⟩
              clear HS1
              go_wp2_with fail
              go_roundw
              case rel => exact ⟨k + 1, true, by omega, by go_num, rfl, HS2.out, HF.out.2⟩
              case measure => simp [intOf]; omega
            | false =>
              by_cases hl : r.size < p.size
              · obtain ⟨s, hs⟩ : ∃ s, Lib.hasPrefix p.data.toList r.data.toList = s := ⟨_, rfl⟩
                have hp0 := fun W => Tryd.strings_HasPrefix p r W
                rw [hs] at hp0
                have HP := Aside0.mk hp0
                clear hp0
                have HS2 : Aside0 (namedF r (5 - (k + 1)) (k + 1) s = R) := ⟨by
                  have := HS1.out
                  unfold shortB at this
                  rw [hs, decide_eq_true hl] at this
                  simpa using this⟩
                clear HS1 hs
                have hl2 : decide (r.size < p.size) = true := decide_eq_true hl
                clear hl
                go_wp2_with fail
                refine (HP.out _).mono ?_
                rintro _ V2 ⟨rfl, rfl⟩
                go_wp2_with fail
                go_roundw
                case rel => exact ⟨k + 1, s, by omega, by go_num, rfl, HS2.out, HF.out.2⟩
                case measure => simp [intOf]; omega
              · have HS2 : Aside0 (namedF r (5 - (k + 1)) (k + 1) false = R) := ⟨by
                  have := HS1.out
                  unfold shortB at this
                  rw [decide_eq_false hl] at this
                  simpa using this⟩
                clear HS1
                have hl2 : decide (r.size < p.size) = false := decide_eq_false hl
                clear hl
                go_wp2_with fail
                go_roundw
                case rel => exact ⟨k + 1, false, by omega, by go_num, rfl, HS2.out, HF.out.2⟩
                case measure => simp [intOf]; omega
    · obtain rfl : k = 5 := by omega
      have hr : R = (-1, c) := HF.out.1.symm
      subst hr
      go_wp2_with fail
      go_ret2
      exact ⟨rfl, HF.out.2.2⟩
end Go.Proofs.YtceepgleeelohaaDoor.P
