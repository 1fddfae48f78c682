import Derived.Test.YtcpalnmodbbklaaDoorP0
import Derived.Test.YtcpalnmodbbklaaDoorHwords
import Derived.Test.YtcpalnmodbbklaaDoorPf10
import Derived.Test.YtcpalnmodbbklaaDoorPf15
import Derived.Test.YtcpalnmodbbklaaDoorPf4
import Derived.Test.YtcpalnmodbbklaaDoorPf5
import Derived.Test.YtcpalnmodbbklaaDoorHdec
/- strings.Repeat as the printed callers want it, out of the shelf's contract. -/
namespace Go.Proofs.YtcpalnmodbbklaaDoor.P
open Go.RowKit
def strings_Repeat.f (s : ByteArray) (c : Int) : Option ByteArray := if 0 ≤ c ∧ c ≤ 9223372036854775807 ∧ s.size * c.toNat ≤ 140737488355328 then some ⟨(Lib.repeatL s.data.toList c.toNat).toArray⟩ else none
theorem strings_Repeat.calls (s : ByteArray) (c : Int) (r : ByteArray) (w : World) (h : strings_Repeat.f s c = some r) :
    Calls Tryd.prog 19 #[.string s, .int .i64 c] w fun e w' => e = .returned (.string r) ∧ Below w.heap.size w w' := by
  unfold strings_Repeat.f at h
  split at h
  · rename_i hc
    obtain ⟨h0, h1, h2⟩ := hc
    obtain ⟨n, rfl⟩ := Int.eq_ofNat_of_zero_le h0
    simp only [Int.toNat_natCast] at h h2
    cases h
    exact Tryd.strings_Repeat s n w (by omega) h2
  · cases h
end Go.Proofs.YtcpalnmodbbklaaDoor.P
-- PRINTED by print.py (a twelfth state) out of the translation. Not trusted: Lean checks it.
namespace Go.Proofs.YtcpalnmodbbklaaDoor.P
open Go.RowKit Go.Proofs.YtcpalnmodbbklaaDoorW.PrintWords Go.Proofs.YtcpalnmodbbklaaDoorW.PrintLast Go.Proofs.YtcpalnmodbbklaaDoorW.PrintMore
attribute [local go_sem] max2_int min2_int max_two min_two max_three min_three max_four min_four   -- for this text's walks alone
set_option linter.unusedVariables false
set_option linter.unusedSimpArgs false

/-! ### drayagelaw04_ScanKnown: function 7 -/
mutual
def drayagelaw04_ScanKnown.l0 : Nat → Int → Option (Bool)
  | 0, _ => none
  | k + 1, x1 => if x1 < 256 then ((some (([(x1) % 256] : List Int) : List Int)).bind fun y255 => (if 1 + (strOfNums y255).size ≤ 9223372036854775807 then (if ((⟨#[97]⟩ : ByteArray) ++ (strOfNums y255)).size + 1 ≤ 9223372036854775807 then (if ((⟨#[34]⟩ : ByteArray) ++ (strOfNums y255)).size + 1 ≤ 9223372036854775807 then (if 2 + (strOfNums y255).size ≤ 9223372036854775807 then (if ((⟨#[34, 92]⟩ : ByteArray) ++ (strOfNums y255)).size + 1 ≤ 9223372036854775807 then (if (strOfNums y255).size + 1 ≤ 9223372036854775807 then (if ((strOfNums y255) ++ (⟨#[10]⟩ : ByteArray)).size + (strOfNums y255).size ≤ 9223372036854775807 then (if 3 + (strOfNums y255).size ≤ 9223372036854775807 then (drayagelaw04_ScanKnown.l1 k x1 (([strOfNums y255, (⟨#[97]⟩ : ByteArray) ++ (strOfNums y255), (⟨#[49]⟩ : ByteArray) ++ (strOfNums y255), ((⟨#[97]⟩ : ByteArray) ++ (strOfNums y255)) ++ (⟨#[98]⟩ : ByteArray), (⟨#[34]⟩ : ByteArray) ++ (strOfNums y255), ((⟨#[34]⟩ : ByteArray) ++ (strOfNums y255)) ++ (⟨#[34]⟩ : ByteArray), ((⟨#[34, 92]⟩ : ByteArray) ++ (strOfNums y255)) ++ (⟨#[34]⟩ : ByteArray), (⟨#[35]⟩ : ByteArray) ++ (strOfNums y255), ((strOfNums y255) ++ (⟨#[10]⟩ : ByteArray)) ++ (strOfNums y255), (⟨#[123]⟩ : ByteArray) ++ (strOfNums y255), (⟨#[34, 97, 34]⟩ : ByteArray) ++ (strOfNums y255)] : List ByteArray)) 0) else (none)) else (none)) else (none)) else (none)) else (none)) else (none)) else (none)) else (none))) else (drayagelaw04_ScanKnown.l2 k (([(⟨#[]⟩ : ByteArray), (⟨#[10]⟩ : ByteArray), (⟨#[195, 169]⟩ : ByteArray), (⟨#[97, 255]⟩ : ByteArray), (⟨#[35, 255]⟩ : ByteArray), (⟨#[34, 195, 34]⟩ : ByteArray), (⟨#[239, 191, 189]⟩ : ByteArray), (⟨#[34, 239, 191, 189, 34]⟩ : ByteArray), (⟨#[34, 97, 10, 98, 34]⟩ : ByteArray), (⟨#[34, 97, 92]⟩ : ByteArray), (⟨#[34, 97, 92, 10, 98, 34]⟩ : ByteArray), (⟨#[97, 49, 45]⟩ : ByteArray), (⟨#[45, 97]⟩ : ByteArray), (⟨#[49, 97, 46, 66, 37]⟩ : ByteArray), (⟨#[37, 49]⟩ : ByteArray), (⟨#[46, 53]⟩ : ByteArray)] : List ByteArray)) 0)
def drayagelaw04_ScanKnown.l1 : Nat → Int → List ByteArray → Int → Option (Bool)
  | 0, _, _, _ => none
  | k + 1, x1, x3, x4 => if x4 < (x3.length : Int) then (if 0 ≤ x4 then ((drayagelaw04_ScanWords.f k (rdOf ByteArray.empty x3 x4) x4).bind fun t262 => (if t262 = true then ((drayagelaw04_ScanQuotes.f k (rdOf ByteArray.empty x3 x4)).bind fun t264 => (if t264 = true then (drayagelaw04_ScanKnown.l1 k x1 x3 (wrap64 (x4 + 1))) else (some false))) else (some false))) else (none)) else (drayagelaw04_ScanKnown.l0 k (wrap64 (x1 + 1)))
def drayagelaw04_ScanKnown.l2 : Nat → List ByteArray → Int → Option (Bool)
  | 0, _, _ => none
  | k + 1, x5, x6 => if x6 < (x5.length : Int) then (if 0 ≤ x6 then ((drayagelaw04_ScanWords.f k (rdOf ByteArray.empty x5 x6) (-1)).bind fun t269 => (if t269 = true then ((drayagelaw04_ScanQuotes.f k (rdOf ByteArray.empty x5 x6)).bind fun t271 => (if t271 = true then (drayagelaw04_ScanKnown.l2 k x5 (wrap64 (x6 + 1))) else (some false))) else (some false))) else (none)) else ((strings_Repeat.f (⟨#[97, 32]⟩ : ByteArray) 32768).bind fun t272 => ((scan_Words.f t272).bind fun bt273 => (if t272.size + 1 ≤ 9223372036854775807 then ((scan_Words.f (t272 ++ (⟨#[32]⟩ : ByteArray))).bind fun bt279 => ((drayagelaw04_works.f k).bind fun t285 => (if t285 = true then (if bt273.2.2.2 = 0 then (if (bt273.1.length : Int) = 32768 then (if bt279.2.2.2 = 5 then (if bt279.2.1 = 0 then (if bt279.2.2.1 = 0 then ((scan_Line.f k bt273.1 0).bind fun t286 => (if t286 = 32768 then ((scan_Line.f k bt273.1 (-1)).bind fun t287 => (some (t287 == 0))) else (some false))) else (some false)) else (some false)) else (some false)) else (some false)) else (some false)) else (some false)))) else (none))))
end
def drayagelaw04_ScanKnown.f (k : Nat)  : Option (Bool) := drayagelaw04_ScanKnown.l0 k 0
theorem drayagelaw04_ScanKnown.mono_l : ∀ k, (∀ y0, LeO (drayagelaw04_ScanKnown.l0 k y0) (drayagelaw04_ScanKnown.l0 (k + 1) y0)) ∧ (∀ y0 y1 y2, LeO (drayagelaw04_ScanKnown.l1 k y0 y1 y2) (drayagelaw04_ScanKnown.l1 (k + 1) y0 y1 y2)) ∧ (∀ y0 y1, LeO (drayagelaw04_ScanKnown.l2 k y0 y1) (drayagelaw04_ScanKnown.l2 (k + 1) y0 y1))
  | 0 => ⟨fun _ r h => by simp [drayagelaw04_ScanKnown.l0] at h, fun _ _ _ r h => by simp [drayagelaw04_ScanKnown.l1] at h, fun _ _ r h => by simp [drayagelaw04_ScanKnown.l2] at h⟩
  | k + 1 => by
    obtain ⟨ih0, ih1, ih2⟩ := drayagelaw04_ScanKnown.mono_l k
    refine ⟨?_, ?_, ?_⟩
    · intro y0
      unfold drayagelaw04_ScanKnown.l0
      repeat' first
      | (with_reducible exact ih0 _)
      | (with_reducible exact ih1 _ _ _)
      | (with_reducible exact ih2 _ _)
      | (with_reducible exact drayagelaw04_ScanQuotes.mono _ _)
      | (with_reducible exact drayagelaw04_ScanWords.mono _ _ _)
      | (with_reducible exact drayagelaw04_works.mono _)
      | (with_reducible exact scan_Line.mono _ _ _)
      | (with_reducible exact LeO.refl _)
      | (with_reducible exact LeO.none _)
      | (with_reducible refine LeO.ite ?_ ?_)
      | (with_reducible refine LeO.bind ?_ (fun _ => ?_))
      | exact ih0 _
      | exact ih1 _ _ _
      | exact ih2 _ _
      | exact drayagelaw04_ScanQuotes.mono _ _
      | exact drayagelaw04_ScanWords.mono _ _ _
      | exact drayagelaw04_works.mono _
      | exact scan_Line.mono _ _ _
      | exact LeO.none _
      | refine LeO.ite ?_ ?_
      | refine LeO.bind ?_ (fun _ => ?_)
    · intro y0 y1 y2
      unfold drayagelaw04_ScanKnown.l1
      repeat' first
      | (with_reducible exact ih0 _)
      | (with_reducible exact ih1 _ _ _)
      | (with_reducible exact ih2 _ _)
      | (with_reducible exact drayagelaw04_ScanQuotes.mono _ _)
      | (with_reducible exact drayagelaw04_ScanWords.mono _ _ _)
      | (with_reducible exact drayagelaw04_works.mono _)
      | (with_reducible exact scan_Line.mono _ _ _)
      | (with_reducible exact LeO.refl _)
      | (with_reducible exact LeO.none _)
      | (with_reducible refine LeO.ite ?_ ?_)
      | (with_reducible refine LeO.bind ?_ (fun _ => ?_))
      | exact ih0 _
      | exact ih1 _ _ _
      | exact ih2 _ _
      | exact drayagelaw04_ScanQuotes.mono _ _
      | exact drayagelaw04_ScanWords.mono _ _ _
      | exact drayagelaw04_works.mono _
      | exact scan_Line.mono _ _ _
      | exact LeO.none _
      | refine LeO.ite ?_ ?_
      | refine LeO.bind ?_ (fun _ => ?_)
    · intro y0 y1
      unfold drayagelaw04_ScanKnown.l2
      repeat' first
      | (with_reducible exact ih0 _)
      | (with_reducible exact ih1 _ _ _)
      | (with_reducible exact ih2 _ _)
      | (with_reducible exact drayagelaw04_ScanQuotes.mono _ _)
      | (with_reducible exact drayagelaw04_ScanWords.mono _ _ _)
      | (with_reducible exact drayagelaw04_works.mono _)
      | (with_reducible exact scan_Line.mono _ _ _)
      | (with_reducible exact LeO.refl _)
      | (with_reducible exact LeO.none _)
      | (with_reducible refine LeO.ite ?_ ?_)
      | (with_reducible refine LeO.bind ?_ (fun _ => ?_))
      | exact ih0 _
      | exact ih1 _ _ _
      | exact ih2 _ _
      | exact drayagelaw04_ScanQuotes.mono _ _
      | exact drayagelaw04_ScanWords.mono _ _ _
      | exact drayagelaw04_works.mono _
      | exact scan_Line.mono _ _ _
      | exact LeO.none _
      | refine LeO.ite ?_ ?_
      | refine LeO.bind ?_ (fun _ => ?_)
theorem drayagelaw04_ScanKnown.mono : ∀ k, LeO (drayagelaw04_ScanKnown.f k ) (drayagelaw04_ScanKnown.f (k + 1) ) := by
  intro  k
  obtain ⟨ih0, ih1, ih2⟩ := drayagelaw04_ScanKnown.mono_l k
  unfold drayagelaw04_ScanKnown.f
  repeat' first
      | (with_reducible exact ih0 _)
      | (with_reducible exact ih1 _ _ _)
      | (with_reducible exact ih2 _ _)
      | (with_reducible exact drayagelaw04_ScanQuotes.mono _ _)
      | (with_reducible exact drayagelaw04_ScanWords.mono _ _ _)
      | (with_reducible exact drayagelaw04_works.mono _)
      | (with_reducible exact scan_Line.mono _ _ _)
      | (with_reducible exact LeO.refl _)
      | (with_reducible exact LeO.none _)
      | (with_reducible refine LeO.ite ?_ ?_)
      | (with_reducible refine LeO.bind ?_ (fun _ => ?_))
      | exact ih0 _
      | exact ih1 _ _ _
      | exact ih2 _ _
      | exact drayagelaw04_ScanQuotes.mono _ _
      | exact drayagelaw04_ScanWords.mono _ _ _
      | exact drayagelaw04_works.mono _
      | exact scan_Line.mono _ _ _
      | exact LeO.none _
      | refine LeO.ite ?_ ?_
      | refine LeO.bind ?_ (fun _ => ?_)
set_option maxHeartbeats 8000000 in
set_option maxRecDepth 100000 in
theorem drayagelaw04_ScanKnown.calls (k : Nat)  (r : Bool) (w : World) (h : drayagelaw04_ScanKnown.f k  = some r) (hT0 : Tb w) :
    Calls Tryd.prog 7 #[] w fun e w' => e = .returned (.bool r) ∧ Below w.heap.size w w' := by
  have hT_ := Aside0.mk hT0
  clear hT0
  have HB := Aside0.mk (Below.refl w.heap.size w)
  have H : (drayagelaw04_ScanKnown.l0 k 0) = some r := h
  clear h
  have H' := Aside0.mk H
  clear H
  go_enter Tryd.func7, Tryd.ntmps7
  go_wp2
  go_loopg [1] k (fun kq v1 w' => ∃ (x1_1 : Int), v1 = .int .i64 x1_1 ∧ Aside0 (drayagelaw04_ScanKnown.l0 kq x1_1 = some r) ∧ Aside0 (kq ≤ k) ∧ Aside0 (Below w.heap.size w w'))
  case atStart => exact ⟨(0), (by first | rfl | (simp; done) | (simp [*]; done)), H', ⟨Nat.le_refl _⟩, ⟨by repeat (first | (with_reducible first | exact HB.out | apply below_alloc | apply pw_below_drewN | apply below_drew1) | exact HB.out)⟩⟩
  case round =>
    clear H'
    obtain ⟨x1_1, rfl, HA, HK1, HB⟩ := hrel
    cases gk with
    | zero => exact absurd HA.out (by simp [drayagelaw04_ScanKnown.l0])
    | succ k1 =>
      have H := HA.out
      clear HA
      simp only [drayagelaw04_ScanKnown.l0] at H
      by_cases c1 : x1_1 < 256
      · rw [if_pos c1] at H
        have c1b0 : decide (x1_1 < 256) = true := decide_eq_true c1
        clear c1
        obtain ⟨y255, hy255⟩ : ∃ y_ : List Int, y_ = (([(x1_1) % 256] : List Int)) := ⟨_, rfl⟩
        replace H : (if 1 + (strOfNums y255).size ≤ 9223372036854775807 then (if ((⟨#[97]⟩ : ByteArray) ++ (strOfNums y255)).size + 1 ≤ 9223372036854775807 then (if ((⟨#[34]⟩ : ByteArray) ++ (strOfNums y255)).size + 1 ≤ 9223372036854775807 then (if 2 + (strOfNums y255).size ≤ 9223372036854775807 then (if ((⟨#[34, 92]⟩ : ByteArray) ++ (strOfNums y255)).size + 1 ≤ 9223372036854775807 then (if (strOfNums y255).size + 1 ≤ 9223372036854775807 then (if ((strOfNums y255) ++ (⟨#[10]⟩ : ByteArray)).size + (strOfNums y255).size ≤ 9223372036854775807 then (if 3 + (strOfNums y255).size ≤ 9223372036854775807 then (drayagelaw04_ScanKnown.l1 k1 x1_1 (([strOfNums y255, (⟨#[97]⟩ : ByteArray) ++ (strOfNums y255), (⟨#[49]⟩ : ByteArray) ++ (strOfNums y255), ((⟨#[97]⟩ : ByteArray) ++ (strOfNums y255)) ++ (⟨#[98]⟩ : ByteArray), (⟨#[34]⟩ : ByteArray) ++ (strOfNums y255), ((⟨#[34]⟩ : ByteArray) ++ (strOfNums y255)) ++ (⟨#[34]⟩ : ByteArray), ((⟨#[34, 92]⟩ : ByteArray) ++ (strOfNums y255)) ++ (⟨#[34]⟩ : ByteArray), (⟨#[35]⟩ : ByteArray) ++ (strOfNums y255), ((strOfNums y255) ++ (⟨#[10]⟩ : ByteArray)) ++ (strOfNums y255), (⟨#[123]⟩ : ByteArray) ++ (strOfNums y255), (⟨#[34, 97, 34]⟩ : ByteArray) ++ (strOfNums y255)] : List ByteArray)) 0) else (none)) else (none)) else (none)) else (none)) else (none)) else (none)) else (none)) else (none)) = some r := by first | (rw [hy255]; with_reducible exact H) | (have H2_ := (Option.bind_some _ _).symm.trans H; rw [hy255]; with_reducible exact H2_) | (have H2_ := (Option.bind_some _ _).symm.trans H; with_reducible exact H2_) | with_reducible exact H | (rw [hy255]; exact H) | exact H
        have Ny255 := Aside0.mk hy255
        clear hy255
        by_cases c2 : 1 + (strOfNums y255).size ≤ 9223372036854775807
        · rw [if_pos c2] at H
          have c2b0 := eq_true c2
          have c2b1 : decide (1 + (strOfNums y255).size ≤ 9223372036854775807) = true := decide_eq_true c2
          try have c2b2 : (9223372036854775807 < 1 + (strOfNums y255).size) = False := eq_false (Nat.not_lt.2 c2)
          by_cases c3 : ((⟨#[97]⟩ : ByteArray) ++ (strOfNums y255)).size + 1 ≤ 9223372036854775807
          · rw [if_pos c3] at H
            have c3b0 := eq_true c3
            have c3b1 : decide (((⟨#[97]⟩ : ByteArray) ++ (strOfNums y255)).size + 1 ≤ 9223372036854775807) = true := decide_eq_true c3
            try have c3b2 : (9223372036854775807 < ((⟨#[97]⟩ : ByteArray) ++ (strOfNums y255)).size + 1) = False := eq_false (Nat.not_lt.2 c3)
            by_cases c4 : ((⟨#[34]⟩ : ByteArray) ++ (strOfNums y255)).size + 1 ≤ 9223372036854775807
            · rw [if_pos c4] at H
              have c4b0 := eq_true c4
              have c4b1 : decide (((⟨#[34]⟩ : ByteArray) ++ (strOfNums y255)).size + 1 ≤ 9223372036854775807) = true := decide_eq_true c4
              try have c4b2 : (9223372036854775807 < ((⟨#[34]⟩ : ByteArray) ++ (strOfNums y255)).size + 1) = False := eq_false (Nat.not_lt.2 c4)
              by_cases c5 : 2 + (strOfNums y255).size ≤ 9223372036854775807
              · rw [if_pos c5] at H
                have c5b0 := eq_true c5
                have c5b1 : decide (2 + (strOfNums y255).size ≤ 9223372036854775807) = true := decide_eq_true c5
                try have c5b2 : (9223372036854775807 < 2 + (strOfNums y255).size) = False := eq_false (Nat.not_lt.2 c5)
                by_cases c6 : ((⟨#[34, 92]⟩ : ByteArray) ++ (strOfNums y255)).size + 1 ≤ 9223372036854775807
                · rw [if_pos c6] at H
                  have c6b0 := eq_true c6
                  have c6b1 : decide (((⟨#[34, 92]⟩ : ByteArray) ++ (strOfNums y255)).size + 1 ≤ 9223372036854775807) = true := decide_eq_true c6
                  try have c6b2 : (9223372036854775807 < ((⟨#[34, 92]⟩ : ByteArray) ++ (strOfNums y255)).size + 1) = False := eq_false (Nat.not_lt.2 c6)
                  by_cases c7 : (strOfNums y255).size + 1 ≤ 9223372036854775807
                  · rw [if_pos c7] at H
                    have c7b0 := eq_true c7
                    have c7b1 : decide ((strOfNums y255).size + 1 ≤ 9223372036854775807) = true := decide_eq_true c7
                    try have c7b2 : (9223372036854775807 < (strOfNums y255).size + 1) = False := eq_false (Nat.not_lt.2 c7)
                    by_cases c8 : ((strOfNums y255) ++ (⟨#[10]⟩ : ByteArray)).size + (strOfNums y255).size ≤ 9223372036854775807
                    · rw [if_pos c8] at H
                      have c8b0 := eq_true c8
                      have c8b1 : decide (((strOfNums y255) ++ (⟨#[10]⟩ : ByteArray)).size + (strOfNums y255).size ≤ 9223372036854775807) = true := decide_eq_true c8
                      try have c8b2 : (9223372036854775807 < ((strOfNums y255) ++ (⟨#[10]⟩ : ByteArray)).size + (strOfNums y255).size) = False := eq_false (Nat.not_lt.2 c8)
                      by_cases c9 : 3 + (strOfNums y255).size ≤ 9223372036854775807
                      · rw [if_pos c9] at H
                        have c9b0 := eq_true c9
                        have c9b1 : decide (3 + (strOfNums y255).size ≤ 9223372036854775807) = true := decide_eq_true c9
                        try have c9b2 : (9223372036854775807 < 3 + (strOfNums y255).size) = False := eq_false (Nat.not_lt.2 c9)
                        obtain ⟨y258, hy258⟩ : ∃ y_ : List ByteArray, y_ = (([strOfNums y255, (⟨#[97]⟩ : ByteArray) ++ (strOfNums y255), (⟨#[49]⟩ : ByteArray) ++ (strOfNums y255), ((⟨#[97]⟩ : ByteArray) ++ (strOfNums y255)) ++ (⟨#[98]⟩ : ByteArray), (⟨#[34]⟩ : ByteArray) ++ (strOfNums y255), ((⟨#[34]⟩ : ByteArray) ++ (strOfNums y255)) ++ (⟨#[34]⟩ : ByteArray), ((⟨#[34, 92]⟩ : ByteArray) ++ (strOfNums y255)) ++ (⟨#[34]⟩ : ByteArray), (⟨#[35]⟩ : ByteArray) ++ (strOfNums y255), ((strOfNums y255) ++ (⟨#[10]⟩ : ByteArray)) ++ (strOfNums y255), (⟨#[123]⟩ : ByteArray) ++ (strOfNums y255), (⟨#[34, 97, 34]⟩ : ByteArray) ++ (strOfNums y255)] : List ByteArray)) := ⟨_, rfl⟩
                        replace H : (drayagelaw04_ScanKnown.l1 k1 x1_1 y258 0) = some r := by first | (rw [hy258]; with_reducible exact H) | (have H2_ := (Option.bind_some _ _).symm.trans H; rw [hy258]; with_reducible exact H2_) | (have H2_ := (Option.bind_some _ _).symm.trans H; with_reducible exact H2_) | with_reducible exact H | (rw [hy258]; exact H) | exact H
                        have Ny258 := Aside0.mk hy258
                        clear hy258
                        have H' := Aside0.mk H
                        clear H
                        go_wp2_with (first | ((with_reducible refine gate_dst (N := 22) rfl ?_); (try (refine gate_guard (by rfl) ?_; dsimp only)); refine Kd.R_lit (Kd.int .u8) _ 5 ?hg (N := 22) ?hd (xs := ([(x1_1) % 256] : List Int)) (inner := [.int .u8 ((x1_1) % 256)]) (ok := fun _ => True) (okp := fun _ => True) ?hr ?hp (fun _ hk => hk) trivial (Below.refl _ _) (Nat.le_refl _) (by simp) ?_; (case hd => rfl); (case hg => rfl); (case hr => first | (go_simp; done) | (go_simp; rfl)); (case hp => exact (Reps.one (show Kd.M (Kd.int .u8) _ _ _ ((x1_1) % 256) [.int .u8 ((x1_1) % 256)] from rfl) (Reps.none _ _))); intro v256 w10 ho11 hb hg_ hnew_; clear hg_ hnew_; (first | rw [← Ny255.out] at ho11 | (simp only [Int.reduceToNat] at ho11; rw [← Ny255.out] at ho11)); have n0_ := Aside0.mk (Kd.R_lower ho11 (below_size (by repeat (first | (with_reducible first | exact HB.out | apply below_alloc | apply pw_below_drewN | apply below_drew1) | exact HB.out)))); have n1_ := Aside0.mk (below_step (by repeat (first | (with_reducible first | exact HB.out | apply below_alloc | apply pw_below_drewN | apply below_drew1) | exact HB.out)) hb); clear HB; have HO257 := n0_; have HB := n1_; clear n0_ n1_; clear hb ho11; have hcv12 := own_string (P := Tryd.prog) Tryd.underlying37 Tryd.underlying5 Tryd.underlying9 (Kd.own_of_R HO257.out)) | ((with_reducible refine gate_dst (N := 50) rfl ?_); (try (refine gate_guard (by rfl) ?_; dsimp only)); refine Kd.R_lit Kd.string _ 9 ?hg (N := 50) ?hd (xs := ([strOfNums y255, (⟨#[97]⟩ : ByteArray) ++ (strOfNums y255), (⟨#[49]⟩ : ByteArray) ++ (strOfNums y255), ((⟨#[97]⟩ : ByteArray) ++ (strOfNums y255)) ++ (⟨#[98]⟩ : ByteArray), (⟨#[34]⟩ : ByteArray) ++ (strOfNums y255), ((⟨#[34]⟩ : ByteArray) ++ (strOfNums y255)) ++ (⟨#[34]⟩ : ByteArray), ((⟨#[34, 92]⟩ : ByteArray) ++ (strOfNums y255)) ++ (⟨#[34]⟩ : ByteArray), (⟨#[35]⟩ : ByteArray) ++ (strOfNums y255), ((strOfNums y255) ++ (⟨#[10]⟩ : ByteArray)) ++ (strOfNums y255), (⟨#[123]⟩ : ByteArray) ++ (strOfNums y255), (⟨#[34, 97, 34]⟩ : ByteArray) ++ (strOfNums y255)] : List ByteArray)) (inner := [.string (strOfNums y255), .string ((⟨#[97]⟩ : ByteArray) ++ (strOfNums y255)), .string ((⟨#[49]⟩ : ByteArray) ++ (strOfNums y255)), .string (((⟨#[97]⟩ : ByteArray) ++ (strOfNums y255)) ++ (⟨#[98]⟩ : ByteArray)), .string ((⟨#[34]⟩ : ByteArray) ++ (strOfNums y255)), .string (((⟨#[34]⟩ : ByteArray) ++ (strOfNums y255)) ++ (⟨#[34]⟩ : ByteArray)), .string (((⟨#[34, 92]⟩ : ByteArray) ++ (strOfNums y255)) ++ (⟨#[34]⟩ : ByteArray)), .string ((⟨#[35]⟩ : ByteArray) ++ (strOfNums y255)), .string (((strOfNums y255) ++ (⟨#[10]⟩ : ByteArray)) ++ (strOfNums y255)), .string ((⟨#[123]⟩ : ByteArray) ++ (strOfNums y255)), .string ((⟨#[34, 97, 34]⟩ : ByteArray) ++ (strOfNums y255))]) (ok := fun _ => True) (okp := fun _ => True) ?hr ?hp (fun _ hk => hk) trivial (Below.refl _ _) (Nat.le_refl _) (by simp) ?_; (case hd => rfl); (case hg => rfl); (case hr => first | (go_simp; done) | (go_simp; rfl)); (case hp => exact (Reps.one (show Kd.M Kd.string _ _ _ (strOfNums y255) [.string (strOfNums y255)] from rfl) (Reps.one (show Kd.M Kd.string _ _ _ ((⟨#[97]⟩ : ByteArray) ++ (strOfNums y255)) [.string ((⟨#[97]⟩ : ByteArray) ++ (strOfNums y255))] from rfl) (Reps.one (show Kd.M Kd.string _ _ _ ((⟨#[49]⟩ : ByteArray) ++ (strOfNums y255)) [.string ((⟨#[49]⟩ : ByteArray) ++ (strOfNums y255))] from rfl) (Reps.one (show Kd.M Kd.string _ _ _ (((⟨#[97]⟩ : ByteArray) ++ (strOfNums y255)) ++ (⟨#[98]⟩ : ByteArray)) [.string (((⟨#[97]⟩ : ByteArray) ++ (strOfNums y255)) ++ (⟨#[98]⟩ : ByteArray))] from rfl) (Reps.one (show Kd.M Kd.string _ _ _ ((⟨#[34]⟩ : ByteArray) ++ (strOfNums y255)) [.string ((⟨#[34]⟩ : ByteArray) ++ (strOfNums y255))] from rfl) (Reps.one (show Kd.M Kd.string _ _ _ (((⟨#[34]⟩ : ByteArray) ++ (strOfNums y255)) ++ (⟨#[34]⟩ : ByteArray)) [.string (((⟨#[34]⟩ : ByteArray) ++ (strOfNums y255)) ++ (⟨#[34]⟩ : ByteArray))] from rfl) (Reps.one (show Kd.M Kd.string _ _ _ (((⟨#[34, 92]⟩ : ByteArray) ++ (strOfNums y255)) ++ (⟨#[34]⟩ : ByteArray)) [.string (((⟨#[34, 92]⟩ : ByteArray) ++ (strOfNums y255)) ++ (⟨#[34]⟩ : ByteArray))] from rfl) (Reps.one (show Kd.M Kd.string _ _ _ ((⟨#[35]⟩ : ByteArray) ++ (strOfNums y255)) [.string ((⟨#[35]⟩ : ByteArray) ++ (strOfNums y255))] from rfl) (Reps.one (show Kd.M Kd.string _ _ _ (((strOfNums y255) ++ (⟨#[10]⟩ : ByteArray)) ++ (strOfNums y255)) [.string (((strOfNums y255) ++ (⟨#[10]⟩ : ByteArray)) ++ (strOfNums y255))] from rfl) (Reps.one (show Kd.M Kd.string _ _ _ ((⟨#[123]⟩ : ByteArray) ++ (strOfNums y255)) [.string ((⟨#[123]⟩ : ByteArray) ++ (strOfNums y255))] from rfl) (Reps.one (show Kd.M Kd.string _ _ _ ((⟨#[34, 97, 34]⟩ : ByteArray) ++ (strOfNums y255)) [.string ((⟨#[34, 97, 34]⟩ : ByteArray) ++ (strOfNums y255))] from rfl) (Reps.none _ _))))))))))))); intro v259 w13 ho14 hb hg_ hnew_; clear hg_ hnew_; (first | rw [← Ny258.out] at ho14 | (simp only [Int.reduceToNat] at ho14; rw [← Ny258.out] at ho14)); have n0_ := Aside0.mk (Kd.R_below (by (with_reducible repeat (first | apply Kd.R_alloc | apply Kd.R_drewN | apply Kd.R_drew)); exact HO257.out) hb); have n1_ := Aside0.mk (Kd.R_lower ho14 (below_size (by repeat (first | (with_reducible first | exact HB.out | apply below_alloc | apply pw_below_drewN | apply below_drew1) | exact HB.out)))); have n2_ := Aside0.mk (below_step (by repeat (first | (with_reducible first | exact HB.out | apply below_alloc | apply pw_below_drewN | apply below_drew1) | exact HB.out)) hb); clear HO257; clear HB; have HO257 := n0_; have HO260 := n1_; have HB := n2_; clear n0_ n1_ n2_; clear hb ho14))
                        go_loopg [4] k1 (fun kq v4 w' => ∃ (x4_2 : Int), v4 = .int .i64 x4_2 ∧ Aside0 (drayagelaw04_ScanKnown.l1 kq x1_1 y258 x4_2 = some r) ∧ Aside0 (kq ≤ k1) ∧ Aside0 (Kd.R Kd.string 9 w' w.heap.size (fun _ => True) v259 y258) ∧ Aside0 (Below w.heap.size w w'))
                        case atStart => exact ⟨(0), (by first | rfl | (simp; done) | (simp [*]; done)), H', ⟨Nat.le_refl _⟩, ⟨by (with_reducible repeat (first | apply Kd.R_alloc | apply Kd.R_drewN | apply Kd.R_drew)); exact HO260.out⟩, ⟨by repeat (first | (with_reducible first | exact HB.out | apply below_alloc | apply pw_below_drewN | apply below_drew1) | exact HB.out)⟩⟩
                        case round =>
                          clear H'
                          try clear c1
                          try clear c1b0
                          try clear hcv1
                          try clear c2
                          try clear c2b0
                          try clear c2b1
                          try clear c2b2
                          try clear p2
                          try clear c3
                          try clear c3b0
                          try clear c3b1
                          try clear c3b2
                          try clear c4
                          try clear c4b0
                          try clear c4b1
                          try clear c4b2
                          try clear c5
                          try clear c5b0
                          try clear c5b1
                          try clear c5b2
                          try clear c6
                          try clear c6b0
                          try clear c6b1
                          try clear c6b2
                          try clear c7
                          try clear c7b0
                          try clear c7b1
                          try clear c7b2
                          try clear c8
                          try clear c8b0
                          try clear c8b1
                          try clear c8b2
                          try clear c9
                          try clear c9b0
                          try clear c9b1
                          try clear c9b2
                          try clear hcv12
                          obtain ⟨x4_2, rfl, HA, HK2, HO_3, HB⟩ := hrel
                          cases gk with
                          | zero => exact absurd HA.out (by simp [drayagelaw04_ScanKnown.l1])
                          | succ k2 =>
                            have H := HA.out
                            clear HA
                            simp only [drayagelaw04_ScanKnown.l1] at H
                            by_cases c15 : x4_2 < (y258.length : Int)
                            · rw [if_pos c15] at H
                              have c15b0 : decide (x4_2 < (y258.length : Int)) = true := decide_eq_true c15
                              clear c15
                              by_cases c16 : 0 ≤ x4_2
                              · rw [if_pos c16] at H
                                have c16b0 : decide (0 ≤ x4_2) = true := decide_eq_true c16
                                clear c16
                                replace H := Option.bind_eq_some_iff.mp H
                                obtain ⟨t262, A170, H⟩ := H
                                replace H : (if t262 = true then ((drayagelaw04_ScanQuotes.f k2 (rdOf ByteArray.empty y258 x4_2)).bind fun t264 => (if t264 = true then (drayagelaw04_ScanKnown.l1 k2 x1_1 y258 (wrap64 (x4_2 + 1))) else (some false))) else (some false)) = some r := H
                                have A17 := Aside0.mk A170
                                clear A170
                                by_cases c18 : t262 = true
                                · subst c18
                                  have H1 : ((drayagelaw04_ScanQuotes.f k2 (rdOf ByteArray.empty y258 x4_2)).bind fun t264 => (if t264 = true then (drayagelaw04_ScanKnown.l1 k2 x1_1 y258 (wrap64 (x4_2 + 1))) else (some false))) = some r := by rw [if_pos rfl] at H; exact H
                                  clear H
                                  have H := H1
                                  clear H1
                                  replace H := Option.bind_eq_some_iff.mp H
                                  obtain ⟨t264, A190, H⟩ := H
                                  replace H : (if t264 = true then (drayagelaw04_ScanKnown.l1 k2 x1_1 y258 (wrap64 (x4_2 + 1))) else (some false)) = some r := H
                                  have A19 := Aside0.mk A190
                                  clear A190
                                  by_cases c20 : t264 = true
                                  · subst c20
                                    have H1 : (drayagelaw04_ScanKnown.l1 k2 x1_1 y258 (wrap64 (x4_2 + 1))) = some r := by rw [if_pos rfl] at H; exact H
                                    clear H
                                    have H := H1
                                    clear H1
                                    have H' := Aside0.mk H
                                    clear H
                                    obtain ⟨Ao21, co21, eo21⟩ := Kd.R_slice HO_3.out
                                    subst eo21
                                    have p261 : 0 ≤ (x4_2 : Int) := of_decide_eq_true (by first | (with_reducible assumption) | assumption)
                                    have q261 : x4_2 < (y258.length : Int) := of_decide_eq_true (by first | (with_reducible assumption) | assumption)
                                    obtain ⟨ad261, e261, hx261_0⟩ := Kd.at_string (Kd.R_reads' HO_3.out).2.2 x4_2 p261 q261
                                    cases e261
                                    replace p261 := eq_true p261
                                    replace q261 := eq_true q261
                                    go_wp2_with (first | ((with_reducible refine gate_callee (f := 4) rfl ?_); refine goesL_ (some 62) rfl rfl Tryd.func4 (by kernel_rfl) rfl #[.string (rdOf ByteArray.empty y258 x4_2), .int .i64 x4_2] rfl (by (try simp only [List.map_toArray, List.map_cons, List.map_nil]); first | done | rfl | (simp only [List.length_drop, List.length_take]; rfl)) ?_; (with_reducible refine (drayagelaw04_ScanWords.calls k2 (rdOf ByteArray.empty y258 x4_2) x4_2 true _ A17.out ?sideT_).mono ?_); (case sideT_ => first | exact hT_.out | exact hT_.out.up (by repeat (first | (with_reducible first | exact HB.out | apply below_alloc | apply pw_below_drewN | apply below_drew1) | exact HB.out))); rintro e w22 ⟨rfl, hb⟩; refine ⟨_, rfl, ?_⟩; have n0_ := Aside0.mk (Kd.R_below (by (with_reducible repeat (first | apply Kd.R_alloc | apply Kd.R_drewN | apply Kd.R_drew)); exact HO_3.out) hb); have n1_ := Aside0.mk (below_step (by repeat (first | (with_reducible first | exact HB.out | apply below_alloc | apply pw_below_drewN | apply below_drew1) | exact HB.out)) hb); clear HO_3; clear HB; have HO_3 := n0_; have HB := n1_; clear n0_ n1_; (try clear hb); (try clear hb2); (try clear hk); (try clear hi); have p263 : 0 ≤ (x4_2 : Int) := of_decide_eq_true (by first | (with_reducible assumption) | assumption); have q263 : x4_2 < (y258.length : Int) := of_decide_eq_true (by first | (with_reducible assumption) | assumption); obtain ⟨ad263, e263, hx263_0⟩ := Kd.at_string (Kd.R_reads' HO_3.out).2.2 x4_2 p263 q263; obtain rfl : ad261 = ad263 := (by injection e263); replace p263 := eq_true p263; replace q263 := eq_true q263) | (go_at_call 5; (with_reducible refine (drayagelaw04_ScanQuotes.calls k2 (rdOf ByteArray.empty y258 x4_2) true _ A19.out ?sideT_).mono ?_); (case sideT_ => first | exact hT_.out | exact hT_.out.up (by repeat (first | (with_reducible first | exact HB.out | apply below_alloc | apply pw_below_drewN | apply below_drew1) | exact HB.out))); rintro e w23 ⟨rfl, hb⟩; have n0_ := Aside0.mk (Kd.R_below (by (with_reducible repeat (first | apply Kd.R_alloc | apply Kd.R_drewN | apply Kd.R_drew)); exact HO_3.out) hb); have n1_ := Aside0.mk (below_step (by repeat (first | (with_reducible first | exact HB.out | apply below_alloc | apply pw_below_drewN | apply below_drew1) | exact HB.out)) hb); clear HO_3; clear HB; have HO_3 := n0_; have HB := n1_; clear n0_ n1_; (try clear hb); (try clear hb2); (try clear hk); (try clear hi)))
                                    go_roundg k2
                                    case measure => have := HK1.out; have := HK2.out; omega
                                    case rel => exact ⟨(wrap64 (x4_2 + 1)), (by first | rfl | (simp; done) | (simp [*]; done)), H', ⟨by have := HK1.out; have := HK2.out; omega⟩, ⟨by (with_reducible repeat (first | apply Kd.R_alloc | apply Kd.R_drewN | apply Kd.R_drew)); exact HO_3.out⟩, ⟨by repeat (first | (with_reducible first | exact HB.out | apply below_alloc | apply pw_below_drewN | apply below_drew1) | exact HB.out)⟩⟩
                                  · replace c20 := Bool.eq_false_iff.mpr c20
                                    subst c20
                                    have H1 : (some false) = some r := by rw [if_neg (show ¬ (false = true) by decide)] at H; exact H
                                    clear H
                                    have H := H1
                                    clear H1
                                    obtain rfl := Option.some.inj H
                                    obtain ⟨Ao24, co24, eo24⟩ := Kd.R_slice HO_3.out
                                    subst eo24
                                    have p261 : 0 ≤ (x4_2 : Int) := of_decide_eq_true (by first | (with_reducible assumption) | assumption)
                                    have q261 : x4_2 < (y258.length : Int) := of_decide_eq_true (by first | (with_reducible assumption) | assumption)
                                    obtain ⟨ad261, e261, hx261_0⟩ := Kd.at_string (Kd.R_reads' HO_3.out).2.2 x4_2 p261 q261
                                    cases e261
                                    replace p261 := eq_true p261
                                    replace q261 := eq_true q261
                                    go_wp2_with (first | ((with_reducible refine gate_callee (f := 4) rfl ?_); refine goesL_ (some 62) rfl rfl Tryd.func4 (by kernel_rfl) rfl #[.string (rdOf ByteArray.empty y258 x4_2), .int .i64 x4_2] rfl (by (try simp only [List.map_toArray, List.map_cons, List.map_nil]); first | done | rfl | (simp only [List.length_drop, List.length_take]; rfl)) ?_; (with_reducible refine (drayagelaw04_ScanWords.calls k2 (rdOf ByteArray.empty y258 x4_2) x4_2 true _ A17.out ?sideT_).mono ?_); (case sideT_ => first | exact hT_.out | exact hT_.out.up (by repeat (first | (with_reducible first | exact HB.out | apply below_alloc | apply pw_below_drewN | apply below_drew1) | exact HB.out))); rintro e w25 ⟨rfl, hb⟩; refine ⟨_, rfl, ?_⟩; have n0_ := Aside0.mk (Kd.R_below (by (with_reducible repeat (first | apply Kd.R_alloc | apply Kd.R_drewN | apply Kd.R_drew)); exact HO_3.out) hb); have n1_ := Aside0.mk (below_step (by repeat (first | (with_reducible first | exact HB.out | apply below_alloc | apply pw_below_drewN | apply below_drew1) | exact HB.out)) hb); clear HO_3; clear HB; have HO_3 := n0_; have HB := n1_; clear n0_ n1_; (try clear hb); (try clear hb2); (try clear hk); (try clear hi); have p263 : 0 ≤ (x4_2 : Int) := of_decide_eq_true (by first | (with_reducible assumption) | assumption); have q263 : x4_2 < (y258.length : Int) := of_decide_eq_true (by first | (with_reducible assumption) | assumption); obtain ⟨ad263, e263, hx263_0⟩ := Kd.at_string (Kd.R_reads' HO_3.out).2.2 x4_2 p263 q263; obtain rfl : ad261 = ad263 := (by injection e263); replace p263 := eq_true p263; replace q263 := eq_true q263) | (go_at_call 5; (with_reducible refine (drayagelaw04_ScanQuotes.calls k2 (rdOf ByteArray.empty y258 x4_2) false _ A19.out ?sideT_).mono ?_); (case sideT_ => first | exact hT_.out | exact hT_.out.up (by repeat (first | (with_reducible first | exact HB.out | apply below_alloc | apply pw_below_drewN | apply below_drew1) | exact HB.out))); rintro e w26 ⟨rfl, hb⟩; have n0_ := Aside0.mk (Kd.R_below (by (with_reducible repeat (first | apply Kd.R_alloc | apply Kd.R_drewN | apply Kd.R_drew)); exact HO_3.out) hb); have n1_ := Aside0.mk (below_step (by repeat (first | (with_reducible first | exact HB.out | apply below_alloc | apply pw_below_drewN | apply below_drew1) | exact HB.out)) hb); clear HO_3; clear HB; have HO_3 := n0_; have HB := n1_; clear n0_ n1_; (try clear hb); (try clear hb2); (try clear hk); (try clear hi)))
                                    go_ret
                                    exact ⟨by first | rfl | (simp [errW_none, errW_some] <;> rfl) | (simp [*, errW_none, errW_some] <;> rfl), by repeat (first | (with_reducible first | exact HB.out | apply below_alloc | apply pw_below_drewN | apply below_drew1) | exact HB.out)⟩
                                · replace c18 := Bool.eq_false_iff.mpr c18
                                  subst c18
                                  have H1 : (some false) = some r := by rw [if_neg (show ¬ (false = true) by decide)] at H; exact H
                                  clear H
                                  have H := H1
                                  clear H1
                                  obtain rfl := Option.some.inj H
                                  obtain ⟨Ao27, co27, eo27⟩ := Kd.R_slice HO_3.out
                                  subst eo27
                                  have p261 : 0 ≤ (x4_2 : Int) := of_decide_eq_true (by first | (with_reducible assumption) | assumption)
                                  have q261 : x4_2 < (y258.length : Int) := of_decide_eq_true (by first | (with_reducible assumption) | assumption)
                                  obtain ⟨ad261, e261, hx261_0⟩ := Kd.at_string (Kd.R_reads' HO_3.out).2.2 x4_2 p261 q261
                                  cases e261
                                  replace p261 := eq_true p261
                                  replace q261 := eq_true q261
                                  go_wp2_with (first | ((with_reducible refine gate_callee (f := 4) rfl ?_); refine goesL_ (some 62) rfl rfl Tryd.func4 (by kernel_rfl) rfl #[.string (rdOf ByteArray.empty y258 x4_2), .int .i64 x4_2] rfl (by (try simp only [List.map_toArray, List.map_cons, List.map_nil]); first | done | rfl | (simp only [List.length_drop, List.length_take]; rfl)) ?_; (with_reducible refine (drayagelaw04_ScanWords.calls k2 (rdOf ByteArray.empty y258 x4_2) x4_2 false _ A17.out ?sideT_).mono ?_); (case sideT_ => first | exact hT_.out | exact hT_.out.up (by repeat (first | (with_reducible first | exact HB.out | apply below_alloc | apply pw_below_drewN | apply below_drew1) | exact HB.out))); rintro e w28 ⟨rfl, hb⟩; refine ⟨_, rfl, ?_⟩; have n0_ := Aside0.mk (Kd.R_below (by (with_reducible repeat (first | apply Kd.R_alloc | apply Kd.R_drewN | apply Kd.R_drew)); exact HO_3.out) hb); have n1_ := Aside0.mk (below_step (by repeat (first | (with_reducible first | exact HB.out | apply below_alloc | apply pw_below_drewN | apply below_drew1) | exact HB.out)) hb); clear HO_3; clear HB; have HO_3 := n0_; have HB := n1_; clear n0_ n1_; (try clear hb); (try clear hb2); (try clear hk); (try clear hi)))
                                  go_ret
                                  exact ⟨by first | rfl | (simp [errW_none, errW_some] <;> rfl) | (simp [*, errW_none, errW_some] <;> rfl), by repeat (first | (with_reducible first | exact HB.out | apply below_alloc | apply pw_below_drewN | apply below_drew1) | exact HB.out)⟩
                              · rw [if_neg c16] at H
                                exact absurd H (by simp)
                            · rw [if_neg c15] at H
                              have c15b0 : decide (x4_2 < (y258.length : Int)) = false := decide_eq_false c15
                              clear c15
                              have H' := Aside0.mk H
                              clear H
                              obtain ⟨Ao29, co29, eo29⟩ := Kd.R_slice HO_3.out
                              subst eo29
                              go_wp2
                              go_roundg k2
                              case measure => have := HK1.out; have := HK2.out; omega
                              case rel => exact ⟨(wrap64 (x1_1 + 1)), (by first | rfl | (simp; done) | (simp [*]; done)), H', ⟨by have := HK1.out; have := HK2.out; omega⟩, ⟨by repeat (first | (with_reducible first | exact HB.out | apply below_alloc | apply pw_below_drewN | apply below_drew1) | exact HB.out)⟩⟩
                      · rw [if_neg c9] at H
                        exact absurd H (by simp)
                    · rw [if_neg c8] at H
                      exact absurd H (by simp)
                  · rw [if_neg c7] at H
                    exact absurd H (by simp)
                · rw [if_neg c6] at H
                  exact absurd H (by simp)
              · rw [if_neg c5] at H
                exact absurd H (by simp)
            · rw [if_neg c4] at H
              exact absurd H (by simp)
          · rw [if_neg c3] at H
            exact absurd H (by simp)
        · rw [if_neg c2] at H
          exact absurd H (by simp)
      · rw [if_neg c1] at H
        have c1b0 : decide (x1_1 < 256) = false := decide_eq_false c1
        clear c1
        obtain ⟨y265, hy265⟩ : ∃ y_ : List ByteArray, y_ = (([(⟨#[]⟩ : ByteArray), (⟨#[10]⟩ : ByteArray), (⟨#[195, 169]⟩ : ByteArray), (⟨#[97, 255]⟩ : ByteArray), (⟨#[35, 255]⟩ : ByteArray), (⟨#[34, 195, 34]⟩ : ByteArray), (⟨#[239, 191, 189]⟩ : ByteArray), (⟨#[34, 239, 191, 189, 34]⟩ : ByteArray), (⟨#[34, 97, 10, 98, 34]⟩ : ByteArray), (⟨#[34, 97, 92]⟩ : ByteArray), (⟨#[34, 97, 92, 10, 98, 34]⟩ : ByteArray), (⟨#[97, 49, 45]⟩ : ByteArray), (⟨#[45, 97]⟩ : ByteArray), (⟨#[49, 97, 46, 66, 37]⟩ : ByteArray), (⟨#[37, 49]⟩ : ByteArray), (⟨#[46, 53]⟩ : ByteArray)] : List ByteArray)) := ⟨_, rfl⟩
        replace H : (drayagelaw04_ScanKnown.l2 k1 y265 0) = some r := by first | (rw [hy265]; with_reducible exact H) | (have H2_ := (Option.bind_some _ _).symm.trans H; rw [hy265]; with_reducible exact H2_) | (have H2_ := (Option.bind_some _ _).symm.trans H; with_reducible exact H2_) | with_reducible exact H | (rw [hy265]; exact H) | exact H
        have Ny265 := Aside0.mk hy265
        clear hy265
        have H' := Aside0.mk H
        clear H
        go_wp2_with (first | ((with_reducible refine gate_dst (N := 72) rfl ?_); (try (refine gate_guard (by rfl) ?_; dsimp only)); refine Kd.R_lit Kd.string _ 9 ?hg (N := 72) ?hd (xs := ([(⟨#[]⟩ : ByteArray), (⟨#[10]⟩ : ByteArray), (⟨#[195, 169]⟩ : ByteArray), (⟨#[97, 255]⟩ : ByteArray), (⟨#[35, 255]⟩ : ByteArray), (⟨#[34, 195, 34]⟩ : ByteArray), (⟨#[239, 191, 189]⟩ : ByteArray), (⟨#[34, 239, 191, 189, 34]⟩ : ByteArray), (⟨#[34, 97, 10, 98, 34]⟩ : ByteArray), (⟨#[34, 97, 92]⟩ : ByteArray), (⟨#[34, 97, 92, 10, 98, 34]⟩ : ByteArray), (⟨#[97, 49, 45]⟩ : ByteArray), (⟨#[45, 97]⟩ : ByteArray), (⟨#[49, 97, 46, 66, 37]⟩ : ByteArray), (⟨#[37, 49]⟩ : ByteArray), (⟨#[46, 53]⟩ : ByteArray)] : List ByteArray)) (inner := [.string (⟨#[]⟩ : ByteArray), .string (⟨#[10]⟩ : ByteArray), .string (⟨#[195, 169]⟩ : ByteArray), .string (⟨#[97, 255]⟩ : ByteArray), .string (⟨#[35, 255]⟩ : ByteArray), .string (⟨#[34, 195, 34]⟩ : ByteArray), .string (⟨#[239, 191, 189]⟩ : ByteArray), .string (⟨#[34, 239, 191, 189, 34]⟩ : ByteArray), .string (⟨#[34, 97, 10, 98, 34]⟩ : ByteArray), .string (⟨#[34, 97, 92]⟩ : ByteArray), .string (⟨#[34, 97, 92, 10, 98, 34]⟩ : ByteArray), .string (⟨#[97, 49, 45]⟩ : ByteArray), .string (⟨#[45, 97]⟩ : ByteArray), .string (⟨#[49, 97, 46, 66, 37]⟩ : ByteArray), .string (⟨#[37, 49]⟩ : ByteArray), .string (⟨#[46, 53]⟩ : ByteArray)]) (ok := fun _ => True) (okp := fun _ => True) ?hr ?hp (fun _ hk => hk) trivial (Below.refl _ _) (Nat.le_refl _) (by simp) ?_; (case hd => rfl); (case hg => rfl); (case hr => first | (go_simp; done) | (go_simp; rfl)); (case hp => exact (Reps.one (show Kd.M Kd.string _ _ _ (⟨#[]⟩ : ByteArray) [.string (⟨#[]⟩ : ByteArray)] from rfl) (Reps.one (show Kd.M Kd.string _ _ _ (⟨#[10]⟩ : ByteArray) [.string (⟨#[10]⟩ : ByteArray)] from rfl) (Reps.one (show Kd.M Kd.string _ _ _ (⟨#[195, 169]⟩ : ByteArray) [.string (⟨#[195, 169]⟩ : ByteArray)] from rfl) (Reps.one (show Kd.M Kd.string _ _ _ (⟨#[97, 255]⟩ : ByteArray) [.string (⟨#[97, 255]⟩ : ByteArray)] from rfl) (Reps.one (show Kd.M Kd.string _ _ _ (⟨#[35, 255]⟩ : ByteArray) [.string (⟨#[35, 255]⟩ : ByteArray)] from rfl) (Reps.one (show Kd.M Kd.string _ _ _ (⟨#[34, 195, 34]⟩ : ByteArray) [.string (⟨#[34, 195, 34]⟩ : ByteArray)] from rfl) (Reps.one (show Kd.M Kd.string _ _ _ (⟨#[239, 191, 189]⟩ : ByteArray) [.string (⟨#[239, 191, 189]⟩ : ByteArray)] from rfl) (Reps.one (show Kd.M Kd.string _ _ _ (⟨#[34, 239, 191, 189, 34]⟩ : ByteArray) [.string (⟨#[34, 239, 191, 189, 34]⟩ : ByteArray)] from rfl) (Reps.one (show Kd.M Kd.string _ _ _ (⟨#[34, 97, 10, 98, 34]⟩ : ByteArray) [.string (⟨#[34, 97, 10, 98, 34]⟩ : ByteArray)] from rfl) (Reps.one (show Kd.M Kd.string _ _ _ (⟨#[34, 97, 92]⟩ : ByteArray) [.string (⟨#[34, 97, 92]⟩ : ByteArray)] from rfl) (Reps.one (show Kd.M Kd.string _ _ _ (⟨#[34, 97, 92, 10, 98, 34]⟩ : ByteArray) [.string (⟨#[34, 97, 92, 10, 98, 34]⟩ : ByteArray)] from rfl) (Reps.one (show Kd.M Kd.string _ _ _ (⟨#[97, 49, 45]⟩ : ByteArray) [.string (⟨#[97, 49, 45]⟩ : ByteArray)] from rfl) (Reps.one (show Kd.M Kd.string _ _ _ (⟨#[45, 97]⟩ : ByteArray) [.string (⟨#[45, 97]⟩ : ByteArray)] from rfl) (Reps.one (show Kd.M Kd.string _ _ _ (⟨#[49, 97, 46, 66, 37]⟩ : ByteArray) [.string (⟨#[49, 97, 46, 66, 37]⟩ : ByteArray)] from rfl) (Reps.one (show Kd.M Kd.string _ _ _ (⟨#[37, 49]⟩ : ByteArray) [.string (⟨#[37, 49]⟩ : ByteArray)] from rfl) (Reps.one (show Kd.M Kd.string _ _ _ (⟨#[46, 53]⟩ : ByteArray) [.string (⟨#[46, 53]⟩ : ByteArray)] from rfl) (Reps.none _ _)))))))))))))))))); intro v266 w30 ho31 hb hg_ hnew_; clear hg_ hnew_; (first | rw [← Ny265.out] at ho31 | (simp only [Int.reduceToNat] at ho31; rw [← Ny265.out] at ho31)); have n0_ := Aside0.mk (Kd.R_lower ho31 (below_size (by repeat (first | (with_reducible first | exact HB.out | apply below_alloc | apply pw_below_drewN | apply below_drew1) | exact HB.out)))); have n1_ := Aside0.mk (below_step (by repeat (first | (with_reducible first | exact HB.out | apply below_alloc | apply pw_below_drewN | apply below_drew1) | exact HB.out)) hb); clear HB; have HO267 := n0_; have HB := n1_; clear n0_ n1_; clear hb ho31))
        go_loopg [6] k1 (fun kq v6 w' => ∃ (x6_2 : Int), v6 = .int .i64 x6_2 ∧ Aside0 (drayagelaw04_ScanKnown.l2 kq y265 x6_2 = some r) ∧ Aside0 (kq ≤ k1) ∧ Aside0 (Kd.R Kd.string 9 w' w.heap.size (fun _ => True) v266 y265) ∧ Aside0 (Below w.heap.size w w'))
        case atStart => exact ⟨(0), (by first | rfl | (simp; done) | (simp [*]; done)), H', ⟨Nat.le_refl _⟩, ⟨by (with_reducible repeat (first | apply Kd.R_alloc | apply Kd.R_drewN | apply Kd.R_drew)); exact HO267.out⟩, ⟨by repeat (first | (with_reducible first | exact HB.out | apply below_alloc | apply pw_below_drewN | apply below_drew1) | exact HB.out)⟩⟩
        case round =>
          clear H'
          try clear c1
          try clear c1b0
          try clear hcv1
          try clear c2
          try clear c2b0
          try clear c2b1
          try clear c2b2
          try clear p2
          try clear q2
          try clear hx2
          try clear c3
          try clear c3b0
          try clear c3b1
          try clear c3b2
          try clear c4
          try clear c4b0
          try clear c4b1
          try clear c4b2
          try clear c5
          try clear c5b0
          try clear c5b1
          try clear c5b2
          try clear c6
          try clear c6b0
          try clear c6b1
          try clear c6b2
          try clear p6
          try clear c7
          try clear c7b0
          try clear c7b1
          try clear c7b2
          try clear c8
          try clear c8b0
          try clear c8b1
          try clear c8b2
          try clear c9
          try clear c9b0
          try clear c9b1
          try clear c9b2
          try clear hcv12
          try clear c15
          try clear c15b0
          try clear c16
          try clear c16b0
          try clear c18
          try clear c20
          try clear p26
          try clear q26
          try clear hx26
          try clear hx261_0
          try clear hx263_0
          try clear p2
          try clear p261
          try clear p263
          try clear q261
          try clear q263
          obtain ⟨x6_2, rfl, HA, HK2, HO_5, HB⟩ := hrel
          cases gk with
          | zero => exact absurd HA.out (by simp [drayagelaw04_ScanKnown.l2])
          | succ k2 =>
            have H := HA.out
            clear HA
            simp only [drayagelaw04_ScanKnown.l2] at H
            by_cases c32 : x6_2 < (y265.length : Int)
            · rw [if_pos c32] at H
              have c32b0 : decide (x6_2 < (y265.length : Int)) = true := decide_eq_true c32
              clear c32
              by_cases c33 : 0 ≤ x6_2
              · rw [if_pos c33] at H
                have c33b0 : decide (0 ≤ x6_2) = true := decide_eq_true c33
                clear c33
                replace H := Option.bind_eq_some_iff.mp H
                obtain ⟨t269, A340, H⟩ := H
                replace H : (if t269 = true then ((drayagelaw04_ScanQuotes.f k2 (rdOf ByteArray.empty y265 x6_2)).bind fun t271 => (if t271 = true then (drayagelaw04_ScanKnown.l2 k2 y265 (wrap64 (x6_2 + 1))) else (some false))) else (some false)) = some r := H
                have A34 := Aside0.mk A340
                clear A340
                by_cases c35 : t269 = true
                · subst c35
                  have H1 : ((drayagelaw04_ScanQuotes.f k2 (rdOf ByteArray.empty y265 x6_2)).bind fun t271 => (if t271 = true then (drayagelaw04_ScanKnown.l2 k2 y265 (wrap64 (x6_2 + 1))) else (some false))) = some r := by rw [if_pos rfl] at H; exact H
                  clear H
                  have H := H1
                  clear H1
                  replace H := Option.bind_eq_some_iff.mp H
                  obtain ⟨t271, A360, H⟩ := H
                  replace H : (if t271 = true then (drayagelaw04_ScanKnown.l2 k2 y265 (wrap64 (x6_2 + 1))) else (some false)) = some r := H
                  have A36 := Aside0.mk A360
                  clear A360
                  by_cases c37 : t271 = true
                  · subst c37
                    have H1 : (drayagelaw04_ScanKnown.l2 k2 y265 (wrap64 (x6_2 + 1))) = some r := by rw [if_pos rfl] at H; exact H
                    clear H
                    have H := H1
                    clear H1
                    have H' := Aside0.mk H
                    clear H
                    obtain ⟨Ao38, co38, eo38⟩ := Kd.R_slice HO_5.out
                    subst eo38
                    have p268 : 0 ≤ (x6_2 : Int) := of_decide_eq_true (by first | (with_reducible assumption) | assumption)
                    have q268 : x6_2 < (y265.length : Int) := of_decide_eq_true (by first | (with_reducible assumption) | assumption)
                    obtain ⟨ad268, e268, hx268_0⟩ := Kd.at_string (Kd.R_reads' HO_5.out).2.2 x6_2 p268 q268
                    cases e268
                    replace p268 := eq_true p268
                    replace q268 := eq_true q268
                    go_wp2_with (first | ((with_reducible refine gate_callee (f := 4) rfl ?_); refine goesL_ (some 83) rfl rfl Tryd.func4 (by kernel_rfl) rfl #[.string (rdOf ByteArray.empty y265 x6_2), .int .i64 (-1)] rfl (by (try simp only [List.map_toArray, List.map_cons, List.map_nil]); first | done | rfl | (simp only [List.length_drop, List.length_take]; rfl)) ?_; (with_reducible refine (drayagelaw04_ScanWords.calls k2 (rdOf ByteArray.empty y265 x6_2) (-1) true _ A34.out ?sideT_).mono ?_); (case sideT_ => first | exact hT_.out | exact hT_.out.up (by repeat (first | (with_reducible first | exact HB.out | apply below_alloc | apply pw_below_drewN | apply below_drew1) | exact HB.out))); rintro e w39 ⟨rfl, hb⟩; refine ⟨_, rfl, ?_⟩; have n0_ := Aside0.mk (Kd.R_below (by (with_reducible repeat (first | apply Kd.R_alloc | apply Kd.R_drewN | apply Kd.R_drew)); exact HO_5.out) hb); have n1_ := Aside0.mk (below_step (by repeat (first | (with_reducible first | exact HB.out | apply below_alloc | apply pw_below_drewN | apply below_drew1) | exact HB.out)) hb); clear HO_5; clear HB; have HO_5 := n0_; have HB := n1_; clear n0_ n1_; (try clear hb); (try clear hb2); (try clear hk); (try clear hi); have p270 : 0 ≤ (x6_2 : Int) := of_decide_eq_true (by first | (with_reducible assumption) | assumption); have q270 : x6_2 < (y265.length : Int) := of_decide_eq_true (by first | (with_reducible assumption) | assumption); obtain ⟨ad270, e270, hx270_0⟩ := Kd.at_string (Kd.R_reads' HO_5.out).2.2 x6_2 p270 q270; obtain rfl : ad268 = ad270 := (by injection e270); replace p270 := eq_true p270; replace q270 := eq_true q270) | (go_at_call 5; (with_reducible refine (drayagelaw04_ScanQuotes.calls k2 (rdOf ByteArray.empty y265 x6_2) true _ A36.out ?sideT_).mono ?_); (case sideT_ => first | exact hT_.out | exact hT_.out.up (by repeat (first | (with_reducible first | exact HB.out | apply below_alloc | apply pw_below_drewN | apply below_drew1) | exact HB.out))); rintro e w40 ⟨rfl, hb⟩; have n0_ := Aside0.mk (Kd.R_below (by (with_reducible repeat (first | apply Kd.R_alloc | apply Kd.R_drewN | apply Kd.R_drew)); exact HO_5.out) hb); have n1_ := Aside0.mk (below_step (by repeat (first | (with_reducible first | exact HB.out | apply below_alloc | apply pw_below_drewN | apply below_drew1) | exact HB.out)) hb); clear HO_5; clear HB; have HO_5 := n0_; have HB := n1_; clear n0_ n1_; (try clear hb); (try clear hb2); (try clear hk); (try clear hi)))
                    go_roundg k2
                    case measure => have := HK1.out; have := HK2.out; omega
                    case rel => exact ⟨(wrap64 (x6_2 + 1)), (by first | rfl | (simp; done) | (simp [*]; done)), H', ⟨by have := HK1.out; have := HK2.out; omega⟩, ⟨by (with_reducible repeat (first | apply Kd.R_alloc | apply Kd.R_drewN | apply Kd.R_drew)); exact HO_5.out⟩, ⟨by repeat (first | (with_reducible first | exact HB.out | apply below_alloc | apply pw_below_drewN | apply below_drew1) | exact HB.out)⟩⟩
                  · replace c37 := Bool.eq_false_iff.mpr c37
                    subst c37
                    have H1 : (some false) = some r := by rw [if_neg (show ¬ (false = true) by decide)] at H; exact H
                    clear H
                    have H := H1
                    clear H1
                    obtain rfl := Option.some.inj H
                    obtain ⟨Ao41, co41, eo41⟩ := Kd.R_slice HO_5.out
                    subst eo41
                    have p268 : 0 ≤ (x6_2 : Int) := of_decide_eq_true (by first | (with_reducible assumption) | assumption)
                    have q268 : x6_2 < (y265.length : Int) := of_decide_eq_true (by first | (with_reducible assumption) | assumption)
                    obtain ⟨ad268, e268, hx268_0⟩ := Kd.at_string (Kd.R_reads' HO_5.out).2.2 x6_2 p268 q268
                    cases e268
                    replace p268 := eq_true p268
                    replace q268 := eq_true q268
                    go_wp2_with (first | ((with_reducible refine gate_callee (f := 4) rfl ?_); refine goesL_ (some 83) rfl rfl Tryd.func4 (by kernel_rfl) rfl #[.string (rdOf ByteArray.empty y265 x6_2), .int .i64 (-1)] rfl (by (try simp only [List.map_toArray, List.map_cons, List.map_nil]); first | done | rfl | (simp only [List.length_drop, List.length_take]; rfl)) ?_; (with_reducible refine (drayagelaw04_ScanWords.calls k2 (rdOf ByteArray.empty y265 x6_2) (-1) true _ A34.out ?sideT_).mono ?_); (case sideT_ => first | exact hT_.out | exact hT_.out.up (by repeat (first | (with_reducible first | exact HB.out | apply below_alloc | apply pw_below_drewN | apply below_drew1) | exact HB.out))); rintro e w42 ⟨rfl, hb⟩; refine ⟨_, rfl, ?_⟩; have n0_ := Aside0.mk (Kd.R_below (by (with_reducible repeat (first | apply Kd.R_alloc | apply Kd.R_drewN | apply Kd.R_drew)); exact HO_5.out) hb); have n1_ := Aside0.mk (below_step (by repeat (first | (with_reducible first | exact HB.out | apply below_alloc | apply pw_below_drewN | apply below_drew1) | exact HB.out)) hb); clear HO_5; clear HB; have HO_5 := n0_; have HB := n1_; clear n0_ n1_; (try clear hb); (try clear hb2); (try clear hk); (try clear hi); have p270 : 0 ≤ (x6_2 : Int) := of_decide_eq_true (by first | (with_reducible assumption) | assumption); have q270 : x6_2 < (y265.length : Int) := of_decide_eq_true (by first | (with_reducible assumption) | assumption); obtain ⟨ad270, e270, hx270_0⟩ := Kd.at_string (Kd.R_reads' HO_5.out).2.2 x6_2 p270 q270; obtain rfl : ad268 = ad270 := (by injection e270); replace p270 := eq_true p270; replace q270 := eq_true q270) | (go_at_call 5; (with_reducible refine (drayagelaw04_ScanQuotes.calls k2 (rdOf ByteArray.empty y265 x6_2) false _ A36.out ?sideT_).mono ?_); (case sideT_ => first | exact hT_.out | exact hT_.out.up (by repeat (first | (with_reducible first | exact HB.out | apply below_alloc | apply pw_below_drewN | apply below_drew1) | exact HB.out))); rintro e w43 ⟨rfl, hb⟩; have n0_ := Aside0.mk (Kd.R_below (by (with_reducible repeat (first | apply Kd.R_alloc | apply Kd.R_drewN | apply Kd.R_drew)); exact HO_5.out) hb); have n1_ := Aside0.mk (below_step (by repeat (first | (with_reducible first | exact HB.out | apply below_alloc | apply pw_below_drewN | apply below_drew1) | exact HB.out)) hb); clear HO_5; clear HB; have HO_5 := n0_; have HB := n1_; clear n0_ n1_; (try clear hb); (try clear hb2); (try clear hk); (try clear hi)))
                    go_ret
                    exact ⟨by first | rfl | (simp [errW_none, errW_some] <;> rfl) | (simp [*, errW_none, errW_some] <;> rfl), by repeat (first | (with_reducible first | exact HB.out | apply below_alloc | apply pw_below_drewN | apply below_drew1) | exact HB.out)⟩
                · replace c35 := Bool.eq_false_iff.mpr c35
                  subst c35
                  have H1 : (some false) = some r := by rw [if_neg (show ¬ (false = true) by decide)] at H; exact H
                  clear H
                  have H := H1
                  clear H1
                  obtain rfl := Option.some.inj H
                  obtain ⟨Ao44, co44, eo44⟩ := Kd.R_slice HO_5.out
                  subst eo44
                  have p268 : 0 ≤ (x6_2 : Int) := of_decide_eq_true (by first | (with_reducible assumption) | assumption)
                  have q268 : x6_2 < (y265.length : Int) := of_decide_eq_true (by first | (with_reducible assumption) | assumption)
                  obtain ⟨ad268, e268, hx268_0⟩ := Kd.at_string (Kd.R_reads' HO_5.out).2.2 x6_2 p268 q268
                  cases e268
                  replace p268 := eq_true p268
                  replace q268 := eq_true q268
                  go_wp2_with (first | ((with_reducible refine gate_callee (f := 4) rfl ?_); refine goesL_ (some 83) rfl rfl Tryd.func4 (by kernel_rfl) rfl #[.string (rdOf ByteArray.empty y265 x6_2), .int .i64 (-1)] rfl (by (try simp only [List.map_toArray, List.map_cons, List.map_nil]); first | done | rfl | (simp only [List.length_drop, List.length_take]; rfl)) ?_; (with_reducible refine (drayagelaw04_ScanWords.calls k2 (rdOf ByteArray.empty y265 x6_2) (-1) false _ A34.out ?sideT_).mono ?_); (case sideT_ => first | exact hT_.out | exact hT_.out.up (by repeat (first | (with_reducible first | exact HB.out | apply below_alloc | apply pw_below_drewN | apply below_drew1) | exact HB.out))); rintro e w45 ⟨rfl, hb⟩; refine ⟨_, rfl, ?_⟩; have n0_ := Aside0.mk (Kd.R_below (by (with_reducible repeat (first | apply Kd.R_alloc | apply Kd.R_drewN | apply Kd.R_drew)); exact HO_5.out) hb); have n1_ := Aside0.mk (below_step (by repeat (first | (with_reducible first | exact HB.out | apply below_alloc | apply pw_below_drewN | apply below_drew1) | exact HB.out)) hb); clear HO_5; clear HB; have HO_5 := n0_; have HB := n1_; clear n0_ n1_; (try clear hb); (try clear hb2); (try clear hk); (try clear hi)))
                  go_ret
                  exact ⟨by first | rfl | (simp [errW_none, errW_some] <;> rfl) | (simp [*, errW_none, errW_some] <;> rfl), by repeat (first | (with_reducible first | exact HB.out | apply below_alloc | apply pw_below_drewN | apply below_drew1) | exact HB.out)⟩
              · rw [if_neg c33] at H
                exact absurd H (by simp)
            · rw [if_neg c32] at H
              have c32b0 : decide (x6_2 < (y265.length : Int)) = false := decide_eq_false c32
              clear c32
              replace H := Option.bind_eq_some_iff.mp H
              obtain ⟨t272, A460, H⟩ := H
              replace H : ((scan_Words.f t272).bind fun bt273 => (if t272.size + 1 ≤ 9223372036854775807 then ((scan_Words.f (t272 ++ (⟨#[32]⟩ : ByteArray))).bind fun bt279 => ((drayagelaw04_works.f k2).bind fun t285 => (if t285 = true then (if bt273.2.2.2 = 0 then (if (bt273.1.length : Int) = 32768 then (if bt279.2.2.2 = 5 then (if bt279.2.1 = 0 then (if bt279.2.2.1 = 0 then ((scan_Line.f k2 bt273.1 0).bind fun t286 => (if t286 = 32768 then ((scan_Line.f k2 bt273.1 (-1)).bind fun t287 => (some (t287 == 0))) else (some false))) else (some false)) else (some false)) else (some false)) else (some false)) else (some false)) else (some false)))) else (none))) = some r := H
              have A46 := Aside0.mk A460
              clear A460
              replace H := Option.bind_eq_some_iff.mp H
              obtain ⟨⟨t273, t274, t275, t276⟩, A470, H⟩ := H
              replace H : (if t272.size + 1 ≤ 9223372036854775807 then ((scan_Words.f (t272 ++ (⟨#[32]⟩ : ByteArray))).bind fun bt279 => ((drayagelaw04_works.f k2).bind fun t285 => (if t285 = true then (if t276 = 0 then (if (t273.length : Int) = 32768 then (if bt279.2.2.2 = 5 then (if bt279.2.1 = 0 then (if bt279.2.2.1 = 0 then ((scan_Line.f k2 t273 0).bind fun t286 => (if t286 = 32768 then ((scan_Line.f k2 t273 (-1)).bind fun t287 => (some (t287 == 0))) else (some false))) else (some false)) else (some false)) else (some false)) else (some false)) else (some false)) else (some false)))) else (none)) = some r := H
              have A47 := Aside0.mk A470
              clear A470
              by_cases c48 : t272.size + 1 ≤ 9223372036854775807
              · rw [if_pos c48] at H
                have c48b0 := eq_true c48
                have c48b1 : decide (t272.size + 1 ≤ 9223372036854775807) = true := decide_eq_true c48
                try have c48b2 : (9223372036854775807 < t272.size + 1) = False := eq_false (Nat.not_lt.2 c48)
                replace H := Option.bind_eq_some_iff.mp H
                obtain ⟨⟨t279, t280, t281, t282⟩, A490, H⟩ := H
                replace H : ((drayagelaw04_works.f k2).bind fun t285 => (if t285 = true then (if t276 = 0 then (if (t273.length : Int) = 32768 then (if t282 = 5 then (if t280 = 0 then (if t281 = 0 then ((scan_Line.f k2 t273 0).bind fun t286 => (if t286 = 32768 then ((scan_Line.f k2 t273 (-1)).bind fun t287 => (some (t287 == 0))) else (some false))) else (some false)) else (some false)) else (some false)) else (some false)) else (some false)) else (some false))) = some r := H
                have A49 := Aside0.mk A490
                clear A490
                replace H := Option.bind_eq_some_iff.mp H
                obtain ⟨t285, A500, H⟩ := H
                replace H : (if t285 = true then (if t276 = 0 then (if (t273.length : Int) = 32768 then (if t282 = 5 then (if t280 = 0 then (if t281 = 0 then ((scan_Line.f k2 t273 0).bind fun t286 => (if t286 = 32768 then ((scan_Line.f k2 t273 (-1)).bind fun t287 => (some (t287 == 0))) else (some false))) else (some false)) else (some false)) else (some false)) else (some false)) else (some false)) else (some false)) = some r := H
                have A50 := Aside0.mk A500
                clear A500
                by_cases c51 : t285 = true
                · subst c51
                  have H1 : (if t276 = 0 then (if (t273.length : Int) = 32768 then (if t282 = 5 then (if t280 = 0 then (if t281 = 0 then ((scan_Line.f k2 t273 0).bind fun t286 => (if t286 = 32768 then ((scan_Line.f k2 t273 (-1)).bind fun t287 => (some (t287 == 0))) else (some false))) else (some false)) else (some false)) else (some false)) else (some false)) else (some false)) = some r := by rw [if_pos rfl] at H; exact H
                  clear H
                  have H := H1
                  clear H1
                  by_cases c52 : t276 = 0
                  · rw [if_pos c52] at H
                    have c52b0 : (t276 == 0) = true := beq_iff_eq.mpr c52
                    have c52b1 : (t276 != 0) = false := bne_eq_false_iff_eq.mpr c52
                    clear c52
                    by_cases c53 : (t273.length : Int) = 32768
                    · rw [if_pos c53] at H
                      have c53b0 : ((t273.length : Int) == 32768) = true := beq_iff_eq.mpr c53
                      have c53b1 : ((t273.length : Int) != 32768) = false := bne_eq_false_iff_eq.mpr c53
                      clear c53
                      by_cases c54 : t282 = 5
                      · rw [if_pos c54] at H
                        have c54b0 : (t282 == 5) = true := beq_iff_eq.mpr c54
                        have c54b1 : (t282 != 5) = false := bne_eq_false_iff_eq.mpr c54
                        clear c54
                        by_cases c55 : t280 = 0
                        · rw [if_pos c55] at H
                          have c55b0 : (t280 == 0) = true := beq_iff_eq.mpr c55
                          have c55b1 : (t280 != 0) = false := bne_eq_false_iff_eq.mpr c55
                          clear c55
                          by_cases c56 : t281 = 0
                          · rw [if_pos c56] at H
                            have c56b0 : (t281 == 0) = true := beq_iff_eq.mpr c56
                            have c56b1 : (t281 != 0) = false := bne_eq_false_iff_eq.mpr c56
                            clear c56
                            replace H := Option.bind_eq_some_iff.mp H
                            obtain ⟨t286, A570, H⟩ := H
                            replace H : (if t286 = 32768 then ((scan_Line.f k2 t273 (-1)).bind fun t287 => (some (t287 == 0))) else (some false)) = some r := H
                            have A57 := Aside0.mk A570
                            clear A570
                            by_cases c58 : t286 = 32768
                            · rw [if_pos c58] at H
                              have c58b0 : (t286 == 32768) = true := beq_iff_eq.mpr c58
                              have c58b1 : (t286 != 32768) = false := bne_eq_false_iff_eq.mpr c58
                              clear c58
                              replace H := Option.bind_eq_some_iff.mp H
                              obtain ⟨t287, A590, H⟩ := H
                              replace H : (some (t287 == 0)) = some r := H
                              have A59 := Aside0.mk A590
                              clear A590
                              obtain rfl := Option.some.inj H
                              obtain ⟨Ao60, co60, eo60⟩ := Kd.R_slice HO_5.out
                              subst eo60
                              go_wp2_with (first | ((with_reducible refine gate_callee (f := 19) rfl ?_); refine goesL_ (some 93) rfl rfl Tryd.func19 (by kernel_rfl) rfl #[.string (⟨#[97, 32]⟩ : ByteArray), .int .i64 32768] rfl (by (try simp only [List.map_toArray, List.map_cons, List.map_nil]); first | done | rfl | (simp only [List.length_drop, List.length_take]; rfl)) ?_; (with_reducible refine (strings_Repeat.calls (⟨#[97, 32]⟩ : ByteArray) 32768 t272 _ A46.out).mono ?_); rintro e w61 ⟨rfl, hb⟩; refine ⟨_, rfl, ?_⟩; have n0_ := Aside0.mk (Kd.R_below (by (with_reducible repeat (first | apply Kd.R_alloc | apply Kd.R_drewN | apply Kd.R_drew)); exact HO_5.out) hb); have n1_ := Aside0.mk (below_step (by repeat (first | (with_reducible first | exact HB.out | apply below_alloc | apply pw_below_drewN | apply below_drew1) | exact HB.out)) hb); clear HO_5; clear HB; have HO_5 := n0_; have HB := n1_; clear n0_ n1_; (try clear hb); (try clear hb2); (try clear hk); (try clear hi)) | ((with_reducible refine gate_callee (f := 8) rfl ?_); refine goesL_ (some 96) rfl rfl Tryd.func8 (by kernel_rfl) rfl #[.string t272] rfl (by (try simp only [List.map_toArray, List.map_cons, List.map_nil]); first | done | rfl | (simp only [List.length_drop, List.length_take]; rfl)) ?_; (with_reducible refine (scan_Words.calls t272 t273 t274 t275 t276 _ A47.out).mono ?_); rintro e w62 ⟨v277, rfl, ho0, hb⟩; refine ⟨_, rfl, ?_⟩; have n0_ := Aside0.mk (Kd.R_below (by (with_reducible repeat (first | apply Kd.R_alloc | apply Kd.R_drewN | apply Kd.R_drew)); exact HO_5.out) hb); have n1_ := Aside0.mk (Kd.R_lower ho0 (below_size (by repeat (first | (with_reducible first | exact HB.out | apply below_alloc | apply pw_below_drewN | apply below_drew1) | exact HB.out)))); have n2_ := Aside0.mk (below_step (by repeat (first | (with_reducible first | exact HB.out | apply below_alloc | apply pw_below_drewN | apply below_drew1) | exact HB.out)) hb); clear HO_5; clear HB; have HO_5 := n0_; have HO278 := n1_; have HB := n2_; clear n0_ n1_ n2_; (try clear hb); (try clear hb2); (try clear hk); (try clear hi); (try clear ho0)) | ((with_reducible refine gate_callee (f := 8) rfl ?_); refine goesL_ (some 104) rfl rfl Tryd.func8 (by kernel_rfl) rfl #[.string (t272 ++ (⟨#[32]⟩ : ByteArray))] rfl (by (try simp only [List.map_toArray, List.map_cons, List.map_nil]); first | done | rfl | (simp only [List.length_drop, List.length_take]; rfl)) ?_; (with_reducible refine (scan_Words.calls (t272 ++ (⟨#[32]⟩ : ByteArray)) t279 t280 t281 t282 _ A49.out).mono ?_); rintro e w63 ⟨v283, rfl, ho0, hb⟩; refine ⟨_, rfl, ?_⟩; have n0_ := Aside0.mk (Kd.R_below (by (with_reducible repeat (first | apply Kd.R_alloc | apply Kd.R_drewN | apply Kd.R_drew)); exact HO_5.out) hb); have n1_ := Aside0.mk (Kd.R_elder' (by (with_reducible repeat (first | apply Kd.R_alloc | apply Kd.R_drewN | apply Kd.R_drew)); exact HO278.out) (Kd.R_base ho0) hb); have n2_ := Aside0.mk (Kd.R_lower (Kd.R_new' ho0 (Kd.R_lt (by (with_reducible repeat (first | apply Kd.R_alloc | apply Kd.R_drewN | apply Kd.R_drew)); exact HO278.out))) (below_size (by repeat (first | (with_reducible first | exact HB.out | apply below_alloc | apply pw_below_drewN | apply below_drew1) | exact HB.out)))); have n3_ := Aside0.mk (below_step (by repeat (first | (with_reducible first | exact HB.out | apply below_alloc | apply pw_below_drewN | apply below_drew1) | exact HB.out)) hb); clear HO_5; clear HO278; clear HB; have HO_5 := n0_; have HO278 := n1_; have HO284 := n2_; have HB := n3_; clear n0_ n1_ n2_ n3_; (try clear hb); (try clear hb2); (try clear hk); (try clear hi); (try clear ho0)) | (go_at_call 10; (with_reducible refine (drayagelaw04_works.calls k2  true _ A50.out).mono ?_); rintro e w64 ⟨rfl, hb⟩; have n0_ := Aside0.mk (Kd.R_below (by (with_reducible repeat (first | apply Kd.R_alloc | apply Kd.R_drewN | apply Kd.R_drew)); exact HO_5.out) hb); have n1_ := Aside0.mk (Kd.R_below (by (with_reducible repeat (first | apply Kd.R_alloc | apply Kd.R_drewN | apply Kd.R_drew)); exact HO278.out) hb); have n2_ := Aside0.mk (Kd.R_below (by (with_reducible repeat (first | apply Kd.R_alloc | apply Kd.R_drewN | apply Kd.R_drew)); exact HO284.out) hb); have n3_ := Aside0.mk (below_step (by repeat (first | (with_reducible first | exact HB.out | apply below_alloc | apply pw_below_drewN | apply below_drew1) | exact HB.out)) hb); clear HO_5; clear HO278; clear HO284; clear HB; have HO_5 := n0_; have HO278 := n1_; have HO284 := n2_; have HB := n3_; clear n0_ n1_ n2_ n3_; (try clear hb); (try clear hb2); (try clear hk); (try clear hi); obtain ⟨Ao65, co65, eo65⟩ := Kd.R_slice HO278.out; subst eo65) | (go_at_call 15; (with_reducible refine (scan_Line.calls k2 _ _ t273 0 t286 _ ?side1 ?side2 A57.out).mono ?_); (case side1 => repeat (first | exact (Kd.R_reads' HO278.out).2.2 | (with_reducible refine Kd.C_alloc ?_ _) | (with_reducible refine Kd.C_drewN ?_ _) | (with_reducible refine Kd.C_drew ?_))); (case side2 => exact (Kd.R_reads' HO278.out).2.1); rintro e w66 ⟨rfl, hb⟩; have n0_ := Aside0.mk (Kd.R_below (by (with_reducible repeat (first | apply Kd.R_alloc | apply Kd.R_drewN | apply Kd.R_drew)); exact HO_5.out) hb); have n1_ := Aside0.mk (Kd.R_below (by (with_reducible repeat (first | apply Kd.R_alloc | apply Kd.R_drewN | apply Kd.R_drew)); exact HO278.out) hb); have n2_ := Aside0.mk (Kd.R_below (by (with_reducible repeat (first | apply Kd.R_alloc | apply Kd.R_drewN | apply Kd.R_drew)); exact HO284.out) hb); have n3_ := Aside0.mk (below_step (by repeat (first | (with_reducible first | exact HB.out | apply below_alloc | apply pw_below_drewN | apply below_drew1) | exact HB.out)) hb); clear HO_5; clear HO278; clear HO284; clear HB; have HO_5 := n0_; have HO278 := n1_; have HO284 := n2_; have HB := n3_; clear n0_ n1_ n2_ n3_; (try clear hb); (try clear hb2); (try clear hk); (try clear hi)) | (go_at_call 15; (with_reducible refine (scan_Line.calls k2 _ _ t273 (-1) t287 _ ?side1 ?side2 A59.out).mono ?_); (case side1 => repeat (first | exact (Kd.R_reads' HO278.out).2.2 | (with_reducible refine Kd.C_alloc ?_ _) | (with_reducible refine Kd.C_drewN ?_ _) | (with_reducible refine Kd.C_drew ?_))); (case side2 => exact (Kd.R_reads' HO278.out).2.1); rintro e w67 ⟨rfl, hb⟩; have n0_ := Aside0.mk (Kd.R_below (by (with_reducible repeat (first | apply Kd.R_alloc | apply Kd.R_drewN | apply Kd.R_drew)); exact HO_5.out) hb); have n1_ := Aside0.mk (Kd.R_below (by (with_reducible repeat (first | apply Kd.R_alloc | apply Kd.R_drewN | apply Kd.R_drew)); exact HO278.out) hb); have n2_ := Aside0.mk (Kd.R_below (by (with_reducible repeat (first | apply Kd.R_alloc | apply Kd.R_drewN | apply Kd.R_drew)); exact HO284.out) hb); have n3_ := Aside0.mk (below_step (by repeat (first | (with_reducible first | exact HB.out | apply below_alloc | apply pw_below_drewN | apply below_drew1) | exact HB.out)) hb); clear HO_5; clear HO278; clear HO284; clear HB; have HO_5 := n0_; have HO278 := n1_; have HO284 := n2_; have HB := n3_; clear n0_ n1_ n2_ n3_; (try clear hb); (try clear hb2); (try clear hk); (try clear hi)))
                              go_ret
                              exact ⟨by first | rfl | (simp [errW_none, errW_some] <;> rfl) | (simp [*, errW_none, errW_some] <;> rfl), by repeat (first | (with_reducible first | exact HB.out | apply below_alloc | apply pw_below_drewN | apply below_drew1) | exact HB.out)⟩
                            · rw [if_neg c58] at H
                              have c58b0 : (t286 == 32768) = false := beq_eq_false_iff_ne.mpr c58
                              have c58b1 : (t286 != 32768) = true := bne_iff_ne.mpr c58
                              obtain rfl := Option.some.inj H
                              obtain ⟨Ao68, co68, eo68⟩ := Kd.R_slice HO_5.out
                              subst eo68
                              go_wp2_with (first | ((with_reducible refine gate_callee (f := 19) rfl ?_); refine goesL_ (some 93) rfl rfl Tryd.func19 (by kernel_rfl) rfl #[.string (⟨#[97, 32]⟩ : ByteArray), .int .i64 32768] rfl (by (try simp only [List.map_toArray, List.map_cons, List.map_nil]); first | done | rfl | (simp only [List.length_drop, List.length_take]; rfl)) ?_; (with_reducible refine (strings_Repeat.calls (⟨#[97, 32]⟩ : ByteArray) 32768 t272 _ A46.out).mono ?_); rintro e w69 ⟨rfl, hb⟩; refine ⟨_, rfl, ?_⟩; have n0_ := Aside0.mk (Kd.R_below (by (with_reducible repeat (first | apply Kd.R_alloc | apply Kd.R_drewN | apply Kd.R_drew)); exact HO_5.out) hb); have n1_ := Aside0.mk (below_step (by repeat (first | (with_reducible first | exact HB.out | apply below_alloc | apply pw_below_drewN | apply below_drew1) | exact HB.out)) hb); clear HO_5; clear HB; have HO_5 := n0_; have HB := n1_; clear n0_ n1_; (try clear hb); (try clear hb2); (try clear hk); (try clear hi)) | ((with_reducible refine gate_callee (f := 8) rfl ?_); refine goesL_ (some 96) rfl rfl Tryd.func8 (by kernel_rfl) rfl #[.string t272] rfl (by (try simp only [List.map_toArray, List.map_cons, List.map_nil]); first | done | rfl | (simp only [List.length_drop, List.length_take]; rfl)) ?_; (with_reducible refine (scan_Words.calls t272 t273 t274 t275 t276 _ A47.out).mono ?_); rintro e w70 ⟨v277, rfl, ho0, hb⟩; refine ⟨_, rfl, ?_⟩; have n0_ := Aside0.mk (Kd.R_below (by (with_reducible repeat (first | apply Kd.R_alloc | apply Kd.R_drewN | apply Kd.R_drew)); exact HO_5.out) hb); have n1_ := Aside0.mk (Kd.R_lower ho0 (below_size (by repeat (first | (with_reducible first | exact HB.out | apply below_alloc | apply pw_below_drewN | apply below_drew1) | exact HB.out)))); have n2_ := Aside0.mk (below_step (by repeat (first | (with_reducible first | exact HB.out | apply below_alloc | apply pw_below_drewN | apply below_drew1) | exact HB.out)) hb); clear HO_5; clear HB; have HO_5 := n0_; have HO278 := n1_; have HB := n2_; clear n0_ n1_ n2_; (try clear hb); (try clear hb2); (try clear hk); (try clear hi); (try clear ho0)) | ((with_reducible refine gate_callee (f := 8) rfl ?_); refine goesL_ (some 104) rfl rfl Tryd.func8 (by kernel_rfl) rfl #[.string (t272 ++ (⟨#[32]⟩ : ByteArray))] rfl (by (try simp only [List.map_toArray, List.map_cons, List.map_nil]); first | done | rfl | (simp only [List.length_drop, List.length_take]; rfl)) ?_; (with_reducible refine (scan_Words.calls (t272 ++ (⟨#[32]⟩ : ByteArray)) t279 t280 t281 t282 _ A49.out).mono ?_); rintro e w71 ⟨v283, rfl, ho0, hb⟩; refine ⟨_, rfl, ?_⟩; have n0_ := Aside0.mk (Kd.R_below (by (with_reducible repeat (first | apply Kd.R_alloc | apply Kd.R_drewN | apply Kd.R_drew)); exact HO_5.out) hb); have n1_ := Aside0.mk (Kd.R_elder' (by (with_reducible repeat (first | apply Kd.R_alloc | apply Kd.R_drewN | apply Kd.R_drew)); exact HO278.out) (Kd.R_base ho0) hb); have n2_ := Aside0.mk (Kd.R_lower (Kd.R_new' ho0 (Kd.R_lt (by (with_reducible repeat (first | apply Kd.R_alloc | apply Kd.R_drewN | apply Kd.R_drew)); exact HO278.out))) (below_size (by repeat (first | (with_reducible first | exact HB.out | apply below_alloc | apply pw_below_drewN | apply below_drew1) | exact HB.out)))); have n3_ := Aside0.mk (below_step (by repeat (first | (with_reducible first | exact HB.out | apply below_alloc | apply pw_below_drewN | apply below_drew1) | exact HB.out)) hb); clear HO_5; clear HO278; clear HB; have HO_5 := n0_; have HO278 := n1_; have HO284 := n2_; have HB := n3_; clear n0_ n1_ n2_ n3_; (try clear hb); (try clear hb2); (try clear hk); (try clear hi); (try clear ho0)) | (go_at_call 10; (with_reducible refine (drayagelaw04_works.calls k2  true _ A50.out).mono ?_); rintro e w72 ⟨rfl, hb⟩; have n0_ := Aside0.mk (Kd.R_below (by (with_reducible repeat (first | apply Kd.R_alloc | apply Kd.R_drewN | apply Kd.R_drew)); exact HO_5.out) hb); have n1_ := Aside0.mk (Kd.R_below (by (with_reducible repeat (first | apply Kd.R_alloc | apply Kd.R_drewN | apply Kd.R_drew)); exact HO278.out) hb); have n2_ := Aside0.mk (Kd.R_below (by (with_reducible repeat (first | apply Kd.R_alloc | apply Kd.R_drewN | apply Kd.R_drew)); exact HO284.out) hb); have n3_ := Aside0.mk (below_step (by repeat (first | (with_reducible first | exact HB.out | apply below_alloc | apply pw_below_drewN | apply below_drew1) | exact HB.out)) hb); clear HO_5; clear HO278; clear HO284; clear HB; have HO_5 := n0_; have HO278 := n1_; have HO284 := n2_; have HB := n3_; clear n0_ n1_ n2_ n3_; (try clear hb); (try clear hb2); (try clear hk); (try clear hi); obtain ⟨Ao73, co73, eo73⟩ := Kd.R_slice HO278.out; subst eo73) | (go_at_call 15; (with_reducible refine (scan_Line.calls k2 _ _ t273 0 t286 _ ?side1 ?side2 A57.out).mono ?_); (case side1 => repeat (first | exact (Kd.R_reads' HO278.out).2.2 | (with_reducible refine Kd.C_alloc ?_ _) | (with_reducible refine Kd.C_drewN ?_ _) | (with_reducible refine Kd.C_drew ?_))); (case side2 => exact (Kd.R_reads' HO278.out).2.1); rintro e w74 ⟨rfl, hb⟩; have n0_ := Aside0.mk (Kd.R_below (by (with_reducible repeat (first | apply Kd.R_alloc | apply Kd.R_drewN | apply Kd.R_drew)); exact HO_5.out) hb); have n1_ := Aside0.mk (Kd.R_below (by (with_reducible repeat (first | apply Kd.R_alloc | apply Kd.R_drewN | apply Kd.R_drew)); exact HO278.out) hb); have n2_ := Aside0.mk (Kd.R_below (by (with_reducible repeat (first | apply Kd.R_alloc | apply Kd.R_drewN | apply Kd.R_drew)); exact HO284.out) hb); have n3_ := Aside0.mk (below_step (by repeat (first | (with_reducible first | exact HB.out | apply below_alloc | apply pw_below_drewN | apply below_drew1) | exact HB.out)) hb); clear HO_5; clear HO278; clear HO284; clear HB; have HO_5 := n0_; have HO278 := n1_; have HO284 := n2_; have HB := n3_; clear n0_ n1_ n2_ n3_; (try clear hb); (try clear hb2); (try clear hk); (try clear hi)))
                              go_ret
                              exact ⟨by first | rfl | (simp [errW_none, errW_some] <;> rfl) | (simp [*, errW_none, errW_some] <;> rfl), by repeat (first | (with_reducible first | exact HB.out | apply below_alloc | apply pw_below_drewN | apply below_drew1) | exact HB.out)⟩
                          · rw [if_neg c56] at H
                            have c56b0 : (t281 == 0) = false := beq_eq_false_iff_ne.mpr c56
                            have c56b1 : (t281 != 0) = true := bne_iff_ne.mpr c56
                            obtain rfl := Option.some.inj H
                            obtain ⟨Ao75, co75, eo75⟩ := Kd.R_slice HO_5.out
                            subst eo75
                            go_wp2_with (first | ((with_reducible refine gate_callee (f := 19) rfl ?_); refine goesL_ (some 93) rfl rfl Tryd.func19 (by kernel_rfl) rfl #[.string (⟨#[97, 32]⟩ : ByteArray), .int .i64 32768] rfl (by (try simp only [List.map_toArray, List.map_cons, List.map_nil]); first | done | rfl | (simp only [List.length_drop, List.length_take]; rfl)) ?_; (with_reducible refine (strings_Repeat.calls (⟨#[97, 32]⟩ : ByteArray) 32768 t272 _ A46.out).mono ?_); rintro e w76 ⟨rfl, hb⟩; refine ⟨_, rfl, ?_⟩; have n0_ := Aside0.mk (Kd.R_below (by (with_reducible repeat (first | apply Kd.R_alloc | apply Kd.R_drewN | apply Kd.R_drew)); exact HO_5.out) hb); have n1_ := Aside0.mk (below_step (by repeat (first | (with_reducible first | exact HB.out | apply below_alloc | apply pw_below_drewN | apply below_drew1) | exact HB.out)) hb); clear HO_5; clear HB; have HO_5 := n0_; have HB := n1_; clear n0_ n1_; (try clear hb); (try clear hb2); (try clear hk); (try clear hi)) | ((with_reducible refine gate_callee (f := 8) rfl ?_); refine goesL_ (some 96) rfl rfl Tryd.func8 (by kernel_rfl) rfl #[.string t272] rfl (by (try simp only [List.map_toArray, List.map_cons, List.map_nil]); first | done | rfl | (simp only [List.length_drop, List.length_take]; rfl)) ?_; (with_reducible refine (scan_Words.calls t272 t273 t274 t275 t276 _ A47.out).mono ?_); rintro e w77 ⟨v277, rfl, ho0, hb⟩; refine ⟨_, rfl, ?_⟩; have n0_ := Aside0.mk (Kd.R_below (by (with_reducible repeat (first | apply Kd.R_alloc | apply Kd.R_drewN | apply Kd.R_drew)); exact HO_5.out) hb); have n1_ := Aside0.mk (Kd.R_lower ho0 (below_size (by repeat (first | (with_reducible first | exact HB.out | apply below_alloc | apply pw_below_drewN | apply below_drew1) | exact HB.out)))); have n2_ := Aside0.mk (below_step (by repeat (first | (with_reducible first | exact HB.out | apply below_alloc | apply pw_below_drewN | apply below_drew1) | exact HB.out)) hb); clear HO_5; clear HB; have HO_5 := n0_; have HO278 := n1_; have HB := n2_; clear n0_ n1_ n2_; (try clear hb); (try clear hb2); (try clear hk); (try clear hi); (try clear ho0)) | ((with_reducible refine gate_callee (f := 8) rfl ?_); refine goesL_ (some 104) rfl rfl Tryd.func8 (by kernel_rfl) rfl #[.string (t272 ++ (⟨#[32]⟩ : ByteArray))] rfl (by (try simp only [List.map_toArray, List.map_cons, List.map_nil]); first | done | rfl | (simp only [List.length_drop, List.length_take]; rfl)) ?_; (with_reducible refine (scan_Words.calls (t272 ++ (⟨#[32]⟩ : ByteArray)) t279 t280 t281 t282 _ A49.out).mono ?_); rintro e w78 ⟨v283, rfl, ho0, hb⟩; refine ⟨_, rfl, ?_⟩; have n0_ := Aside0.mk (Kd.R_below (by (with_reducible repeat (first | apply Kd.R_alloc | apply Kd.R_drewN | apply Kd.R_drew)); exact HO_5.out) hb); have n1_ := Aside0.mk (Kd.R_elder' (by (with_reducible repeat (first | apply Kd.R_alloc | apply Kd.R_drewN | apply Kd.R_drew)); exact HO278.out) (Kd.R_base ho0) hb); have n2_ := Aside0.mk (Kd.R_lower (Kd.R_new' ho0 (Kd.R_lt (by (with_reducible repeat (first | apply Kd.R_alloc | apply Kd.R_drewN | apply Kd.R_drew)); exact HO278.out))) (below_size (by repeat (first | (with_reducible first | exact HB.out | apply below_alloc | apply pw_below_drewN | apply below_drew1) | exact HB.out)))); have n3_ := Aside0.mk (below_step (by repeat (first | (with_reducible first | exact HB.out | apply below_alloc | apply pw_below_drewN | apply below_drew1) | exact HB.out)) hb); clear HO_5; clear HO278; clear HB; have HO_5 := n0_; have HO278 := n1_; have HO284 := n2_; have HB := n3_; clear n0_ n1_ n2_ n3_; (try clear hb); (try clear hb2); (try clear hk); (try clear hi); (try clear ho0)) | (go_at_call 10; (with_reducible refine (drayagelaw04_works.calls k2  true _ A50.out).mono ?_); rintro e w79 ⟨rfl, hb⟩; have n0_ := Aside0.mk (Kd.R_below (by (with_reducible repeat (first | apply Kd.R_alloc | apply Kd.R_drewN | apply Kd.R_drew)); exact HO_5.out) hb); have n1_ := Aside0.mk (Kd.R_below (by (with_reducible repeat (first | apply Kd.R_alloc | apply Kd.R_drewN | apply Kd.R_drew)); exact HO278.out) hb); have n2_ := Aside0.mk (Kd.R_below (by (with_reducible repeat (first | apply Kd.R_alloc | apply Kd.R_drewN | apply Kd.R_drew)); exact HO284.out) hb); have n3_ := Aside0.mk (below_step (by repeat (first | (with_reducible first | exact HB.out | apply below_alloc | apply pw_below_drewN | apply below_drew1) | exact HB.out)) hb); clear HO_5; clear HO278; clear HO284; clear HB; have HO_5 := n0_; have HO278 := n1_; have HO284 := n2_; have HB := n3_; clear n0_ n1_ n2_ n3_; (try clear hb); (try clear hb2); (try clear hk); (try clear hi); obtain ⟨Ao80, co80, eo80⟩ := Kd.R_slice HO278.out; subst eo80))
                            go_ret
                            exact ⟨by first | rfl | (simp [errW_none, errW_some] <;> rfl) | (simp [*, errW_none, errW_some] <;> rfl), by repeat (first | (with_reducible first | exact HB.out | apply below_alloc | apply pw_below_drewN | apply below_drew1) | exact HB.out)⟩
                        · rw [if_neg c55] at H
                          have c55b0 : (t280 == 0) = false := beq_eq_false_iff_ne.mpr c55
                          have c55b1 : (t280 != 0) = true := bne_iff_ne.mpr c55
                          obtain rfl := Option.some.inj H
                          obtain ⟨Ao81, co81, eo81⟩ := Kd.R_slice HO_5.out
                          subst eo81
                          go_wp2_with (first | ((with_reducible refine gate_callee (f := 19) rfl ?_); refine goesL_ (some 93) rfl rfl Tryd.func19 (by kernel_rfl) rfl #[.string (⟨#[97, 32]⟩ : ByteArray), .int .i64 32768] rfl (by (try simp only [List.map_toArray, List.map_cons, List.map_nil]); first | done | rfl | (simp only [List.length_drop, List.length_take]; rfl)) ?_; (with_reducible refine (strings_Repeat.calls (⟨#[97, 32]⟩ : ByteArray) 32768 t272 _ A46.out).mono ?_); rintro e w82 ⟨rfl, hb⟩; refine ⟨_, rfl, ?_⟩; have n0_ := Aside0.mk (Kd.R_below (by (with_reducible repeat (first | apply Kd.R_alloc | apply Kd.R_drewN | apply Kd.R_drew)); exact HO_5.out) hb); have n1_ := Aside0.mk (below_step (by repeat (first | (with_reducible first | exact HB.out | apply below_alloc | apply pw_below_drewN | apply below_drew1) | exact HB.out)) hb); clear HO_5; clear HB; have HO_5 := n0_; have HB := n1_; clear n0_ n1_; (try clear hb); (try clear hb2); (try clear hk); (try clear hi)) | ((with_reducible refine gate_callee (f := 8) rfl ?_); refine goesL_ (some 96) rfl rfl Tryd.func8 (by kernel_rfl) rfl #[.string t272] rfl (by (try simp only [List.map_toArray, List.map_cons, List.map_nil]); first | done | rfl | (simp only [List.length_drop, List.length_take]; rfl)) ?_; (with_reducible refine (scan_Words.calls t272 t273 t274 t275 t276 _ A47.out).mono ?_); rintro e w83 ⟨v277, rfl, ho0, hb⟩; refine ⟨_, rfl, ?_⟩; have n0_ := Aside0.mk (Kd.R_below (by (with_reducible repeat (first | apply Kd.R_alloc | apply Kd.R_drewN | apply Kd.R_drew)); exact HO_5.out) hb); have n1_ := Aside0.mk (Kd.R_lower ho0 (below_size (by repeat (first | (with_reducible first | exact HB.out | apply below_alloc | apply pw_below_drewN | apply below_drew1) | exact HB.out)))); have n2_ := Aside0.mk (below_step (by repeat (first | (with_reducible first | exact HB.out | apply below_alloc | apply pw_below_drewN | apply below_drew1) | exact HB.out)) hb); clear HO_5; clear HB; have HO_5 := n0_; have HO278 := n1_; have HB := n2_; clear n0_ n1_ n2_; (try clear hb); (try clear hb2); (try clear hk); (try clear hi); (try clear ho0)) | ((with_reducible refine gate_callee (f := 8) rfl ?_); refine goesL_ (some 104) rfl rfl Tryd.func8 (by kernel_rfl) rfl #[.string (t272 ++ (⟨#[32]⟩ : ByteArray))] rfl (by (try simp only [List.map_toArray, List.map_cons, List.map_nil]); first | done | rfl | (simp only [List.length_drop, List.length_take]; rfl)) ?_; (with_reducible refine (scan_Words.calls (t272 ++ (⟨#[32]⟩ : ByteArray)) t279 t280 t281 t282 _ A49.out).mono ?_); rintro e w84 ⟨v283, rfl, ho0, hb⟩; refine ⟨_, rfl, ?_⟩; have n0_ := Aside0.mk (Kd.R_below (by (with_reducible repeat (first | apply Kd.R_alloc | apply Kd.R_drewN | apply Kd.R_drew)); exact HO_5.out) hb); have n1_ := Aside0.mk (Kd.R_elder' (by (with_reducible repeat (first | apply Kd.R_alloc | apply Kd.R_drewN | apply Kd.R_drew)); exact HO278.out) (Kd.R_base ho0) hb); have n2_ := Aside0.mk (Kd.R_lower (Kd.R_new' ho0 (Kd.R_lt (by (with_reducible repeat (first | apply Kd.R_alloc | apply Kd.R_drewN | apply Kd.R_drew)); exact HO278.out))) (below_size (by repeat (first | (with_reducible first | exact HB.out | apply below_alloc | apply pw_below_drewN | apply below_drew1) | exact HB.out)))); have n3_ := Aside0.mk (below_step (by repeat (first | (with_reducible first | exact HB.out | apply below_alloc | apply pw_below_drewN | apply below_drew1) | exact HB.out)) hb); clear HO_5; clear HO278; clear HB; have HO_5 := n0_; have HO278 := n1_; have HO284 := n2_; have HB := n3_; clear n0_ n1_ n2_ n3_; (try clear hb); (try clear hb2); (try clear hk); (try clear hi); (try clear ho0)) | (go_at_call 10; (with_reducible refine (drayagelaw04_works.calls k2  true _ A50.out).mono ?_); rintro e w85 ⟨rfl, hb⟩; have n0_ := Aside0.mk (Kd.R_below (by (with_reducible repeat (first | apply Kd.R_alloc | apply Kd.R_drewN | apply Kd.R_drew)); exact HO_5.out) hb); have n1_ := Aside0.mk (Kd.R_below (by (with_reducible repeat (first | apply Kd.R_alloc | apply Kd.R_drewN | apply Kd.R_drew)); exact HO278.out) hb); have n2_ := Aside0.mk (Kd.R_below (by (with_reducible repeat (first | apply Kd.R_alloc | apply Kd.R_drewN | apply Kd.R_drew)); exact HO284.out) hb); have n3_ := Aside0.mk (below_step (by repeat (first | (with_reducible first | exact HB.out | apply below_alloc | apply pw_below_drewN | apply below_drew1) | exact HB.out)) hb); clear HO_5; clear HO278; clear HO284; clear HB; have HO_5 := n0_; have HO278 := n1_; have HO284 := n2_; have HB := n3_; clear n0_ n1_ n2_ n3_; (try clear hb); (try clear hb2); (try clear hk); (try clear hi); obtain ⟨Ao86, co86, eo86⟩ := Kd.R_slice HO278.out; subst eo86))
                          go_ret
                          exact ⟨by first | rfl | (simp [errW_none, errW_some] <;> rfl) | (simp [*, errW_none, errW_some] <;> rfl), by repeat (first | (with_reducible first | exact HB.out | apply below_alloc | apply pw_below_drewN | apply below_drew1) | exact HB.out)⟩
                      · rw [if_neg c54] at H
                        have c54b0 : (t282 == 5) = false := beq_eq_false_iff_ne.mpr c54
                        have c54b1 : (t282 != 5) = true := bne_iff_ne.mpr c54
                        obtain rfl := Option.some.inj H
                        obtain ⟨Ao87, co87, eo87⟩ := Kd.R_slice HO_5.out
                        subst eo87
                        go_wp2_with (first | ((with_reducible refine gate_callee (f := 19) rfl ?_); refine goesL_ (some 93) rfl rfl Tryd.func19 (by kernel_rfl) rfl #[.string (⟨#[97, 32]⟩ : ByteArray), .int .i64 32768] rfl (by (try simp only [List.map_toArray, List.map_cons, List.map_nil]); first | done | rfl | (simp only [List.length_drop, List.length_take]; rfl)) ?_; (with_reducible refine (strings_Repeat.calls (⟨#[97, 32]⟩ : ByteArray) 32768 t272 _ A46.out).mono ?_); rintro e w88 ⟨rfl, hb⟩; refine ⟨_, rfl, ?_⟩; have n0_ := Aside0.mk (Kd.R_below (by (with_reducible repeat (first | apply Kd.R_alloc | apply Kd.R_drewN | apply Kd.R_drew)); exact HO_5.out) hb); have n1_ := Aside0.mk (below_step (by repeat (first | (with_reducible first | exact HB.out | apply below_alloc | apply pw_below_drewN | apply below_drew1) | exact HB.out)) hb); clear HO_5; clear HB; have HO_5 := n0_; have HB := n1_; clear n0_ n1_; (try clear hb); (try clear hb2); (try clear hk); (try clear hi)) | ((with_reducible refine gate_callee (f := 8) rfl ?_); refine goesL_ (some 96) rfl rfl Tryd.func8 (by kernel_rfl) rfl #[.string t272] rfl (by (try simp only [List.map_toArray, List.map_cons, List.map_nil]); first | done | rfl | (simp only [List.length_drop, List.length_take]; rfl)) ?_; (with_reducible refine (scan_Words.calls t272 t273 t274 t275 t276 _ A47.out).mono ?_); rintro e w89 ⟨v277, rfl, ho0, hb⟩; refine ⟨_, rfl, ?_⟩; have n0_ := Aside0.mk (Kd.R_below (by (with_reducible repeat (first | apply Kd.R_alloc | apply Kd.R_drewN | apply Kd.R_drew)); exact HO_5.out) hb); have n1_ := Aside0.mk (Kd.R_lower ho0 (below_size (by repeat (first | (with_reducible first | exact HB.out | apply below_alloc | apply pw_below_drewN | apply below_drew1) | exact HB.out)))); have n2_ := Aside0.mk (below_step (by repeat (first | (with_reducible first | exact HB.out | apply below_alloc | apply pw_below_drewN | apply below_drew1) | exact HB.out)) hb); clear HO_5; clear HB; have HO_5 := n0_; have HO278 := n1_; have HB := n2_; clear n0_ n1_ n2_; (try clear hb); (try clear hb2); (try clear hk); (try clear hi); (try clear ho0)) | ((with_reducible refine gate_callee (f := 8) rfl ?_); refine goesL_ (some 104) rfl rfl Tryd.func8 (by kernel_rfl) rfl #[.string (t272 ++ (⟨#[32]⟩ : ByteArray))] rfl (by (try simp only [List.map_toArray, List.map_cons, List.map_nil]); first | done | rfl | (simp only [List.length_drop, List.length_take]; rfl)) ?_; (with_reducible refine (scan_Words.calls (t272 ++ (⟨#[32]⟩ : ByteArray)) t279 t280 t281 t282 _ A49.out).mono ?_); rintro e w90 ⟨v283, rfl, ho0, hb⟩; refine ⟨_, rfl, ?_⟩; have n0_ := Aside0.mk (Kd.R_below (by (with_reducible repeat (first | apply Kd.R_alloc | apply Kd.R_drewN | apply Kd.R_drew)); exact HO_5.out) hb); have n1_ := Aside0.mk (Kd.R_elder' (by (with_reducible repeat (first | apply Kd.R_alloc | apply Kd.R_drewN | apply Kd.R_drew)); exact HO278.out) (Kd.R_base ho0) hb); have n2_ := Aside0.mk (Kd.R_lower (Kd.R_new' ho0 (Kd.R_lt (by (with_reducible repeat (first | apply Kd.R_alloc | apply Kd.R_drewN | apply Kd.R_drew)); exact HO278.out))) (below_size (by repeat (first | (with_reducible first | exact HB.out | apply below_alloc | apply pw_below_drewN | apply below_drew1) | exact HB.out)))); have n3_ := Aside0.mk (below_step (by repeat (first | (with_reducible first | exact HB.out | apply below_alloc | apply pw_below_drewN | apply below_drew1) | exact HB.out)) hb); clear HO_5; clear HO278; clear HB; have HO_5 := n0_; have HO278 := n1_; have HO284 := n2_; have HB := n3_; clear n0_ n1_ n2_ n3_; (try clear hb); (try clear hb2); (try clear hk); (try clear hi); (try clear ho0)) | (go_at_call 10; (with_reducible refine (drayagelaw04_works.calls k2  true _ A50.out).mono ?_); rintro e w91 ⟨rfl, hb⟩; have n0_ := Aside0.mk (Kd.R_below (by (with_reducible repeat (first | apply Kd.R_alloc | apply Kd.R_drewN | apply Kd.R_drew)); exact HO_5.out) hb); have n1_ := Aside0.mk (Kd.R_below (by (with_reducible repeat (first | apply Kd.R_alloc | apply Kd.R_drewN | apply Kd.R_drew)); exact HO278.out) hb); have n2_ := Aside0.mk (Kd.R_below (by (with_reducible repeat (first | apply Kd.R_alloc | apply Kd.R_drewN | apply Kd.R_drew)); exact HO284.out) hb); have n3_ := Aside0.mk (below_step (by repeat (first | (with_reducible first | exact HB.out | apply below_alloc | apply pw_below_drewN | apply below_drew1) | exact HB.out)) hb); clear HO_5; clear HO278; clear HO284; clear HB; have HO_5 := n0_; have HO278 := n1_; have HO284 := n2_; have HB := n3_; clear n0_ n1_ n2_ n3_; (try clear hb); (try clear hb2); (try clear hk); (try clear hi); obtain ⟨Ao92, co92, eo92⟩ := Kd.R_slice HO278.out; subst eo92))
                        go_ret
                        exact ⟨by first | rfl | (simp [errW_none, errW_some] <;> rfl) | (simp [*, errW_none, errW_some] <;> rfl), by repeat (first | (with_reducible first | exact HB.out | apply below_alloc | apply pw_below_drewN | apply below_drew1) | exact HB.out)⟩
                    · rw [if_neg c53] at H
                      have c53b0 : ((t273.length : Int) == 32768) = false := beq_eq_false_iff_ne.mpr c53
                      have c53b1 : ((t273.length : Int) != 32768) = true := bne_iff_ne.mpr c53
                      obtain rfl := Option.some.inj H
                      obtain ⟨Ao93, co93, eo93⟩ := Kd.R_slice HO_5.out
                      subst eo93
                      go_wp2_with (first | ((with_reducible refine gate_callee (f := 19) rfl ?_); refine goesL_ (some 93) rfl rfl Tryd.func19 (by kernel_rfl) rfl #[.string (⟨#[97, 32]⟩ : ByteArray), .int .i64 32768] rfl (by (try simp only [List.map_toArray, List.map_cons, List.map_nil]); first | done | rfl | (simp only [List.length_drop, List.length_take]; rfl)) ?_; (with_reducible refine (strings_Repeat.calls (⟨#[97, 32]⟩ : ByteArray) 32768 t272 _ A46.out).mono ?_); rintro e w94 ⟨rfl, hb⟩; refine ⟨_, rfl, ?_⟩; have n0_ := Aside0.mk (Kd.R_below (by (with_reducible repeat (first | apply Kd.R_alloc | apply Kd.R_drewN | apply Kd.R_drew)); exact HO_5.out) hb); have n1_ := Aside0.mk (below_step (by repeat (first | (with_reducible first | exact HB.out | apply below_alloc | apply pw_below_drewN | apply below_drew1) | exact HB.out)) hb); clear HO_5; clear HB; have HO_5 := n0_; have HB := n1_; clear n0_ n1_; (try clear hb); (try clear hb2); (try clear hk); (try clear hi)) | ((with_reducible refine gate_callee (f := 8) rfl ?_); refine goesL_ (some 96) rfl rfl Tryd.func8 (by kernel_rfl) rfl #[.string t272] rfl (by (try simp only [List.map_toArray, List.map_cons, List.map_nil]); first | done | rfl | (simp only [List.length_drop, List.length_take]; rfl)) ?_; (with_reducible refine (scan_Words.calls t272 t273 t274 t275 t276 _ A47.out).mono ?_); rintro e w95 ⟨v277, rfl, ho0, hb⟩; refine ⟨_, rfl, ?_⟩; have n0_ := Aside0.mk (Kd.R_below (by (with_reducible repeat (first | apply Kd.R_alloc | apply Kd.R_drewN | apply Kd.R_drew)); exact HO_5.out) hb); have n1_ := Aside0.mk (Kd.R_lower ho0 (below_size (by repeat (first | (with_reducible first | exact HB.out | apply below_alloc | apply pw_below_drewN | apply below_drew1) | exact HB.out)))); have n2_ := Aside0.mk (below_step (by repeat (first | (with_reducible first | exact HB.out | apply below_alloc | apply pw_below_drewN | apply below_drew1) | exact HB.out)) hb); clear HO_5; clear HB; have HO_5 := n0_; have HO278 := n1_; have HB := n2_; clear n0_ n1_ n2_; (try clear hb); (try clear hb2); (try clear hk); (try clear hi); (try clear ho0)) | ((with_reducible refine gate_callee (f := 8) rfl ?_); refine goesL_ (some 104) rfl rfl Tryd.func8 (by kernel_rfl) rfl #[.string (t272 ++ (⟨#[32]⟩ : ByteArray))] rfl (by (try simp only [List.map_toArray, List.map_cons, List.map_nil]); first | done | rfl | (simp only [List.length_drop, List.length_take]; rfl)) ?_; (with_reducible refine (scan_Words.calls (t272 ++ (⟨#[32]⟩ : ByteArray)) t279 t280 t281 t282 _ A49.out).mono ?_); rintro e w96 ⟨v283, rfl, ho0, hb⟩; refine ⟨_, rfl, ?_⟩; have n0_ := Aside0.mk (Kd.R_below (by (with_reducible repeat (first | apply Kd.R_alloc | apply Kd.R_drewN | apply Kd.R_drew)); exact HO_5.out) hb); have n1_ := Aside0.mk (Kd.R_elder' (by (with_reducible repeat (first | apply Kd.R_alloc | apply Kd.R_drewN | apply Kd.R_drew)); exact HO278.out) (Kd.R_base ho0) hb); have n2_ := Aside0.mk (Kd.R_lower (Kd.R_new' ho0 (Kd.R_lt (by (with_reducible repeat (first | apply Kd.R_alloc | apply Kd.R_drewN | apply Kd.R_drew)); exact HO278.out))) (below_size (by repeat (first | (with_reducible first | exact HB.out | apply below_alloc | apply pw_below_drewN | apply below_drew1) | exact HB.out)))); have n3_ := Aside0.mk (below_step (by repeat (first | (with_reducible first | exact HB.out | apply below_alloc | apply pw_below_drewN | apply below_drew1) | exact HB.out)) hb); clear HO_5; clear HO278; clear HB; have HO_5 := n0_; have HO278 := n1_; have HO284 := n2_; have HB := n3_; clear n0_ n1_ n2_ n3_; (try clear hb); (try clear hb2); (try clear hk); (try clear hi); (try clear ho0)) | (go_at_call 10; (with_reducible refine (drayagelaw04_works.calls k2  true _ A50.out).mono ?_); rintro e w97 ⟨rfl, hb⟩; have n0_ := Aside0.mk (Kd.R_below (by (with_reducible repeat (first | apply Kd.R_alloc | apply Kd.R_drewN | apply Kd.R_drew)); exact HO_5.out) hb); have n1_ := Aside0.mk (Kd.R_below (by (with_reducible repeat (first | apply Kd.R_alloc | apply Kd.R_drewN | apply Kd.R_drew)); exact HO278.out) hb); have n2_ := Aside0.mk (Kd.R_below (by (with_reducible repeat (first | apply Kd.R_alloc | apply Kd.R_drewN | apply Kd.R_drew)); exact HO284.out) hb); have n3_ := Aside0.mk (below_step (by repeat (first | (with_reducible first | exact HB.out | apply below_alloc | apply pw_below_drewN | apply below_drew1) | exact HB.out)) hb); clear HO_5; clear HO278; clear HO284; clear HB; have HO_5 := n0_; have HO278 := n1_; have HO284 := n2_; have HB := n3_; clear n0_ n1_ n2_ n3_; (try clear hb); (try clear hb2); (try clear hk); (try clear hi); obtain ⟨Ao98, co98, eo98⟩ := Kd.R_slice HO278.out; subst eo98))
                      go_ret
                      exact ⟨by first | rfl | (simp [errW_none, errW_some] <;> rfl) | (simp [*, errW_none, errW_some] <;> rfl), by repeat (first | (with_reducible first | exact HB.out | apply below_alloc | apply pw_below_drewN | apply below_drew1) | exact HB.out)⟩
                  · rw [if_neg c52] at H
                    have c52b0 : (t276 == 0) = false := beq_eq_false_iff_ne.mpr c52
                    have c52b1 : (t276 != 0) = true := bne_iff_ne.mpr c52
                    obtain rfl := Option.some.inj H
                    obtain ⟨Ao99, co99, eo99⟩ := Kd.R_slice HO_5.out
                    subst eo99
                    go_wp2_with (first | ((with_reducible refine gate_callee (f := 19) rfl ?_); refine goesL_ (some 93) rfl rfl Tryd.func19 (by kernel_rfl) rfl #[.string (⟨#[97, 32]⟩ : ByteArray), .int .i64 32768] rfl (by (try simp only [List.map_toArray, List.map_cons, List.map_nil]); first | done | rfl | (simp only [List.length_drop, List.length_take]; rfl)) ?_; (with_reducible refine (strings_Repeat.calls (⟨#[97, 32]⟩ : ByteArray) 32768 t272 _ A46.out).mono ?_); rintro e w100 ⟨rfl, hb⟩; refine ⟨_, rfl, ?_⟩; have n0_ := Aside0.mk (Kd.R_below (by (with_reducible repeat (first | apply Kd.R_alloc | apply Kd.R_drewN | apply Kd.R_drew)); exact HO_5.out) hb); have n1_ := Aside0.mk (below_step (by repeat (first | (with_reducible first | exact HB.out | apply below_alloc | apply pw_below_drewN | apply below_drew1) | exact HB.out)) hb); clear HO_5; clear HB; have HO_5 := n0_; have HB := n1_; clear n0_ n1_; (try clear hb); (try clear hb2); (try clear hk); (try clear hi)) | ((with_reducible refine gate_callee (f := 8) rfl ?_); refine goesL_ (some 96) rfl rfl Tryd.func8 (by kernel_rfl) rfl #[.string t272] rfl (by (try simp only [List.map_toArray, List.map_cons, List.map_nil]); first | done | rfl | (simp only [List.length_drop, List.length_take]; rfl)) ?_; (with_reducible refine (scan_Words.calls t272 t273 t274 t275 t276 _ A47.out).mono ?_); rintro e w101 ⟨v277, rfl, ho0, hb⟩; refine ⟨_, rfl, ?_⟩; have n0_ := Aside0.mk (Kd.R_below (by (with_reducible repeat (first | apply Kd.R_alloc | apply Kd.R_drewN | apply Kd.R_drew)); exact HO_5.out) hb); have n1_ := Aside0.mk (Kd.R_lower ho0 (below_size (by repeat (first | (with_reducible first | exact HB.out | apply below_alloc | apply pw_below_drewN | apply below_drew1) | exact HB.out)))); have n2_ := Aside0.mk (below_step (by repeat (first | (with_reducible first | exact HB.out | apply below_alloc | apply pw_below_drewN | apply below_drew1) | exact HB.out)) hb); clear HO_5; clear HB; have HO_5 := n0_; have HO278 := n1_; have HB := n2_; clear n0_ n1_ n2_; (try clear hb); (try clear hb2); (try clear hk); (try clear hi); (try clear ho0)) | ((with_reducible refine gate_callee (f := 8) rfl ?_); refine goesL_ (some 104) rfl rfl Tryd.func8 (by kernel_rfl) rfl #[.string (t272 ++ (⟨#[32]⟩ : ByteArray))] rfl (by (try simp only [List.map_toArray, List.map_cons, List.map_nil]); first | done | rfl | (simp only [List.length_drop, List.length_take]; rfl)) ?_; (with_reducible refine (scan_Words.calls (t272 ++ (⟨#[32]⟩ : ByteArray)) t279 t280 t281 t282 _ A49.out).mono ?_); rintro e w102 ⟨v283, rfl, ho0, hb⟩; refine ⟨_, rfl, ?_⟩; have n0_ := Aside0.mk (Kd.R_below (by (with_reducible repeat (first | apply Kd.R_alloc | apply Kd.R_drewN | apply Kd.R_drew)); exact HO_5.out) hb); have n1_ := Aside0.mk (Kd.R_elder' (by (with_reducible repeat (first | apply Kd.R_alloc | apply Kd.R_drewN | apply Kd.R_drew)); exact HO278.out) (Kd.R_base ho0) hb); have n2_ := Aside0.mk (Kd.R_lower (Kd.R_new' ho0 (Kd.R_lt (by (with_reducible repeat (first | apply Kd.R_alloc | apply Kd.R_drewN | apply Kd.R_drew)); exact HO278.out))) (below_size (by repeat (first | (with_reducible first | exact HB.out | apply below_alloc | apply pw_below_drewN | apply below_drew1) | exact HB.out)))); have n3_ := Aside0.mk (below_step (by repeat (first | (with_reducible first | exact HB.out | apply below_alloc | apply pw_below_drewN | apply below_drew1) | exact HB.out)) hb); clear HO_5; clear HO278; clear HB; have HO_5 := n0_; have HO278 := n1_; have HO284 := n2_; have HB := n3_; clear n0_ n1_ n2_ n3_; (try clear hb); (try clear hb2); (try clear hk); (try clear hi); (try clear ho0)) | (go_at_call 10; (with_reducible refine (drayagelaw04_works.calls k2  true _ A50.out).mono ?_); rintro e w103 ⟨rfl, hb⟩; have n0_ := Aside0.mk (Kd.R_below (by (with_reducible repeat (first | apply Kd.R_alloc | apply Kd.R_drewN | apply Kd.R_drew)); exact HO_5.out) hb); have n1_ := Aside0.mk (Kd.R_below (by (with_reducible repeat (first | apply Kd.R_alloc | apply Kd.R_drewN | apply Kd.R_drew)); exact HO278.out) hb); have n2_ := Aside0.mk (Kd.R_below (by (with_reducible repeat (first | apply Kd.R_alloc | apply Kd.R_drewN | apply Kd.R_drew)); exact HO284.out) hb); have n3_ := Aside0.mk (below_step (by repeat (first | (with_reducible first | exact HB.out | apply below_alloc | apply pw_below_drewN | apply below_drew1) | exact HB.out)) hb); clear HO_5; clear HO278; clear HO284; clear HB; have HO_5 := n0_; have HO278 := n1_; have HO284 := n2_; have HB := n3_; clear n0_ n1_ n2_ n3_; (try clear hb); (try clear hb2); (try clear hk); (try clear hi)))
                    go_ret
                    exact ⟨by first | rfl | (simp [errW_none, errW_some] <;> rfl) | (simp [*, errW_none, errW_some] <;> rfl), by repeat (first | (with_reducible first | exact HB.out | apply below_alloc | apply pw_below_drewN | apply below_drew1) | exact HB.out)⟩
                · replace c51 := Bool.eq_false_iff.mpr c51
                  subst c51
                  have H1 : (some false) = some r := by rw [if_neg (show ¬ (false = true) by decide)] at H; exact H
                  clear H
                  have H := H1
                  clear H1
                  obtain rfl := Option.some.inj H
                  obtain ⟨Ao104, co104, eo104⟩ := Kd.R_slice HO_5.out
                  subst eo104
                  go_wp2_with (first | ((with_reducible refine gate_callee (f := 19) rfl ?_); refine goesL_ (some 93) rfl rfl Tryd.func19 (by kernel_rfl) rfl #[.string (⟨#[97, 32]⟩ : ByteArray), .int .i64 32768] rfl (by (try simp only [List.map_toArray, List.map_cons, List.map_nil]); first | done | rfl | (simp only [List.length_drop, List.length_take]; rfl)) ?_; (with_reducible refine (strings_Repeat.calls (⟨#[97, 32]⟩ : ByteArray) 32768 t272 _ A46.out).mono ?_); rintro e w105 ⟨rfl, hb⟩; refine ⟨_, rfl, ?_⟩; have n0_ := Aside0.mk (Kd.R_below (by (with_reducible repeat (first | apply Kd.R_alloc | apply Kd.R_drewN | apply Kd.R_drew)); exact HO_5.out) hb); have n1_ := Aside0.mk (below_step (by repeat (first | (with_reducible first | exact HB.out | apply below_alloc | apply pw_below_drewN | apply below_drew1) | exact HB.out)) hb); clear HO_5; clear HB; have HO_5 := n0_; have HB := n1_; clear n0_ n1_; (try clear hb); (try clear hb2); (try clear hk); (try clear hi)) | ((with_reducible refine gate_callee (f := 8) rfl ?_); refine goesL_ (some 96) rfl rfl Tryd.func8 (by kernel_rfl) rfl #[.string t272] rfl (by (try simp only [List.map_toArray, List.map_cons, List.map_nil]); first | done | rfl | (simp only [List.length_drop, List.length_take]; rfl)) ?_; (with_reducible refine (scan_Words.calls t272 t273 t274 t275 t276 _ A47.out).mono ?_); rintro e w106 ⟨v277, rfl, ho0, hb⟩; refine ⟨_, rfl, ?_⟩; have n0_ := Aside0.mk (Kd.R_below (by (with_reducible repeat (first | apply Kd.R_alloc | apply Kd.R_drewN | apply Kd.R_drew)); exact HO_5.out) hb); have n1_ := Aside0.mk (Kd.R_lower ho0 (below_size (by repeat (first | (with_reducible first | exact HB.out | apply below_alloc | apply pw_below_drewN | apply below_drew1) | exact HB.out)))); have n2_ := Aside0.mk (below_step (by repeat (first | (with_reducible first | exact HB.out | apply below_alloc | apply pw_below_drewN | apply below_drew1) | exact HB.out)) hb); clear HO_5; clear HB; have HO_5 := n0_; have HO278 := n1_; have HB := n2_; clear n0_ n1_ n2_; (try clear hb); (try clear hb2); (try clear hk); (try clear hi); (try clear ho0)) | ((with_reducible refine gate_callee (f := 8) rfl ?_); refine goesL_ (some 104) rfl rfl Tryd.func8 (by kernel_rfl) rfl #[.string (t272 ++ (⟨#[32]⟩ : ByteArray))] rfl (by (try simp only [List.map_toArray, List.map_cons, List.map_nil]); first | done | rfl | (simp only [List.length_drop, List.length_take]; rfl)) ?_; (with_reducible refine (scan_Words.calls (t272 ++ (⟨#[32]⟩ : ByteArray)) t279 t280 t281 t282 _ A49.out).mono ?_); rintro e w107 ⟨v283, rfl, ho0, hb⟩; refine ⟨_, rfl, ?_⟩; have n0_ := Aside0.mk (Kd.R_below (by (with_reducible repeat (first | apply Kd.R_alloc | apply Kd.R_drewN | apply Kd.R_drew)); exact HO_5.out) hb); have n1_ := Aside0.mk (Kd.R_elder' (by (with_reducible repeat (first | apply Kd.R_alloc | apply Kd.R_drewN | apply Kd.R_drew)); exact HO278.out) (Kd.R_base ho0) hb); have n2_ := Aside0.mk (Kd.R_lower (Kd.R_new' ho0 (Kd.R_lt (by (with_reducible repeat (first | apply Kd.R_alloc | apply Kd.R_drewN | apply Kd.R_drew)); exact HO278.out))) (below_size (by repeat (first | (with_reducible first | exact HB.out | apply below_alloc | apply pw_below_drewN | apply below_drew1) | exact HB.out)))); have n3_ := Aside0.mk (below_step (by repeat (first | (with_reducible first | exact HB.out | apply below_alloc | apply pw_below_drewN | apply below_drew1) | exact HB.out)) hb); clear HO_5; clear HO278; clear HB; have HO_5 := n0_; have HO278 := n1_; have HO284 := n2_; have HB := n3_; clear n0_ n1_ n2_ n3_; (try clear hb); (try clear hb2); (try clear hk); (try clear hi); (try clear ho0)) | (go_at_call 10; (with_reducible refine (drayagelaw04_works.calls k2  false _ A50.out).mono ?_); rintro e w108 ⟨rfl, hb⟩; have n0_ := Aside0.mk (Kd.R_below (by (with_reducible repeat (first | apply Kd.R_alloc | apply Kd.R_drewN | apply Kd.R_drew)); exact HO_5.out) hb); have n1_ := Aside0.mk (Kd.R_below (by (with_reducible repeat (first | apply Kd.R_alloc | apply Kd.R_drewN | apply Kd.R_drew)); exact HO278.out) hb); have n2_ := Aside0.mk (Kd.R_below (by (with_reducible repeat (first | apply Kd.R_alloc | apply Kd.R_drewN | apply Kd.R_drew)); exact HO284.out) hb); have n3_ := Aside0.mk (below_step (by repeat (first | (with_reducible first | exact HB.out | apply below_alloc | apply pw_below_drewN | apply below_drew1) | exact HB.out)) hb); clear HO_5; clear HO278; clear HO284; clear HB; have HO_5 := n0_; have HO278 := n1_; have HO284 := n2_; have HB := n3_; clear n0_ n1_ n2_ n3_; (try clear hb); (try clear hb2); (try clear hk); (try clear hi)))
                  go_ret
                  exact ⟨by first | rfl | (simp [errW_none, errW_some] <;> rfl) | (simp [*, errW_none, errW_some] <;> rfl), by repeat (first | (with_reducible first | exact HB.out | apply below_alloc | apply pw_below_drewN | apply below_drew1) | exact HB.out)⟩
              · rw [if_neg c48] at H
                exact absurd H (by simp)

/-- THE ONE PURE STATEMENT of drayagelaw04_ScanKnown: yours. -/
def drayagelaw04_ScanKnown.Pure : Prop := ∃ k, drayagelaw04_ScanKnown.f k  = some true
theorem drayagelaw04_ScanKnown.walk (P : drayagelaw04_ScanKnown.Pure)  (w : World)  (hT0 : Tb w) :
    Calls Tryd.prog 7 #[] w fun e w' => e = .returned (.bool true) ∧ Below w.heap.size w w' := by
  obtain ⟨k, h⟩ := P  
  refine (drayagelaw04_ScanKnown.calls k  true w h hT0).mono ?_
  rintro e w' ⟨rfl, hd⟩
  exact ⟨rfl, hd⟩

end Go.Proofs.YtcpalnmodbbklaaDoor.P
