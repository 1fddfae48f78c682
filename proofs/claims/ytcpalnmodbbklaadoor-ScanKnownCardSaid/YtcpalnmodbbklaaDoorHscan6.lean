import Derived.Maps.OwnSet
import Derived.Carry
import Derived.Test.YtcpalnmodbbklaaDoorHscan4
/- The reader of scan: between words, whole; in a name or a number. -/
namespace Go.Proofs.YtcpalnmodbbklaaDoor.P
set_option linter.unusedVariables false
set_option linter.unusedSimpArgs false
open Go.RowKit Go.Proofs.YtcpalnmodbbklaaDoorW.PrintWords Go.Proofs.YtcpalnmodbbklaaDoorW.PrintLast Go.Proofs.YtcpalnmodbbklaaDoorW.PrintMore

/-- the tests ahead of the quote's: none holds -/
structure Late (c : Int) : Prop where
  h0 : 0 ≤ c
  h1 : c ≤ 1114111
  q1 : ((c : Int) == 10) = false
  q2 : ((c : Int) == 35) = false
  nb : blankB c = false
  ns : scan_small.f c = some false
  nd : scan_digit.f c = some false
set_option maxRecDepth 100000 in
set_option maxHeartbeats 3200000 in
theorem between_quote (w0 W : World) (g it : Nat) (io : Obj) (σ : Sc) (H : SCs w0 W g it io σ) (hwl : σ.wd.length ≤ 99999) (hL : Late 34) :
    Calls Tryd.prog 20 #[.pointer (some ⟨g, 0, none⟩), .int .i32 34] W (Post w0 g it io (beginS σ 3 .quo, 0)) := by
  obtain ⟨vw, vt, H⟩ := H
  have HH := Aside0.mk H
  have HL := Aside0.mk hL
  clear H hL
  go_enter Tryd.func20, Tryd.ntmps20
  go_wp2_with fail
  refine (blank_calls 34 _ (by omega) (by omega)).mono ?_
  rintro e w1 ⟨rfl, hb1⟩
  have H1 := Aside0.mk (HH.out.below hb1)
  rw [HL.out.nb]
  go_wp2_with fail
  refine (scan_small.calls 34 _ _ HL.out.ns).mono ?_
  rintro e w2 ⟨rfl, hd2⟩
  have H2 := Aside0.mk (H1.out.below hd2.below)
  go_wp2_with fail
  refine (scan_digit.calls 34 _ _ HL.out.nd).mono ?_
  rintro e w3 ⟨rfl, hd3⟩
  have H3 := Aside0.mk (H2.out.below hd3.below)
  clear hd2 hb1 H1 HH H2 hd3
  go_wp2_with fail
  refine (begin_calls w0 _ g it io _ _ vw vt σ.wd σ.tx σ.ln σ.cl 3 43 H3.out (by omega)).mono ?_
  rintro e w4 ⟨rfl, vw4, H4⟩
  have H4 := Aside0.mk H4
  go_wp2_with fail
  go_ret
  exact ⟨rfl, _, _, by simpa [fnV, fnOf, beginS] using H4.out⟩
set_option maxRecDepth 100000 in
set_option maxHeartbeats 3200000 in
theorem between_sign (w0 W : World) (g it : Nat) (io : Obj) (σ : Sc) (c : Int) (H : SCs w0 W g it io σ) (hwl : σ.wd.length ≤ 99999) (hL : Late c) (q3 : ((c : Int) == 34) = false) (hs : signB c = true) :
    Calls Tryd.prog 20 #[.pointer (some ⟨g, 0, none⟩), .int .i32 c] W (Post w0 g it io (endS { beginS σ 4 .pln with tx := [c] }, 0)) := by
  obtain ⟨vw, vt, H⟩ := H
  have HH := Aside0.mk H
  have HL := Aside0.mk hL
  have HS := Aside0.mk hs
  have q1 := hL.q1
  have q2 := hL.q2
  clear H hL hs
  go_enter Tryd.func20, Tryd.ntmps20
  go_wp2_with fail
  refine (blank_calls c _ HL.out.h0 HL.out.h1).mono ?_
  rintro e w1 ⟨rfl, hb1⟩
  have H1 := Aside0.mk (HH.out.below hb1)
  rw [HL.out.nb]
  go_wp2_with fail
  refine (scan_small.calls c _ _ HL.out.ns).mono ?_
  rintro e w2 ⟨rfl, hd2⟩
  have H2 := Aside0.mk (H1.out.below hd2.below)
  go_wp2_with fail
  refine (scan_digit.calls c _ _ HL.out.nd).mono ?_
  rintro e w3 ⟨rfl, hd3⟩
  have H3 := Aside0.mk (H2.out.below hd3.below)
  go_wp2_with fail
  refine (sign_calls c _ HL.out.h0 HL.out.h1).mono ?_
  rintro e w5 ⟨rfl, hb5⟩
  have H5 := Aside0.mk (H3.out.below hb5)
  rw [HS.out]
  clear hd2 hb1 H1 HH H2 hd3 H3 hb5
  go_wp2_with fail
  refine (begin_calls w0 _ g it io _ _ vw vt σ.wd σ.tx σ.ln σ.cl 4 39 H5.out (by omega)).mono ?_
  rintro e w4 ⟨rfl, vw4, H4⟩
  clear H5
  have H6 := Aside0.mk (H4.lit c)
  have r3 : (w4.alloc (.cells #[.int .i32 c] 21)).cell? ⟨g, 3, none⟩ = some (.slice none 0 0) := (blk_cell H6.out.rb 3).trans rfl
  have f3 := blk_frozen H6.out.rb 3
  have H7 := Aside0.mk (H6.out.set 3 (.slice (some ⟨w4.heap.size, 0, none⟩) 1 1))
  clear H4 H6
  go_wp2_with fail
  refine (end_calls w0 _ g it io _ _ vw4 (.slice (some ⟨w4.heap.size, 0, none⟩) 1 1) σ.wd ⟨4, ⟨#[]⟩, σ.ln, σ.cl⟩ [c] σ.ln σ.cl (by simpa using H7.out) (by omega)).mono ?_
  rintro e w8 ⟨rfl, H8⟩
  have H8 := Aside0.mk H8
  go_wp2_with fail
  go_ret
  exact ⟨rfl, _, _, by simpa [endS, beginS, withText_snoc] using H8.out⟩
set_option maxRecDepth 100000 in
set_option maxHeartbeats 3200000 in
theorem between_odd (w0 W : World) (g it : Nat) (io : Obj) (σ : Sc) (c : Int) (H : SCs w0 W g it io σ) (hL : Late c) (q3 : ((c : Int) == 34) = false) (hs : signB c = false) :
    Calls Tryd.prog 20 #[.pointer (some ⟨g, 0, none⟩), .int .i32 c] W (Post w0 g it io (σ, 4)) := by
  obtain ⟨vw, vt, H⟩ := H
  have HH := Aside0.mk H
  have HL := Aside0.mk hL
  have HS := Aside0.mk hs
  have q1 := hL.q1
  have q2 := hL.q2
  clear H hL hs
  go_enter Tryd.func20, Tryd.ntmps20
  go_wp2_with fail
  refine (blank_calls c _ HL.out.h0 HL.out.h1).mono ?_
  rintro e w1 ⟨rfl, hb1⟩
  have H1 := Aside0.mk (HH.out.below hb1)
  rw [HL.out.nb]
  go_wp2_with fail
  refine (scan_small.calls c _ _ HL.out.ns).mono ?_
  rintro e w2 ⟨rfl, hd2⟩
  have H2 := Aside0.mk (H1.out.below hd2.below)
  go_wp2_with fail
  refine (scan_digit.calls c _ _ HL.out.nd).mono ?_
  rintro e w3 ⟨rfl, hd3⟩
  have H3 := Aside0.mk (H2.out.below hd3.below)
  go_wp2_with fail
  refine (sign_calls c _ HL.out.h0 HL.out.h1).mono ?_
  rintro e w5 ⟨rfl, hb5⟩
  have H5 := Aside0.mk (H3.out.below hb5)
  rw [HS.out]
  clear hd2 hb1 H1 HH H2 hd3 H3 hb5
  go_wp2_with fail
  go_ret
  exact ⟨rfl, _, _, H5.out⟩
theorem between_calls (w0 W : World) (g it : Nat) (io : Obj) (σ : Sc) (c : Int) (h0 : 0 ≤ c) (h1 : c ≤ 1114111) (H : SCs w0 W g it io σ) (hwl : σ.wd.length ≤ 99999) :
    Calls Tryd.prog 20 #[.pointer (some ⟨g, 0, none⟩), .int .i32 c] W (Post w0 g it io (stepB σ c)) := by
  unfold stepB
  by_cases hc : (decide (c = 10) || blankB c) = true
  · rw [if_pos hc]; exact between_stay w0 W g it io σ c h0 h1 H hc
  · rw [if_neg hc]
    have hc : (decide (c = 10) || blankB c) = false := by simpa using hc
    have hc2 := hc
    simp only [Bool.or_eq_false_iff, decide_eq_false_iff_not] at hc2
    by_cases h35 : c = 35
    · rw [if_pos h35]; subst h35; exact between_hash w0 W g it io σ H
    · rw [if_neg h35]
      cases hs : smallB c with
      | true => rw [if_pos rfl]; exact between_name w0 W g it io σ c h0 h1 H hwl hc h35 hs
      | false =>
        rw [if_neg (by simp)]
        cases hd : digitB c with
        | true => rw [if_pos rfl]; exact between_number w0 W g it io σ c h0 h1 H hwl hc h35 hs hd
        | false =>
          rw [if_neg (by simp)]
          have hL : Late c := ⟨h0, h1, beq_eq_false_iff_ne.mpr hc2.1, beq_eq_false_iff_ne.mpr h35, hc2.2, by rw [small_f, hs], by rw [digit_f, hd]⟩
          by_cases h34 : c = 34
          · rw [if_pos h34]; subst h34; exact between_quote w0 W g it io σ H hwl hL
          · rw [if_neg h34]
            have q3 := beq_eq_false_iff_ne.mpr h34
            cases hg : signB c with
            | true => rw [if_pos rfl]; exact between_sign w0 W g it io σ c H hwl hL q3 hg
            | false => rw [if_neg (by simp)]; exact between_odd w0 W g it io σ c H hL q3 hg
end Go.Proofs.YtcpalnmodbbklaaDoor.P
/- The reader of scan: behind a backslash. -/
namespace Go.Proofs.YtcpalnmodbbklaaDoor.P
set_option linter.unusedVariables false
set_option linter.unusedSimpArgs false
open Go.RowKit Go.Proofs.YtcpalnmodbbklaaDoorW.PrintWords Go.Proofs.YtcpalnmodbbklaaDoorW.PrintLast Go.Proofs.YtcpalnmodbbklaaDoorW.PrintMore
open Go.Maps (Keyed int_keyed keyOf_int_mk)

theorem lawK : Keyed Tryd.prog 21 := int_keyed Tryd.underlying21
def escD : DataW Unit := .map [(.int .i32 34, .lit (.int .i32 34)), (.int .i32 92, .lit (.int .i32 92)), (.int .i32 110, .lit (.int .i32 10))]
theorem escD_eq : (((DataW.map [] : DataW Unit).put (.int .i32 34) (.lit (.int .i32 34))).put (.int .i32 92) (.lit (.int .i32 92))).put (.int .i32 110) (.lit (.int .i32 10)) = escD := by rfl
theorem keyI (c : Int) (h0 : 0 ≤ c) (h1 : c ≤ 1114111) : keyOf Tryd.prog 21 (.int .i32 c) = some (.int .i32 c) := keyOf_int_mk Tryd.underlying21 (by simp [Lit.wf, IntKind.min, IntKind.max, IntKind.signed, IntKind.bits]; omega)
theorem wfI (c : Int) (h0 : 0 ≤ c) (h1 : c ≤ 1114111) : (Lit.int .i32 c).wf = true := by simp [Lit.wf, IntKind.min, IntKind.max, IntKind.signed, IntKind.bits]; omega
set_option maxRecDepth 100000 in
set_option maxHeartbeats 3200000 in
theorem escapes_calls (W : World) :
    Calls Tryd.prog 72 #[] W fun e W' => e = .returned (.map (some W.heap.size)) ∧ W'.ownsMap Tryd.prog 21 (plainElem (H := Unit) Tryd.prog 21) W.heap.size 3 escD ∧ Below W.heap.size W W' := by
  have hmm := @run_makeMap Tryd.prog
  have o0 := World.ownsMap_made (H := Unit) W Tryd.prog 21 (plainElem Tryd.prog 21)
  obtain ⟨w1, k1, o1, g1⟩ := o0.update lawK Tryd.underlying100 (by unfold maxLen; omega) (keyI 34 (by omega) (by omega)) (plainElem_int Tryd.underlying21 (wfI 34 (by omega) (by omega)))
  obtain ⟨w2, k2, o2, g2⟩ := o1.update lawK Tryd.underlying100 (by unfold maxLen; omega) (keyI 92 (by omega) (by omega)) (plainElem_int Tryd.underlying21 (wfI 92 (by omega) (by omega)))
  obtain ⟨w3, k3, o3, g3⟩ := o2.update lawK Tryd.underlying100 (by unfold maxLen; omega) (keyI 110 (by omega) (by omega)) (plainElem_int Tryd.underlying21 (wfI 10 (by omega) (by omega)))
  rw [escD_eq] at o3
  have hB : Below W.heap.size W w3 := by
    have b0 : Below W.heap.size W (W.alloc (.map #[] 0)) := (Below.refl _ _).alloc (Nat.le_refl _) _
    have b1 := pw_below_grown b0 _ b0.size g1 (fun k hk => by cases hk; exact Nat.le_refl _)
    have b2 := pw_below_grown b1 _ b1.size g2 (fun k hk => by cases hk; exact Nat.le_refl _)
    exact pw_below_grown b2 _ b2.size g3 (fun k hk => by cases hk; exact Nat.le_refl _)
  have O3 := Aside0.mk o3
  have HB := Aside0.mk hB
  clear o0 o1 o2 o3 g1 g2 g3 hB
  go_enter Tryd.func72, Tryd.ntmps72
  go_wp2_with fail
  go_ret
  exact ⟨rfl, O3.out, HB.out⟩
end Go.Proofs.YtcpalnmodbbklaaDoor.P
