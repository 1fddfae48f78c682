import Derived.Test.YtcpalnmodbbklaaDoorHref
import Derived.Outline
/- The reference's reader: blanks, names and numbers. -/
namespace Go.Proofs.YtcpalnmodbbklaaDoor.P
set_option linter.unusedVariables false
set_option linter.unusedSimpArgs false
open Go.RowKit Go.Proofs.YtcpalnmodbbklaaDoorW.PrintWords Go.Proofs.YtcpalnmodbbklaaDoorW.PrintLast Go.Proofs.YtcpalnmodbbklaaDoorW.PrintMore

/-- a place of a text -/
structure Pl (s : ByteArray) (p : Nat) (ln cl : Int) : Prop where
  pz : p ≤ s.size
  l0 : 0 ≤ ln
  l1 : ln ≤ p + 1
  c0 : 0 ≤ cl
  c1 : cl ≤ p + 1
  z : s.size ≤ 17592186044416
theorem Pl.on {s : ByteArray} {p : Nat} {ln cl : Int} (h : Pl s p ln cl) (hp : p < s.size) : Pl s (p + wdt s p) (lnv s p ln) (clv s p cl) := by
  have h0 := decode_range0 s p hp
  have h1 := h.l0
  have h2 := h.l1
  have h3 := h.c0
  have h4 := h.c1
  refine ⟨h0.2.2, ?_, ?_, ?_, ?_, h.z⟩
  all_goals
    try unfold wdt
    try unfold lnv
    try unfold clv
    try split
    all_goals omega
/-- the reader and its place -/
structure RP (w0 W : World) (g : Nat) (s : ByteArray) (p : Nat) (ln cl : Int) : Prop extends RR w0 W g s p ln cl, Pl s p ln cl
theorem RP.below {w0 W W' : World} {g : Nat} {s : ByteArray} {p : Nat} {ln cl : Int} (h : RP w0 W g s p ln cl) (hb : Below W.heap.size W W') : RP w0 W' g s p ln cl := ⟨h.toRR.below hb, h.toPl⟩
theorem rune_at {w0 W : World} {g : Nat} {s : ByteArray} {p : Nat} {ln cl : Int} (H : RP w0 W g s p ln cl) :
    Calls Tryd.prog 25 #[.pointer (some ⟨g, 0, none⟩)] W fun e W' => e = .returned (.tuple #[.int .i64 (rcv s p), .bool (rbv s p)]) ∧ Below W.heap.size W W' := rune_calls w0 W g s p ln cl H.pz H.z H.toRR
theorem on_at {w0 W : World} {g : Nat} {s : ByteArray} {p : Nat} {ln cl : Int} (H : RP w0 W g s p ln cl) (hp : p < s.size) :
    Calls Tryd.prog 30 #[.pointer (some ⟨g, 0, none⟩)] W fun e W' => e = .returned (.tuple #[]) ∧ RP w0 W' g s (p + wdt s p) (lnv s p ln) (clv s p cl) ∧ Oth g W W' := by
  have h1 := H.z
  have h2 := H.l0
  have h3 := H.l1
  have h4 := H.c0
  have h5 := H.c1
  have h6 := H.pz
  exact (on_calls w0 W g s p ln cl hp h1 ⟨h2, by omega⟩ ⟨h4, by omega⟩ H.toRR).mono fun e W' h => ⟨h.1, ⟨h.2.1, H.toPl.on hp⟩, h.2.2⟩
/-- behind a #: what follows, up to the line's end -/
def comR (s : ByteArray) : Nat → Nat → Int → Int → Bool × Nat × Int × Int
  | 0, p, ln, cl => (false, p, ln, cl)
  | k + 1, p, ln, cl => if 0 ≤ rcv s p ∧ rcv s p ≠ 10 then (if rbv s p = true then comR s k (p + wdt s p) (lnv s p ln) (clv s p cl) else (false, p, ln, cl)) else (true, p, ln, cl)
theorem comR_le (s : ByteArray) : ∀ k p ln cl, p ≤ (comR s k p ln cl).2.1 := by
  intro k
  induction k with
  | zero => intro p ln cl; exact Nat.le_refl _
  | succ k ih =>
    intro p ln cl
    unfold comR
    split
    · split
      · exact Nat.le_trans (Nat.le_add_right _ _) (ih _ _ _)
      · exact Nat.le_refl _
    · exact Nat.le_refl _
/-- blanks, line ends, and what stands behind a # -/
def skipR (s : ByteArray) : Nat → Nat → Int → Int → Bool × Nat × Int × Int
  | 0, p, ln, cl => (false, p, ln, cl)
  | k + 1, p, ln, cl =>
    if rcv s p = 35 then
      if (comR s (k + 1) p ln cl).1 = true then skipR s k (comR s (k + 1) p ln cl).2.1 (comR s (k + 1) p ln cl).2.2.1 (comR s (k + 1) p ln cl).2.2.2
      else (false, (comR s (k + 1) p ln cl).2)
    else if rcv s p ≠ 32 ∧ rcv s p ≠ 9 ∧ rcv s p ≠ 10 then (true, p, ln, cl)
    else skipR s k (p + wdt s p) (lnv s p ln) (clv s p cl)
def SkPost (w0 W : World) (g : Nat) (s : ByteArray) (r : Bool × Nat × Int × Int) (e : Ending) (W' : World) : Prop :=
  e = .returned (.bool r.1) ∧ RP w0 W' g s r.2.1 r.2.2.1 r.2.2.2 ∧ Oth g W W'
theorem rcv_lt {s : ByteArray} {p : Nat} (h : 0 ≤ rcv s p) : p < s.size := by
  unfold rcv at h
  split at h
  · assumption
  · omega
theorem comR_35 {s : ByteArray} {k p : Nat} {ln cl : Int} (h : rcv s p = 35) : p < (comR s (k + 2) p ln cl).2.1 ∨ (comR s (k + 2) p ln cl).1 = false := by
  have hp := rcv_lt (s := s) (p := p) (by omega)
  have := decode_range0 s p hp
  unfold comR
  rw [if_pos ⟨by omega, by omega⟩]
  split
  · left
    have h2 := comR_le s (k + 1) (p + wdt s p) (lnv s p ln) (clv s p cl)
    unfold wdt at h2 ⊢
    omega
  · right; rfl
set_option maxRecDepth 100000 in
set_option maxHeartbeats 6400000 in
theorem skip_calls (w0 W : World) (g : Nat) (s : ByteArray) (p : Nat) (ln cl : Int) (K : Nat) (hK : s.size - p < K) (H : RP w0 W g s p ln cl) :
    Calls Tryd.prog 24 #[.pointer (some ⟨g, 0, none⟩)] W (SkPost w0 W g s (skipR s K p ln cl)) := by
  have HH := Aside0.mk H
  have HK := Aside0.mk hK
  obtain ⟨RES, hRES⟩ : ∃ r, skipR s K p ln cl = r := ⟨_, rfl⟩
  rw [hRES]
  have HR := Aside0.mk hRES
  clear H hK hRES
  go_enter Tryd.func24, Tryd.ntmps24
  go_wp2_with fail
  go_loopg [] K (fun gk wx => ∃ p ln cl, Aside0 (RP w0 wx g s p ln cl) ∧ Aside0 (Oth g W wx) ∧ Aside0 (s.size - p < gk) ∧ Aside0 (skipR s gk p ln cl = RES))
  case atStart => exact ⟨p, ln, cl, HH, ⟨Oth.refl _ _⟩, HK, HR⟩
  case round =>
    clear HH HK HR p ln cl
    obtain ⟨p, ln, cl, HH, HO, HK, HR⟩ := hrel
    cases gk with
    | zero => exact absurd HK.out (by omega)
    | succ k =>
      go_wp2_with fail
      refine (rune_at HH.out).mono ?_
      rintro e W1 ⟨rfl, hb⟩
      have H1 := Aside0.mk (HH.out.below hb)
      have O1 := Aside0.mk (HO.out.below hb)
      clear hb HH HO
      have HC := Aside0.mk (rcv_le s p)
      have HEQ : Aside0 (skipR s (k + 1) p ln cl = (if rcv s p = 35 then
      if (comR s (k + 1) p ln cl).1 = true then skipR s k (comR s (k + 1) p ln cl).2.1 (comR s (k + 1) p ln cl).2.2.1 (comR s (k + 1) p ln cl).2.2.2
      else (false, (comR s (k + 1) p ln cl).2)
    else if rcv s p ≠ 32 ∧ rcv s p ≠ 9 ∧ rcv s p ≠ 10 then (true, p, ln, cl)
    else skipR s k (p + wdt s p) (lnv s p ln) (clv s p cl))) := ⟨rfl⟩
      by_cases h35 : rcv s p = 35
      · have q1 : (((rcv s p) : Int) == 35) = true := by rw [h35]; rfl
        obtain ⟨CR, hCR⟩ : ∃ r, comR s (k + 1) p ln cl = r := ⟨_, rfl⟩
        have HCR := Aside0.mk hCR
        have HX : Aside0 ((if CR.1 = true then skipR s k CR.2.1 CR.2.2.1 CR.2.2.2 else (false, CR.2)) = RES) := ⟨by rw [← HR.out, HEQ.out, if_pos h35, hCR]⟩
        have hk1 : 1 ≤ k := by
          have h1 := rcv_lt (s := s) (p := p) (by omega)
          have h2 := HK.out
          omega
        have HLT : Aside0 (p < CR.2.1 ∨ CR.1 = false) := ⟨by
          obtain ⟨k', rfl⟩ : ∃ q, k = q + 1 := ⟨k - 1, by omega⟩
          rw [← hCR]
          exact comR_35 h35⟩
        have HP0 := Aside0.mk HK.out
        obtain ⟨P0, hP0⟩ : ∃ q, p = q := ⟨_, rfl⟩
        rw [hP0] at HLT HP0
        clear HEQ h35 hCR HR HC hk1 hP0
        obtain ⟨wo, rfl⟩ : ∃ wo : World, wo = wr := ⟨_, rfl⟩
        go_wp2_with fail
        have HK0 := HK
        go_loopg [3, 4] (k + 1) (fun gk t3 t4 wx => ∃ p ln cl, t3 = .int .i64 (rcv s p) ∧ t4 = .bool (rbv s p) ∧ Aside0 (RP w0 wx g s p ln cl) ∧ Aside0 (Oth g W wx) ∧ Aside0 (s.size - p < gk) ∧ Aside0 (comR s gk p ln cl = CR))
        case atStart => exact ⟨p, ln, cl, rfl, rfl, H1, O1, HK, HCR⟩
        case round =>
          clear HK0 HK HCR H1 O1 q1
          obtain ⟨p, ln, cl, rfl, rfl, HH, HO, HK, HR⟩ := hrel
          cases gk with
          | zero => exact absurd HK.out (by omega)
          | succ k2 =>
            have HEQ : Aside0 (comR s (k2 + 1) p ln cl = if 0 ≤ rcv s p ∧ rcv s p ≠ 10 then (if rbv s p = true then comR s k2 (p + wdt s p) (lnv s p ln) (clv s p cl) else (false, p, ln, cl)) else (true, p, ln, cl)) := ⟨rfl⟩
            by_cases hin : 0 ≤ rcv s p ∧ rcv s p ≠ 10
            · have HP := Aside0.mk (rcv_lt (s := s) (p := p) hin.1)
              have HWD := Aside0.mk (decode_range0 s p HP.out)
              obtain ⟨c, hc⟩ : ∃ c, rcv s p = c := ⟨_, rfl⟩
              have HC := Aside0.mk hc
              rw [hc] at hin
              rw [hc]
              clear hc
              have d1 : (0 : Int) ≤ c := hin.1
              have d2 : ((c : Int) != 10) = true := by rw [bne_iff_ne]; exact hin.2
              cases hb : rbv s p with
              | false =>
                have HY : Aside0 ((false, p, ln, cl) = CR) := ⟨by rw [← HR.out, HEQ.out, HC.out, if_pos hin, hb]; rfl⟩
                have HZ : Aside0 ((false, p, ln, cl) = RES) := ⟨by rw [← HX.out, ← HY.out]; rfl⟩
                clear hin hb HEQ
                go_wp2_with fail
                go_ret
                rw [← HZ.out]
                exact ⟨rfl, HH.out, HO.out⟩
              | true =>
                have HY : Aside0 (comR s k2 (p + wdt s p) (lnv s p ln) (clv s p cl) = CR) := ⟨by rw [← HR.out, HEQ.out, HC.out, if_pos hin, hb]; rfl⟩
                clear hin hb HEQ
                go_wp2_with fail
                refine (on_at HH.out HP.out).mono ?_
                rintro e W2 ⟨rfl, h2, o2⟩
                have H2 := Aside0.mk h2
                have O2 := Aside0.mk (HO.out.trans o2)
                clear h2 o2
                go_wp2_with fail
                refine (rune_at H2.out).mono ?_
                rintro e W3 ⟨rfl, hb3⟩
                have H3 := Aside0.mk (H2.out.below hb3)
                have O3 := Aside0.mk (O2.out.below hb3)
                clear hb3
                go_wp2_with fail
                go_roundg k2
                case rel => exact ⟨_, _, _, rfl, rfl, H3, O3, ⟨by have := HWD.out.2; have := HK.out; unfold wdt; omega⟩, HY⟩
                case measure => omega
            · have HY : Aside0 ((true, p, ln, cl) = CR) := ⟨by rw [← HR.out, HEQ.out, if_neg hin]⟩
              have HZ : Aside0 (skipR s k p ln cl = RES) := ⟨by rw [← HX.out, ← HY.out]; rfl⟩
              have HL2 : Aside0 (s.size - p < k) := ⟨by have h1 := HLT.out; rw [← HY.out] at h1; have h2 := HP0.out; have h3 := HH.out.pz; simp at h1; omega⟩
              clear HEQ
              by_cases hneg : 0 ≤ rcv s p
              · have h10 : rcv s p = 10 := by omega
                rw [h10]
                clear hin h10 hneg
                go_wp2_with fail
                go_roundg k
                case rel => exact ⟨_, _, _, HH, HO, HL2, HZ⟩
                case measure => omega
              · have d1 : decide ((0 : Int) ≤ rcv s p) = false := decide_eq_false hneg
                clear hin hneg
                go_wp2_with fail
                go_roundg k
                case rel => exact ⟨_, _, _, HH, HO, HL2, HZ⟩
                case measure => omega
      · have HLT := Aside0.mk (fun h => rcv_lt (s := s) (p := p) h)
        obtain ⟨c, hc⟩ : ∃ c, rcv s p = c := ⟨_, rfl⟩
        rw [hc] at h35 HEQ HC HLT ⊢
        clear hc
        have q1 : ((c : Int) == 35) = false := by rw [beq_eq_false_iff_ne]; exact h35
        by_cases hbl : c ≠ 32 ∧ c ≠ 9 ∧ c ≠ 10
        · have HX : Aside0 ((true, p, ln, cl) = RES) := ⟨by rw [← HR.out, HEQ.out, if_neg h35, if_pos hbl]⟩
          have q2 : ((c : Int) != 32) = true := by rw [bne_iff_ne]; exact hbl.1
          have q3 : ((c : Int) != 9) = true := by rw [bne_iff_ne]; exact hbl.2.1
          have q4 : ((c : Int) != 10) = true := by rw [bne_iff_ne]; exact hbl.2.2
          clear h35 hbl
          go_wp2_with fail
          go_ret
          rw [← HX.out]
          exact ⟨rfl, H1.out, O1.out⟩
        · have HX : Aside0 (skipR s k (p + wdt s p) (lnv s p ln) (clv s p cl) = RES) := ⟨by rw [← HR.out, HEQ.out, if_neg h35, if_neg hbl]⟩
          have hp := HLT.out (by omega)
          have HW := Aside0.mk (decode_range0 s p hp)
          have HP := Aside0.mk hp
          have hb3 : c = 32 ∨ c = 9 ∨ c = 10 := by omega
          clear h35 hbl HLT HEQ HC q1 hp
          rcases hb3 with rfl | rfl | rfl
          all_goals
            go_wp2_with fail
            refine (on_at H1.out HP.out).mono ?_
            rintro e W2 ⟨rfl, h2, o2⟩
            have H2 := Aside0.mk h2
            have O2 := Aside0.mk (O1.out.trans o2)
            clear h2 o2
            go_wp2_with fail
            go_roundg k
            case rel => exact ⟨_, _, _, H2, O2, ⟨by have := HW.out.2; have := HK.out; unfold wdt; omega⟩, HX⟩
            case measure => omega
end Go.Proofs.YtcpalnmodbbklaaDoor.P
