import Derived.Test.YtcpalnmodbbklaaDoorHref6
import Derived.Outline
/- The reference's Quote. -/
namespace Go.Proofs.YtcpalnmodbbklaaDoor.P
set_option linter.unusedVariables false
set_option linter.unusedSimpArgs false
open Go.RowKit Go.Proofs.YtcpalnmodbbklaaDoorW.PrintWords Go.Proofs.YtcpalnmodbbklaaDoorW.PrintLast Go.Proofs.YtcpalnmodbbklaaDoorW.PrintMore

def rpiece (s : ByteArray) (p : Nat) : ByteArray := if rcv s p = 34 then ⟨#[92, 34]⟩ else if rcv s p = 92 then ⟨#[92, 92]⟩ else if rcv s p = 10 then ⟨#[92, 110]⟩ else s.extract p (p + wdt s p)
def rquoteR (s : ByteArray) : Nat → Nat → ByteArray → ByteArray × Int
  | 0, _, _ => (⟨#[]⟩, 4)
  | k + 1, p, acc =>
    if rcv s p < 0 then (acc ++ ⟨#[34]⟩, 0)
    else if rbv s p = false ∨ (rcv s p < 32 ∧ rcv s p ≠ 10) then (⟨#[]⟩, 4)
    else rquoteR s k (p + wdt s p) (acc ++ rpiece s p)
def RQPost (w : World) (r : ByteArray × Int) (e : Ending) (w' : World) : Prop :=
  e = .returned (.tuple #[.string r.1, .int .i64 r.2]) ∧ Below w.heap.size w w'
set_option maxRecDepth 100000 in
set_option maxHeartbeats 6400000 in
theorem rquote_calls (s : ByteArray) (w : World) (hs : s.size ≤ 17592186044416) (hT : Tb w) :
    Calls Tryd.prog 18 #[.string s] w (RQPost w (rquoteR s (s.size + 1) 0 ⟨#[34]⟩)) := by
  have hb0 : Below w.heap.size w (w.alloc (.cells #[.string s, .int .i64 0, .int .i64 1, .int .i64 1] 56)) := (Below.refl _ _).alloc (Nat.le_refl _) _
  have HS0 : Aside0 (RP w (w.alloc (.cells #[.string s, .int .i64 0, .int .i64 1, .int .i64 1] 56)) w.heap.size s 0 1 1) := ⟨⟨⟨heap_alloc_new w _, hb0, Nat.le_refl _, hT⟩, ⟨by omega, by omega, by omega, by omega, by omega, by omega⟩⟩⟩
  clear hb0 hT
  obtain ⟨RES, hRES⟩ : ∃ r, rquoteR s (s.size + 1) 0 ⟨#[34]⟩ = r := ⟨_, rfl⟩
  rw [hRES]
  have HR := Aside0.mk hRES
  clear hRES
  go_enter Tryd.func18, Tryd.ntmps18
  go_wp2_with fail
  obtain ⟨g, hg⟩ : ∃ g, w.heap.size = g := ⟨_, rfl⟩
  rw [hg] at HS0 ⊢
  generalize w.alloc (.cells #[.string s, .int .i64 0, .int .i64 1, .int .i64 1] 56) = W0 at *
  have HG := Aside0.mk hg
  clear hg
  go_loopg [4] (s.size + 1) (fun gk t4 wx => ∃ p ln cl acc, t4 = .string acc ∧ acc.size ≤ 2 * p + 1 ∧ Aside0 (RP w wx g s p ln cl) ∧ Aside0 (s.size - p < gk) ∧ Aside0 (rquoteR s gk p acc = RES))
  case atStart => exact ⟨0, 1, 1, _, rfl, Nat.le_refl _, HS0, ⟨by omega⟩, HR⟩
  case round =>
    clear HS0 HR
    obtain ⟨p, ln, cl, acc, rfl, hac, HH, HK, HR⟩ := hrel
    cases gk with
    | zero => exact absurd HK.out (by omega)
    | succ k =>
      have HEQ : Aside0 (rquoteR s (k + 1) p acc = if rcv s p < 0 then (acc ++ ⟨#[34]⟩, 0)
    else if rbv s p = false ∨ (rcv s p < 32 ∧ rcv s p ≠ 10) then (⟨#[]⟩, 4)
    else rquoteR s k (p + wdt s p) (acc ++ rpiece s p)) := ⟨rfl⟩
      go_wp2_with fail
      refine (rune_at HH.out).mono ?_
      rintro e W1 ⟨rfl, hb⟩
      have H1 := Aside0.mk (HH.out.below hb)
      have hpz := H1.out.pz
      clear hb HH
      by_cases hneg : rcv s p < 0
      · have HX : Aside0 (RES = (acc ++ ⟨#[34]⟩, 0)) := ⟨by rw [← HR.out, HEQ.out, if_pos hneg]⟩
        have d1 : decide (rcv s p < 0) = true := decide_eq_true hneg
        have hsz : acc.size + 1 ≤ 9223372036854775807 := by omega
        have hsz2 : ¬ (9223372036854775807 < acc.size + 1) := by omega
        clear HEQ HR hneg
        go_wp2_with fail
        rw [HX.out]
        go_ret2
        exact ⟨rfl, H1.out.bl⟩
      · have d1 : decide (rcv s p < 0) = false := decide_eq_false hneg
        have HP : Aside0 (p < s.size) := ⟨rcv_lt (by omega)⟩
        have hp1 := HP.out
        have HWD := decode_range0 s p hp1
        have hpw : p + 1 ≤ p + wdt s p ∧ p + wdt s p ≤ s.size := by have := HWD.2; unfold wdt; omega
        clear HWD
        obtain ⟨hpw1, hpw2⟩ := hpw
        by_cases hbad : rbv s p = false ∨ (rcv s p < 32 ∧ rcv s p ≠ 10)
        · have HX : Aside0 (RES = (⟨#[]⟩, 4)) := ⟨by rw [← HR.out, HEQ.out, if_neg hneg, if_pos hbad]⟩
          clear HEQ HR hneg
          cases hbv : rbv s p with
          | false =>
            clear hbad hbv
            go_wp2_with fail
            rw [HX.out]
            go_ret2
            exact ⟨rfl, H1.out.bl⟩
          | true =>
            rw [hbv] at hbad
            have h2 : rcv s p < 32 ∧ rcv s p ≠ 10 := by simpa using hbad
            have d2 : decide (rcv s p < 32) = true := decide_eq_true h2.1
            have d3 : ((rcv s p : Int) != 10) = true := by rw [bne_iff_ne]; exact h2.2
            clear hbad hbv h2
            go_wp2_with fail
            rw [HX.out]
            go_ret2
            exact ⟨rfl, H1.out.bl⟩
        · have HX : Aside0 (rquoteR s k (p + wdt s p) (acc ++ rpiece s p) = RES) := ⟨by rw [← HR.out, HEQ.out, if_neg hneg, if_neg hbad]⟩
          have hbv : rbv s p = true := by
            rcases Bool.eq_false_or_eq_true (rbv s p) with h | h
            · exact h
            · exact absurd (Or.inl h) hbad
          rw [hbv]
          have h10 : rcv s p < 32 → rcv s p = 10 := fun h => Decidable.byContradiction fun h2 => hbad (Or.inr ⟨h, h2⟩)
          have HPC : Aside0 (rpiece s p = if rcv s p = 34 then ⟨#[92, 34]⟩ else if rcv s p = 92 then ⟨#[92, 92]⟩ else if rcv s p = 10 then ⟨#[92, 110]⟩ else s.extract p (p + wdt s p)) := ⟨rfl⟩
          have HLT2 : Aside0 (s.size - (p + wdt s p) < k) := ⟨by have := HK.out; omega⟩
          have c1 : W1.cell? ⟨g, 1, none⟩ = some (.int .i64 (p : Int)) := (blk_cell H1.out.rb 1).trans rfl
          have hs2 : acc.size + 2 ≤ 9223372036854775807 := by omega
          have hs3 : ¬ (9223372036854775807 < acc.size + 2) := by omega
          have HSZ : Aside0 (acc.size + 2 ≤ 2 * (p + wdt s p) + 1) := ⟨by omega⟩
          clear HEQ HR hneg hbad hbv
          obtain ⟨c, hc⟩ : ∃ c, rcv s p = c := ⟨_, rfl⟩
          rw [hc] at HPC h10 d1 ⊢
          clear hc
          by_cases h34 : c = 34
          · subst h34
            have HPC2 : Aside0 (rpiece s p = ⟨#[92, 34]⟩) := ⟨HPC.out⟩
            rw [HPC2.out] at HX
            clear HPC h10 HPC2 d1
            go_wp2_with fail
            refine (on_at H1.out HP.out).mono ?_
            rintro e W2 ⟨rfl, h2, o2⟩
            have H2 := Aside0.mk h2
            clear h2 o2 c1
            go_wp2_with fail
            go_roundg k
            case rel => exact ⟨_, _, _, _, rfl, by rw [ByteArray.size_append]; exact HSZ.out, H2, HLT2, HX⟩
            case measure => omega
          · by_cases h92 : c = 92
            · subst h92
              have HPC2 : Aside0 (rpiece s p = ⟨#[92, 92]⟩) := ⟨HPC.out⟩
              rw [HPC2.out] at HX
              clear HPC h10 HPC2 d1 h34
              go_wp2_with fail
              refine (on_at H1.out HP.out).mono ?_
              rintro e W2 ⟨rfl, h2, o2⟩
              have H2 := Aside0.mk h2
              clear h2 o2 c1
              go_wp2_with fail
              go_roundg k
              case rel => exact ⟨_, _, _, _, rfl, by rw [ByteArray.size_append]; exact HSZ.out, H2, HLT2, HX⟩
              case measure => omega
            · by_cases he : c = 10
              · subst he
                have HPC2 : Aside0 (rpiece s p = ⟨#[92, 110]⟩) := ⟨HPC.out⟩
                rw [HPC2.out] at HX
                clear HPC h10 HPC2 d1 h34 h92
                go_wp2_with fail
                refine (on_at H1.out HP.out).mono ?_
                rintro e W2 ⟨rfl, h2, o2⟩
                have H2 := Aside0.mk h2
                clear h2 o2 c1
                go_wp2_with fail
                go_roundg k
                case rel => exact ⟨_, _, _, _, rfl, by rw [ByteArray.size_append]; exact HSZ.out, H2, HLT2, HX⟩
                case measure => omega
              · have HPC2 : Aside0 (rpiece s p = s.extract p (p + wdt s p)) := ⟨by rw [HPC.out, if_neg h34, if_neg h92, if_neg he]⟩
                rw [HPC2.out] at HX
                have d2 : decide (c < 32) = false := decide_eq_false (fun h => he (h10 h))
                have d3 : ((c : Int) == 34) = false := by rw [beq_eq_false_iff_ne]; exact h34
                have d4 : ((c : Int) == 92) = false := by rw [beq_eq_false_iff_ne]; exact h92
                have d5 : ((c : Int) == 10) = false := by rw [beq_eq_false_iff_ne]; exact he
                clear HPC h10 HPC2 h34 h92 he
                go_wp2_with fail
                refine (on_at H1.out HP.out).mono ?_
                rintro e W2 ⟨rfl, h2, o2⟩
                have H2 := Aside0.mk h2
                clear h2 o2 c1
                obtain ⟨p2, hp2⟩ : ∃ q, p + wdt s p = q := ⟨_, rfl⟩
                rw [hp2] at H2 HX HLT2 HSZ hpw1 hpw2
                clear hp2 hs2 hs3
                have r1 : W2.cell? ⟨g, 1, none⟩ = some (.int .i64 (p2 : Int)) := (blk_cell H2.out.rb 1).trans rfl
                have a0 : (0 : Int) ≤ (p : Int) := by omega
                have a1 : (p : Int) ≤ (p2 : Int) := by omega
                have a2 : (p2 : Int) ≤ (s.size : Int) := by omega
                have hes : (s.extract p p2).size = p2 - p := by rw [ByteArray.size_extract]; omega
                have hle2 : acc.size + (s.extract p p2).size ≤ 9223372036854775807 := by omega
                have hle3 : ¬ (9223372036854775807 < acc.size + (p2 - p)) := by omega
                have HLE : Aside0 (acc.size + (s.extract p p2).size ≤ 2 * p2 + 1) := ⟨by omega⟩
                go_wp2_with fail
                go_roundg k
                case rel => exact ⟨_, _, _, _, rfl, by rw [ByteArray.size_append]; exact HLE.out, H2, HLT2, HX⟩
                case measure => omega
def drayageref04_Quote.f (s : ByteArray) : Option (ByteArray × Int) := if s.size ≤ 17592186044416 then some (rquoteR s (s.size + 1) 0 ⟨#[34]⟩) else none
theorem drayageref04_Quote.calls (a0 : ByteArray) (r1 : ByteArray) (r2 : Int) (w : World) (h : drayageref04_Quote.f a0 = some (r1, r2)) (hT : Tb w) :
    Calls Tryd.prog 18 #[.string a0] w fun e w' => e = .returned (.tuple #[.string r1, .int .i64 r2]) ∧ Below w.heap.size w w' := by
  unfold drayageref04_Quote.f at h
  split at h
  · rename_i hs
    have h := Option.some.inj h
    have := rquote_calls a0 w hs hT
    rw [h] at this
    exact this
  · cases h
end Go.Proofs.YtcpalnmodbbklaaDoor.P
