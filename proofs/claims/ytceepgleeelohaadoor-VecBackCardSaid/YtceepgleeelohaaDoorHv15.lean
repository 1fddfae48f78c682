import Derived.Test.YtceepgleeelohaaDoorHv8
import Derived.Test.YtceepgleeelohaaDoorHv10
import Derived.Test.YtceepgleeelohaaDoorPf38
/- The document's Print of rows. -/
namespace Go.Proofs.YtceepgleeelohaaDoor.P
set_option linter.unusedVariables false
set_option linter.unusedSimpArgs false
open Go.RowKit Go.Proofs.YtceepgleeelohaaDoorW.PrintWords Go.Proofs.YtceepgleeelohaaDoorW.PrintLast Go.Proofs.YtceepgleeelohaaDoorW.PrintMore
def V.outS (v : V) : Nat → ByteArray
  | 0 => ⟨#[]⟩
  | k + 1 => if v.get k = 0 then V.outS v k else (if (V.outS v k).size = 0 then V.outS v k else V.outS v k ++ (⟨#[44]⟩ : ByteArray)) ++ nmB k ++ (⟨#[61]⟩ : ByteArray) ++ (printS (v.get k) (decide (k = 0))).1
def V.rprint (v : V) : ByteArray × Int := if v.rcheck ≠ 0 then (⟨#[]⟩, v.rcheck) else (v.outS 5, 0)
theorem out_len (v : V) : ∀ k, (v.outS k).size ≤ 47 * k
  | 0 => Nat.le_refl _
  | k + 1 => by
    have ih := out_len v k
    have h1 := print_len (v.get k) (decide (k = 0))
    have h2 := nm_len k
    have h3 : (⟨#[61]⟩ : ByteArray).size = 1 := rfl
    have h4 : (⟨#[44]⟩ : ByteArray).size = 1 := rfl
    unfold V.outS
    split
    · omega
    · rw [ByteArray.size_append, ByteArray.size_append, ByteArray.size_append]
      split
      · omega
      · rw [ByteArray.size_append]; omega
theorem names_f : drayageref02_names.f = some [nmB 0, nmB 1, nmB 2, nmB 3, nmB 4] := rfl
theorem names_c (w : World) : Calls Tryd.prog 38 #[] w fun e w' => ∃ gp cap, e = .returned (.slice (some ⟨gp, 0, none⟩) 5 cap) ∧ 5 ≤ cap ∧ gp < w'.heap.size ∧ (∀ i : Nat, i < 5 → w'.cell? ⟨gp, i, none⟩ = some (.string (nmB i))) ∧ Below w.heap.size w w' := by
  refine (drayageref02_names.calls _ w names_f).mono ?_
  rintro e w' ⟨v0, rfl, hR, hb⟩
  obtain ⟨inner, ho⟩ := Kd.R_own hR
  obtain ⟨gp, cap, hv, _, hgl⟩ := ho.form (by decide)
  subst hv
  have hC := Kd.R_reads' hR
  refine ⟨gp, cap, rfl, hC.2.1, hgl, ?_, hb⟩
  intro i hi
  obtain ⟨ad, c, ea, _, hK, hc0⟩ := Kd.C_get hC.2.2 (⟨#[]⟩ : ByteArray) (i : Int) (by omega) (by show (i : Int) < ((5 : Nat) : Int); omega)
  cases ea
  have h5 : i = 0 ∨ i = 1 ∨ i = 2 ∨ i = 3 ∨ i = 4 := by omega
  rcases h5 with rfl | rfl | rfl | rfl | rfl
  · have hc1 : c = [.string (nmB 0)] := hK
    subst hc1
    have h2 := hc0 0 _ rfl
    simpa [Addr.add, Kd.string, Kd.scalar] using h2
  · have hc1 : c = [.string (nmB 1)] := hK
    subst hc1
    have h2 := hc0 0 _ rfl
    simpa [Addr.add, Kd.string, Kd.scalar] using h2
  · have hc1 : c = [.string (nmB 2)] := hK
    subst hc1
    have h2 := hc0 0 _ rfl
    simpa [Addr.add, Kd.string, Kd.scalar] using h2
  · have hc1 : c = [.string (nmB 3)] := hK
    subst hc1
    have h2 := hc0 0 _ rfl
    simpa [Addr.add, Kd.string, Kd.scalar] using h2
  · have hc1 : c = [.string (nmB 4)] := hK
    subst hc1
    have h2 := hc0 0 _ rfl
    simpa [Addr.add, Kd.string, Kd.scalar] using h2
set_option maxRecDepth 100000 in
set_option maxHeartbeats 4000000 in
theorem rprint_c (a b c d e : Int) (w : World) (hT : Tb w) (hb64 : ∀ k, -9223372036854775808 ≤ V.get ⟨a, b, c, d, e⟩ k ∧ V.get ⟨a, b, c, d, e⟩ k ≤ 9223372036854775807) :
    Calls Tryd.prog 16 #[.agg #[.int .i64 a, .int .i64 b, .int .i64 c, .int .i64 d, .int .i64 e]] w fun e_ w' => e_ = .returned (.tuple #[.string (V.rprint ⟨a, b, c, d, e⟩).1, .int .i64 (V.rprint ⟨a, b, c, d, e⟩).2]) ∧ Below w.heap.size w w' := by
  obtain ⟨g, hg⟩ : ∃ g, w.heap.size = g := ⟨_, rfl⟩
  obtain ⟨W0, hW0⟩ : ∃ W, w.alloc (.cells #[.int .i64 a, .int .i64 b, .int .i64 c, .int .i64 d, .int .i64 e] 23) = W := ⟨_, rfl⟩
  have a0_ : At W0 g a b c d e := by rw [← hW0, ← hg]; exact At.new _ _ _ _ _ _
  have b0_ : Below g w W0 := by rw [← hW0, ← hg]; exact below_alloc (Below.refl _ _) _
  have CH := Aside0.mk (rcheck_c a b c d e)
  obtain ⟨vv, hv⟩ : ∃ v : V, ⟨a, b, c, d, e⟩ = v := ⟨_, rfl⟩
  obtain ⟨R, hR⟩ : ∃ R, V.rprint ⟨a, b, c, d, e⟩ = R := ⟨_, rfl⟩
  rw [hR]
  unfold V.rprint at hR
  obtain ⟨q, hq⟩ : ∃ q, V.rcheck ⟨a, b, c, d, e⟩ = q := ⟨_, rfl⟩
  rw [hq] at CH hR
  rw [hv] at hR hb64
  have HB64 := Aside0.mk hb64
  have HV := Aside0.mk hv
  have HT := Aside0.mk hT
  clear hq hv hb64 hT
  have R0 := Aside0.mk hR
  clear hR
  have k0_ := a0_.cell_0
  have k1_ := a0_.cell_1
  have k2_ := a0_.cell_2
  have k3_ := a0_.cell_3
  have k4_ := a0_.cell_4
  go_enter Tryd.func16, Tryd.ntmps16
  go_wp2_with fail
  refine (CH.out _).mono ?_
  rintro _ V0 ⟨rfl, hb⟩
  have b1_ := bk b0_ (Nat.le_of_lt a0_.lt) hb
  have a1_ := a0_.below hb
  clear k0_ k1_ k2_ k3_ k4_ b0_ a0_ hb CH
  by_cases hq : q ≠ 0
  · have hr := R0.out
    rw [if_pos hq] at hr
    subst hr
    have hqb : (q != 0) = true := bne_iff_ne.mpr hq
    clear hq R0
    go_wp2_with fail
    go_ret2
    exact ⟨rfl, by first | exact b1_ | exact below_is hg b1_⟩
  have R1 := Aside0.mk ((if_neg hq).symm.trans R0.out)
  have hqb : (q != 0) = false := by simpa using hq
  clear hq R0
  go_wp2_with fail
  refine (names_c _).mono ?_
  rintro _ V1 ⟨gp, cap, rfl, hcap, hgp, hnm, hb⟩
  have HI := Aside0.mk (And.intro (And.intro (a1_.below hb) (And.intro hgp hnm)) (bk b1_ (Nat.le_of_lt a1_.lt) hb))
  clear b1_ a1_ hb hgp hnm
  go_wp2_with fail
  clear hqb hW0
  go_loopw [6, 7] (fun v u wr => ∃ k : Nat, k ≤ 5 ∧ u = .int .i64 k ∧ v = .string (vv.outS k) ∧ Aside0 ((At wr g a b c d e ∧ gp < wr.heap.size ∧ ∀ i : Nat, i < 5 → wr.cell? ⟨gp, i, none⟩ = some (.string (nmB i))) ∧ Below g w wr)) (fun _ u _ => 5 - (intOf u).toNat)
  case atStart => exact ⟨0, Nat.zero_le _, rfl, rfl, HI⟩
  case round =>
    obtain ⟨k, hk, rfl, rfl, HF⟩ := hrel
    by_cases hlt : k < 5
    · have hx_ := HF.out.1.1.at_ k hlt
      rw [HV.out] at hx_
      have i0 : (0 : Int) ≤ (k : Int) := by omega
      have i5 : (k : Int) < 5 := by omega
      have hbx := HB64.out k
      have hst : vv.outS (k + 1) = if vv.get k = 0 then vv.outS k else (if (vv.outS k).size = 0 then vv.outS k else vv.outS k ++ (⟨#[44]⟩ : ByteArray)) ++ nmB k ++ (⟨#[61]⟩ : ByteArray) ++ (printS (vv.get k) (decide (k = 0))).1 := rfl
      obtain ⟨x, hx⟩ : ∃ x, vv.get k = x := ⟨_, rfl⟩
      have hol := out_len vv k
      obtain ⟨ot, hot⟩ : ∃ o, vv.outS k = o := ⟨_, rfl⟩
      rw [hx] at hx_ hst hbx
      rw [hot] at hst hol ⊢
      by_cases h0 : x = 0
      · rw [if_pos h0] at hst
        have HST := Aside0.mk hst
        have h0b : (x == 0) = true := by rw [h0]; rfl
        clear hst h0 hol hbx hx hot
        go_wp2_with fail
        go_roundw
        case rel => exact ⟨k + 1, by omega, by go_num, by rw [HST.out], HF⟩
        case measure => simp [intOf]; omega
      rw [if_neg h0] at hst
      have h0b : (x == 0) = false := beq_eq_false_iff_ne.2 h0
      obtain ⟨bi, hbi⟩ : ∃ b, decide (k = 0) = b := ⟨_, rfl⟩
      have hib : ((k : Int) == 0) = bi := by
        rw [← hbi]
        by_cases h : k = 0
        · subst h; rfl
        · rw [decide_eq_false h, beq_eq_false_iff_ne]; omega
      rw [hbi] at hst
      obtain ⟨p, hp⟩ : ∃ p, nmB k = p := ⟨_, rfl⟩
      obtain ⟨s, hs⟩ : ∃ s, (printS x bi).1 = s := ⟨_, rfl⟩
      obtain ⟨es, hes⟩ : ∃ s, (printS x bi).2 = s := ⟨_, rfl⟩
      have hpl : p.size ≤ 5 := by rw [← hp]; exact nm_len k
      have hsl : s.size ≤ 40 := by rw [← hs]; exact print_len _ _
      have PC := Aside0.mk (fun W (hT : Tb W) => drayageref01_Print.calls 8 x bi s es W ((refPrint_f x bi hbx 1).trans (by rw [← hs, ← hes])) hT)
      rw [hp, hs] at hst
      have HP := Aside0.mk hp
      clear hbi hp hs hes hbx hx hot
      go_wp2_with fail
      refine (PC.out _ (HT.out.up (hg ▸ HF.out.2))).mono ?_
      rintro _ W2 ⟨rfl, hb⟩
      have HF2 := Aside0.mk (And.intro (And.intro (HF.out.1.1.below hb) (And.intro (Nat.lt_of_lt_of_le HF.out.1.2.1 hb.size) (fun i hi => (hb.cell HF.out.1.2.1).trans (HF.out.1.2.2 i hi)))) (bk HF.out.2 (Nat.le_of_lt HF.out.1.1.lt) hb))
      clear hb HF PC hx_
      have hn_ := HF2.out.1.2.2 k hlt
      rw [HP.out] at hn_
      have hz1 : (⟨#[44]⟩ : ByteArray).size = 1 := rfl
      have hz2 : (⟨#[61]⟩ : ByteArray).size = 1 := rfl
      by_cases ho : ot.size = 0
      · rw [if_pos ho] at hst
        have HST := Aside0.mk hst
        have ho1 : (ot.toList == []) = true := by rw [empty_iff]; exact decide_eq_true ho
        have ho2 : (ot.toList != []) = false := by unfold bne; rw [ho1]; rfl
        have s1 : ot.size + p.size ≤ 9223372036854775807 := by omega
        have s2 : (ot ++ p).size + 1 ≤ 9223372036854775807 := by rw [ByteArray.size_append]; omega
        have s4 : ot.size + p.size + 1 ≤ 9223372036854775807 := by omega
        have s5 : ot.size + p.size + 1 + s.size ≤ 9223372036854775807 := by omega
        have s3 : (ot ++ p ++ (⟨#[61]⟩ : ByteArray)).size + s.size ≤ 9223372036854775807 := by rw [ByteArray.size_append, ByteArray.size_append]; omega
        clear hst hol hpl hsl hz1 hz2 ho
        go_wp2_with fail
        go_roundw
        case rel => exact ⟨k + 1, by omega, by go_num, by rw [HST.out], HF2⟩
        case measure => simp [intOf]; omega
      · rw [if_neg ho] at hst
        have HST := Aside0.mk hst
        have ho1 : (ot.toList == []) = false := by rw [empty_iff]; exact decide_eq_false ho
        have ho2 : (ot.toList != []) = true := by unfold bne; rw [ho1]; rfl
        have s0 : ot.size + 1 ≤ 9223372036854775807 := by omega
        have s1 : (ot ++ (⟨#[44]⟩ : ByteArray)).size + p.size ≤ 9223372036854775807 := by rw [ByteArray.size_append]; omega
        have s4 : ot.size + 1 + p.size ≤ 9223372036854775807 := by omega
        have s5 : ot.size + 1 + p.size + 1 ≤ 9223372036854775807 := by omega
        have s6 : ot.size + 1 + p.size + 1 + s.size ≤ 9223372036854775807 := by omega
        have s2 : (ot ++ (⟨#[44]⟩ : ByteArray) ++ p).size + 1 ≤ 9223372036854775807 := by rw [ByteArray.size_append, ByteArray.size_append]; omega
        have s3 : (ot ++ (⟨#[44]⟩ : ByteArray) ++ p ++ (⟨#[61]⟩ : ByteArray)).size + s.size ≤ 9223372036854775807 := by rw [ByteArray.size_append, ByteArray.size_append, ByteArray.size_append]; omega
        clear hst hol hpl hsl hz1 hz2 ho
        go_wp2_with fail
        go_roundw
        case rel => exact ⟨k + 1, by omega, by go_num, by rw [HST.out], HF2⟩
        case measure => simp [intOf]; omega
    · obtain rfl : k = 5 := by omega
      have hr := R1.out
      subst hr
      obtain ⟨ot, hot⟩ : ∃ o, vv.outS 5 = o := ⟨_, rfl⟩
      rw [hot]
      go_wp2_with fail
      go_ret2
      exact ⟨by first | rfl | (rw [hot]; rfl), by first | exact HF.out.2 | exact below_is hg HF.out.2⟩
end Go.Proofs.YtceepgleeelohaaDoor.P
