import Derived.Test.YtcpalnmodbbklaaDoorHref3
import Derived.Outline
/- The reference's reader: strings. -/
namespace Go.Proofs.YtcpalnmodbbklaaDoor.P
set_option linter.unusedVariables false
set_option linter.unusedSimpArgs false
open Go.RowKit Go.Proofs.YtcpalnmodbbklaaDoorW.PrintWords Go.Proofs.YtcpalnmodbbklaaDoorW.PrintLast Go.Proofs.YtcpalnmodbbklaaDoorW.PrintMore

/-- a string, behind its first quote: its text, or an error; and where the reader stands then -/
def quotedR (s : ByteArray) : Nat → Nat → Int → Int → ByteArray → (ByteArray × Int) × Nat × Int × Int
  | 0, p, ln, cl, _ => ((⟨#[]⟩, 4), p, ln, cl)
  | k + 1, p, ln, cl, acc =>
    if rcv s p < 0 ∨ rcv s p = 10 then ((⟨#[]⟩, 3), p, ln, cl)
    else if rbv s p = false ∨ rcv s p < 32 then ((⟨#[]⟩, 4), p, ln, cl)
    else if rcv s p = 34 then ((acc, 0), p + wdt s p, lnv s p ln, clv s p cl)
    else if rcv s p ≠ 92 then quotedR s k (p + wdt s p) (lnv s p ln) (clv s p cl) (acc ++ s.extract p (p + wdt s p))
    else if rcv s (p + wdt s p) < 0 ∨ rcv s (p + wdt s p) = 10 then ((⟨#[]⟩, 3), p + wdt s p, lnv s p ln, clv s p cl)
    else if escB (rcv s (p + wdt s p)) = false then ((⟨#[]⟩, 4), p + wdt s p, lnv s p ln, clv s p cl)
    else quotedR s k (p + wdt s p + wdt s (p + wdt s p)) (lnv s (p + wdt s p) (lnv s p ln)) (clv s (p + wdt s p) (clv s p cl)) (acc ++ rescT (rcv s (p + wdt s p)))
def QuPost (w0 W : World) (g : Nat) (s : ByteArray) (r : (ByteArray × Int) × Nat × Int × Int) (e : Ending) (W' : World) : Prop :=
  e = .returned (.tuple #[.string r.1.1, .int .i64 r.1.2]) ∧ RP w0 W' g s r.2.1 r.2.2.1 r.2.2.2 ∧ Oth g W W'
theorem rescT_size (c : Int) : (rescT c).size ≤ 1 := by
  unfold rescT
  split
  · exact Nat.le_refl _
  split
  · exact Nat.le_refl _
  split
  · exact Nat.le_refl _
  · exact Nat.zero_le _
set_option maxRecDepth 100000 in
set_option maxHeartbeats 6400000 in
theorem quoted_rcalls (w0 W : World) (g : Nat) (s : ByteArray) (p : Nat) (ln cl : Int) (K : Nat) (hK : s.size - p < K) (H : RP w0 W g s p ln cl) :
    Calls Tryd.prog 49 #[.pointer (some ⟨g, 0, none⟩)] W (QuPost w0 W g s (quotedR s K p ln cl ⟨#[]⟩)) := by
  have HK := Aside0.mk hK
  obtain ⟨RES, hRES⟩ : ∃ r, quotedR s K p ln cl ⟨#[]⟩ = r := ⟨_, rfl⟩
  rw [hRES]
  have HR := Aside0.mk hRES
  have HH := Aside0.mk H
  clear H hK hRES
  go_enter Tryd.func49, Tryd.ntmps49
  go_wp2_with fail
  go_loopg [4] K (fun gk t4 wx => ∃ p ln cl acc, t4 = .string acc ∧ acc.size ≤ p ∧ Aside0 (RP w0 wx g s p ln cl) ∧ Aside0 (Oth g W wx) ∧ Aside0 (s.size - p < gk) ∧ Aside0 (quotedR s gk p ln cl acc = RES))
  case atStart => exact ⟨p, ln, cl, _, rfl, Nat.zero_le _, HH, ⟨Oth.refl _ _⟩, HK, HR⟩
  case round =>
    clear HH HK HR p ln cl
    obtain ⟨p, ln, cl, acc, rfl, hac, HH, HO, HK, HR⟩ := hrel
    cases gk with
    | zero => exact absurd HK.out (by omega)
    | succ k =>
      have HEQ : Aside0 (quotedR s (k + 1) p ln cl acc = (if rcv s p < 0 ∨ rcv s p = 10 then ((⟨#[]⟩, 3), p, ln, cl)
    else if rbv s p = false ∨ rcv s p < 32 then ((⟨#[]⟩, 4), p, ln, cl)
    else if rcv s p = 34 then ((acc, 0), p + wdt s p, lnv s p ln, clv s p cl)
    else if rcv s p ≠ 92 then quotedR s k (p + wdt s p) (lnv s p ln) (clv s p cl) (acc ++ s.extract p (p + wdt s p))
    else if rcv s (p + wdt s p) < 0 ∨ rcv s (p + wdt s p) = 10 then ((⟨#[]⟩, 3), p + wdt s p, lnv s p ln, clv s p cl)
    else if escB (rcv s (p + wdt s p)) = false then ((⟨#[]⟩, 4), p + wdt s p, lnv s p ln, clv s p cl)
    else quotedR s k (p + wdt s p + wdt s (p + wdt s p)) (lnv s (p + wdt s p) (lnv s p ln)) (clv s (p + wdt s p) (clv s p cl)) (acc ++ rescT (rcv s (p + wdt s p))))) := ⟨rfl⟩
      go_wp2_with fail
      refine (rune_at HH.out).mono ?_
      rintro e W1 ⟨rfl, hb⟩
      have H1 := Aside0.mk (HH.out.below hb)
      have O1 := Aside0.mk (HO.out.below hb)
      clear hb HH HO
      by_cases h1 : rcv s p < 0 ∨ rcv s p = 10
      · have HX : Aside0 (((⟨#[]⟩, 3), p, ln, cl) = RES) := ⟨by rw [← HR.out, HEQ.out, if_pos h1]⟩
        clear HEQ
        obtain ⟨c, hc⟩ : ∃ c, rcv s p = c := ⟨_, rfl⟩
        rw [hc] at h1 ⊢
        clear hc
        by_cases hn : c < 0
        · have d1 : decide (c < 0) = true := decide_eq_true hn
          clear h1 hn
          go_wp2_with fail
          rw [← HX.out]
          go_ret2
          exact ⟨rfl, H1.out, O1.out⟩
        · obtain rfl : c = 10 := by omega
          clear h1 hn
          go_wp2_with fail
          rw [← HX.out]
          go_ret2
          exact ⟨rfl, H1.out, O1.out⟩
      · have HC := Aside0.mk h1
        have d1 : decide (rcv s p < 0) = false := decide_eq_false (by omega)
        have d2 : ((rcv s p : Int) == 10) = false := by rw [beq_eq_false_iff_ne]; omega
        have HP : Aside0 (p < s.size) := ⟨rcv_lt (by omega)⟩
        have hp1 := HP.out
        have HWD := Aside0.mk (decode_range0 s p HP.out)
        have hpw : p + 1 ≤ p + wdt s p ∧ p + wdt s p ≤ s.size := by have := HWD.out.2; unfold wdt; omega
        obtain ⟨hpw1, hpw2⟩ := hpw
        have hz := H1.out.z
        have HLT2 : Aside0 (s.size - (p + wdt s p) < k) := ⟨by have := HK.out; omega⟩
        by_cases h2 : rbv s p = false ∨ rcv s p < 32
        · have HX : Aside0 (((⟨#[]⟩, 4), p, ln, cl) = RES) := ⟨by rw [← HR.out, HEQ.out, if_neg h1, if_pos h2]⟩
          clear HEQ h1
          cases hbv : rbv s p with
          | false =>
            clear h2 hbv
            go_wp2_with fail
            rw [← HX.out]
            go_ret2
            exact ⟨rfl, H1.out, O1.out⟩
          | true =>
            have d3 : decide (rcv s p < 32) = true := decide_eq_true (by rw [hbv] at h2; simpa using h2)
            clear h2 hbv
            go_wp2_with fail
            rw [← HX.out]
            go_ret2
            exact ⟨rfl, H1.out, O1.out⟩
        · have hbv : rbv s p = true := by
            rcases Bool.eq_false_or_eq_true (rbv s p) with h | h
            · exact h
            · exact absurd (Or.inl h) h2
          have d3 : decide (rcv s p < 32) = false := decide_eq_false (by omega)
          rw [hbv]
          by_cases h3 : rcv s p = 34
          · have HX : Aside0 (((acc, 0), p + wdt s p, lnv s p ln, clv s p cl) = RES) := ⟨by rw [← HR.out, HEQ.out, if_neg h1, if_neg h2, if_pos h3]⟩
            rw [h3]
            clear HEQ h1 h2 h3 d1 d2 d3 hbv
            go_wp2_with fail
            refine (on_at H1.out HP.out).mono ?_
            rintro e W3 ⟨rfl, h3, o3⟩
            have H3 := Aside0.mk h3
            have O3 := Aside0.mk (O1.out.trans o3)
            clear h3 o3
            go_wp2_with fail
            rw [← HX.out]
            go_ret2
            exact ⟨rfl, H3.out, O3.out⟩
          · have d4 : ((rcv s p : Int) == 34) = false := by rw [beq_eq_false_iff_ne]; exact h3
            by_cases h4 : rcv s p ≠ 92
            · have HX : Aside0 (quotedR s k (p + wdt s p) (lnv s p ln) (clv s p cl) (acc ++ s.extract p (p + wdt s p)) = RES) := ⟨by rw [← HR.out, HEQ.out, if_neg h1, if_neg h2, if_neg h3, if_pos h4]⟩
              have d5 : ((rcv s p : Int) != 92) = true := by rw [bne_iff_ne]; exact h4
              have c1 : W1.cell? ⟨g, 1, none⟩ = some (.int .i64 (p : Int)) := (blk_cell H1.out.rb 1).trans rfl
              clear HEQ h1 h2 h3 h4 hbv
              go_wp2_with fail
              refine (on_at H1.out HP.out).mono ?_
              rintro e W3 ⟨rfl, h3, o3⟩
              have H3 := Aside0.mk h3
              have O3 := Aside0.mk (O1.out.trans o3)
              clear h3 o3 d1 d2 d3 d4 d5 c1
              obtain ⟨p2, hp2⟩ : ∃ q, p + wdt s p = q := ⟨_, rfl⟩
              rw [hp2] at H3 HX HLT2 hpw1 hpw2
              have r0 : W3.cell? ⟨g, 0, none⟩ = some (.string s) := (blk_cell H3.out.rb 0).trans rfl
              have r1 : W3.cell? ⟨g, 1, none⟩ = some (.int .i64 (p2 : Int)) := (blk_cell H3.out.rb 1).trans rfl
              have a0 : (0 : Int) ≤ (p : Int) := by omega
              have a1 : (p : Int) ≤ (p2 : Int) := by omega
              have a2 : (p2 : Int) ≤ (s.size : Int) := by omega
              have hes : (s.extract p p2).size = p2 - p := by rw [ByteArray.size_extract]; omega
              have hle : acc.size + (s.extract p p2).size ≤ p2 := by omega
              have hle2 : acc.size + (s.extract p p2).size ≤ 9223372036854775807 := by omega
              have hle3 : ¬ (9223372036854775807 < acc.size + (p2 - p)) := by omega
              have HLE := Aside0.mk hle
              clear hle hp2
              go_wp2_with fail
              refine start_ (n := 13) (S := fun w' => w'.cell? ⟨g, 0, none⟩ = some (.string s) ∧ w'.cell? ⟨g, 1, none⟩ = some (.int .i64 (p2 : Int))) (ds := []) #[false, false, false, false, false, false, false, false, false, false, false, false, false] (by kernel_rfl) rfl rfl ⟨r0, r1⟩ (fun hHeld => ?_)
              refine pure_ (i := 0) (N := some 40) (v := ?_) (a' := ?_) #[true, false, false, false, false, false, false, false, false, false, false, false, false] rfl rfl (by kernel_rfl) (fun _ _ _ h => h) (Or.inl ⟨by rfl, ?_⟩) ?_ ?_
              rotate_left
              · intro w'
                go_simp
                with_reducible rfl
              rotate_left
              · simp only [Act.put, List.setIfInBounds_toArray, List.set_cons_zero, List.set_cons_succ, i64_w, i32_w]
                rfl
              refine pure_ (i := 1) (N := some 41) (v := ?_) (a' := ?_) #[true, true, false, false, false, false, false, false, false, false, false, false, false] rfl rfl (by kernel_rfl) (fun _ _ _ h => h) (Or.inl ⟨by rfl, ?_⟩) ?_ ?_
              rotate_left
              · intro w'
                go_simp
                with_reducible rfl
              rotate_left
              · simp only [Act.put, List.setIfInBounds_toArray, List.set_cons_zero, List.set_cons_succ, i64_w, i32_w]
                rfl
              refine pure_ (i := 2) (N := some 42) (v := ?_) (a' := ?_) #[true, true, true, false, false, false, false, false, false, false, false, false, false] rfl rfl (by kernel_rfl) (fun _ _ _ h => h) (Or.inl ⟨by rfl, ?_⟩) ?_ ?_
              rotate_left
              · intro w'
                go_simp
                with_reducible rfl
              rotate_left
              · simp only [Act.put, List.setIfInBounds_toArray, List.set_cons_zero, List.set_cons_succ, i64_w, i32_w]
                rfl
              refine pure_ (i := 3) (N := some 43) (v := ?_) (a' := ?_) #[true, true, true, true, false, false, false, false, false, false, false, false, false] rfl rfl (by kernel_rfl) (fun _ _ _ h => h) (Or.inl ⟨by rfl, ?_⟩) ?_ ?_
              rotate_left
              · intro w'
                go_simp
                with_reducible rfl
              rotate_left
              · simp only [Act.put, List.setIfInBounds_toArray, List.set_cons_zero, List.set_cons_succ, i64_w, i32_w]
                rfl
              refine pure_ (i := 5) (N := some 45) (v := ?_) (a' := ?_) #[true, true, true, true, false, true, false, false, false, false, false, false, false] rfl rfl (by kernel_rfl) (fun _ _ _ h => h) (Or.inl ⟨by rfl, ?_⟩) ?_ ?_
              rotate_left
              · intro w'
                go_simp
                with_reducible rfl
              rotate_left
              · simp only [Act.put, List.setIfInBounds_toArray, List.set_cons_zero, List.set_cons_succ, i64_w, i32_w]
                rfl
              refine pure_ (i := 6) (N := some 46) (v := ?_) (a' := ?_) #[true, true, true, true, false, true, true, false, false, false, false, false, false] rfl rfl (by kernel_rfl) (fun _ _ _ h => h) (Or.inl ⟨by rfl, ?_⟩) ?_ ?_
              rotate_left
              · intro w'
                go_simp
                with_reducible rfl
              rotate_left
              · simp only [Act.put, List.setIfInBounds_toArray, List.set_cons_zero, List.set_cons_succ, i64_w, i32_w]
                rfl
              refine pure_ (i := 7) (N := some 47) (v := ?_) (a' := ?_) #[true, true, true, true, false, true, true, true, false, false, false, false, false] rfl rfl (by kernel_rfl) (fun _ _ _ h => h) (Or.inl ⟨by rfl, ?_⟩) ?_ ?_
              rotate_left
              · intro w'
                go_simp
                with_reducible rfl
              rotate_left
              · simp only [Act.put, List.setIfInBounds_toArray, List.set_cons_zero, List.set_cons_succ, i64_w, i32_w]
                rfl
              refine pure_ (i := 8) (N := some 48) (v := ?_) (a' := ?_) #[true, true, true, true, false, true, true, true, true, false, false, false, false] rfl rfl (by kernel_rfl) (fun _ _ _ h => h) (Or.inl ⟨by rfl, ?_⟩) ?_ ?_
              rotate_left
              · intro w'
                go_simp
                with_reducible rfl
              rotate_left
              · simp only [Act.put, List.setIfInBounds_toArray, List.set_cons_zero, List.set_cons_succ, i64_w, i32_w]
                rfl
              refine take_ (i := 4) (N := some 44) (v := ?_) (a' := ?_) #[true, true, true, true, true, true, true, true, true, false, false, false, false] rfl rfl (by kernel_rfl) (fun _ _ _ h => h) (Or.inl ⟨by rfl, ?_⟩) hHeld ?_ ?_
              rotate_left
              · rintro w' ⟨s0, s1⟩
                go_simp
                with_reducible rfl
              rotate_left
              · simp only [Act.put, List.setIfInBounds_toArray, List.set_cons_zero, List.set_cons_succ, i64_w, i32_w]
                rfl
              refine take_ (i := 9) (N := some 49) (v := ?_) (a' := ?_) #[true, true, true, true, true, true, true, true, true, true, false, false, false] rfl rfl (by kernel_rfl) (fun _ _ _ h => h) (Or.inl ⟨by rfl, ?_⟩) hHeld ?_ ?_
              rotate_left
              · rintro w' ⟨s0, s1⟩
                go_simp
                with_reducible rfl
              rotate_left
              · simp only [Act.put, List.setIfInBounds_toArray, List.set_cons_zero, List.set_cons_succ, i64_w, i32_w]
                rfl
              refine pure_ (i := 10) (N := some 50) (v := ?_) (a' := ?_) #[true, true, true, true, true, true, true, true, true, true, true, false, false] rfl rfl (by kernel_rfl) (fun _ _ _ h => h) (Or.inl ⟨by rfl, ?_⟩) ?_ ?_
              rotate_left
              · intro w'
                go_simp
                with_reducible rfl
              rotate_left
              · simp only [Act.put, List.setIfInBounds_toArray, List.set_cons_zero, List.set_cons_succ, i64_w, i32_w]
                rfl
              refine pure_ (i := 11) (N := some 51) (v := ?_) (a' := ?_) #[true, true, true, true, true, true, true, true, true, true, true, true, false] rfl rfl (by kernel_rfl) (fun _ _ _ h => h) (Or.inl ⟨by rfl, ?_⟩) ?_ ?_
              rotate_left
              · intro w'
                go_simp
                with_reducible rfl
              rotate_left
              · simp only [Act.put, List.setIfInBounds_toArray, List.set_cons_zero, List.set_cons_succ, i64_w, i32_w]
                rfl
              refine pure_ (i := 12) (N := some 4) (v := ?_) (a' := ?_) #[true, true, true, true, true, true, true, true, true, true, true, true, true] rfl rfl (by kernel_rfl) (fun _ _ _ h => h) (Or.inl ⟨by rfl, ?_⟩) ?_ ?_
              rotate_left
              · intro w'
                go_simp
                with_reducible rfl
              rotate_left
              · simp only [Act.put, List.setIfInBounds_toArray, List.set_cons_zero, List.set_cons_succ, i64_w, i32_w]
                rfl
              refine done_ (by kernel_rfl) ?_
              have H4 := Aside0.mk (H3.out.below (below_drew (Below.refl _ _)))
              have O4 := Aside0.mk (O3.out.below (below_drew (Below.refl _ _)))
              clear r0 r1 hHeld
              go_wp2_with fail
              go_roundg k
              case rel => exact ⟨_, _, _, _, rfl, by rw [ByteArray.size_append]; exact HLE.out, H4, O4, HLT2, HX⟩
              case measure => omega
            · have h92 : rcv s p = 92 := by omega
              rw [h92]
              have HEQ2 : Aside0 (RES = (if rcv s (p + wdt s p) < 0 ∨ rcv s (p + wdt s p) = 10 then ((⟨#[]⟩, 3), p + wdt s p, lnv s p ln, clv s p cl)
    else if escB (rcv s (p + wdt s p)) = false then ((⟨#[]⟩, 4), p + wdt s p, lnv s p ln, clv s p cl)
    else quotedR s k (p + wdt s p + wdt s (p + wdt s p)) (lnv s (p + wdt s p) (lnv s p ln)) (clv s (p + wdt s p) (clv s p cl)) (acc ++ rescT (rcv s (p + wdt s p))))) := ⟨by rw [← HR.out, HEQ.out, if_neg h1, if_neg h2, if_neg h3, if_neg h4]⟩
              clear HEQ h1 h2 h3 h4 hbv d1 d2 d3 d4 h92 HR
              go_wp2_with fail
              refine (on_at H1.out HP.out).mono ?_
              rintro e W3 ⟨rfl, h3, o3⟩
              have H3 := Aside0.mk h3
              have O3 := Aside0.mk (O1.out.trans o3)
              clear h3 o3
              obtain ⟨p2, hp2⟩ : ∃ q, p + wdt s p = q := ⟨_, rfl⟩
              obtain ⟨ln2, hln2⟩ : ∃ q, lnv s p ln = q := ⟨_, rfl⟩
              obtain ⟨cl2, hcl2⟩ : ∃ q, clv s p cl = q := ⟨_, rfl⟩
              rw [hp2, hln2, hcl2] at H3 HEQ2
              rw [hp2] at HLT2 hpw1 hpw2
              clear hp2 hln2 hcl2
              go_wp2_with fail
              refine (rune_at H3.out).mono ?_
              rintro e W4 ⟨rfl, hb⟩
              have H4 := Aside0.mk (H3.out.below hb)
              have O4 := Aside0.mk (O3.out.below hb)
              clear hb H3 O3
              by_cases h5 : rcv s p2 < 0 ∨ rcv s p2 = 10
              · have HX : Aside0 (((⟨#[]⟩, 3), p2, ln2, cl2) = RES) := ⟨by rw [HEQ2.out, if_pos h5]⟩
                clear HEQ2
                obtain ⟨c, hc⟩ : ∃ c, rcv s p2 = c := ⟨_, rfl⟩
                rw [hc] at h5 ⊢
                clear hc
                by_cases hn : c < 0
                · have d1 : decide (c < 0) = true := decide_eq_true hn
                  clear h5 hn
                  go_wp2_with fail
                  rw [← HX.out]
                  go_ret2
                  exact ⟨rfl, H4.out, O4.out⟩
                · obtain rfl : c = 10 := by omega
                  clear h5 hn
                  go_wp2_with fail
                  rw [← HX.out]
                  go_ret2
                  exact ⟨rfl, H4.out, O4.out⟩
              · have d1 : decide (rcv s p2 < 0) = false := decide_eq_false (by omega)
                have d2 : ((rcv s p2 : Int) == 10) = false := by rw [beq_eq_false_iff_ne]; omega
                have HP2 : Aside0 (p2 < s.size) := ⟨rcv_lt (by omega)⟩
                have HF := Aside0.mk (rescape_f (rcv s p2))
                cases he : escB (rcv s p2) with
                | false =>
                  have HX : Aside0 (((⟨#[]⟩, 4), p2, ln2, cl2) = RES) := ⟨by rw [HEQ2.out, if_neg h5, if_pos he]⟩
                  rw [he] at HF
                  clear HEQ2 h5 he
                  go_wp2_with fail
                  refine (drayageref04_escape.calls _ _ _ _ HF.out).mono ?_
                  rintro e W5 ⟨rfl, hd⟩
                  have H5 := Aside0.mk (H4.out.below hd.below)
                  have O5 := Aside0.mk (O4.out.below hd.below)
                  clear hd
                  go_wp2_with fail
                  rw [← HX.out]
                  go_ret2
                  exact ⟨rfl, H5.out, O5.out⟩
                | true =>
                  have HX : Aside0 (quotedR s k (p2 + wdt s p2) (lnv s p2 ln2) (clv s p2 cl2) (acc ++ rescT (rcv s p2)) = RES) := ⟨by rw [HEQ2.out, if_neg h5, he, if_neg (by simp)]⟩
                  rw [he] at HF
                  have HW2 := Aside0.mk (decode_range0 s p2 HP2.out)
                  have hes := rescT_size (rcv s p2)
                  obtain ⟨T, hT⟩ : ∃ T, rescT (rcv s p2) = T := ⟨_, rfl⟩
                  rw [hT] at HX HF hes
                  have hle2 : acc.size + T.size ≤ 9223372036854775807 := by omega
                  clear HEQ2 h5 he hT
                  go_wp2_with fail
                  refine (drayageref04_escape.calls _ _ _ _ HF.out).mono ?_
                  rintro e W5 ⟨rfl, hd⟩
                  have H5 := Aside0.mk (H4.out.below hd.below)
                  have O5 := Aside0.mk (O4.out.below hd.below)
                  clear hd
                  go_wp2_with fail
                  refine (on_at H5.out HP2.out).mono ?_
                  rintro e W6 ⟨rfl, h6, o6⟩
                  have H6 := Aside0.mk h6
                  have O6 := Aside0.mk (O5.out.trans o6)
                  clear h6 o6
                  go_wp2_with fail
                  go_roundg k
                  case rel => exact ⟨_, _, _, _, rfl, by rw [ByteArray.size_append]; have := HW2.out.2; unfold wdt; omega, H6, O6, ⟨by have := HLT2.out; have := HW2.out.2; unfold wdt; omega⟩, HX⟩
                  case measure => omega
end Go.Proofs.YtcpalnmodbbklaaDoor.P
