import Derived.Test.YtcpalnmodbbklaaDoorHscan9a
/- The contract of scan.Words: a text's words, or where it is wrong. -/
namespace Go.Proofs.YtcpalnmodbbklaaDoor.P
set_option linter.unusedVariables false
set_option linter.unusedSimpArgs false
open Go.RowKit Go.Proofs.YtcpalnmodbbklaaDoorW.PrintWords Go.Proofs.YtcpalnmodbbklaaDoorW.PrintLast Go.Proofs.YtcpalnmodbbklaaDoorW.PrintMore

theorem SB.iter {w0 W : World} {g it : Nat} {s : ByteArray} {pos : Nat} {cs : Array Value} {vw vt : Value} {wd : List SW} {tx : List Int} (h : SB w0 W g it (.stringIter s pos) cs vw vt wd tx) (q : Nat) :
    SB w0 (W.iterAt it s q) g it (.stringIter s q) cs vw vt wd tx :=
  ⟨(Lib.iterAt_other W it g s q h.ne).trans h.rb, Lib.iterAt_heap W it s pos q h.ib, Lib.below_iterAt h.bl h.hi s q, Kd.R_step h.hw (fun k hk _ => Lib.iterAt_other W it k s q hk.2.1), Kd.R_step h.ht (fun k hk _ => Lib.iterAt_other W it k s q hk.2.1), h.hg, h.hi, h.ne⟩
def Fin (w : World) (r : List SW × Int × Int × Int) (e : Ending) (w' : World) : Prop :=
  ∃ v0 : Value, e = .returned (.tuple #[v0, .int .i64 r.2.1, .int .i64 r.2.2.1, .int .i64 r.2.2.2]) ∧ Kd.R kW 36 w' w.heap.size (fun _ => True) v0 r.1 ∧ Below w.heap.size w w'
theorem wordsGo_end {s : ByteArray} {k pos : Nat} {σ : Sc} (h : ¬ pos < s.size) : wordsGo s (k + 1) pos σ = if (stepS σ 10).2 = 0 then ((stepS σ 10).1.wd, 0, 0, 0) else ([], σ.ln, σ.cl, (stepS σ 10).2) := by
  conv => lhs; unfold wordsGo
  rw [if_neg h]
theorem wordsGo_odd {s : ByteArray} {k pos : Nat} {σ : Sc} (h : pos < s.size) (ho : oddB s pos = true) : wordsGo s (k + 1) pos σ = ([], σ.ln, σ.cl, 4) := by
  conv => lhs; unfold wordsGo
  rw [if_pos h, if_pos ho]
theorem wordsGo_bad {s : ByteArray} {k pos : Nat} {σ : Sc} (h : pos < s.size) (ho : oddB s pos = false) (he : (stepS σ (Utf8.decode s pos).1).2 ≠ 0) : wordsGo s (k + 1) pos σ = ([], σ.ln, σ.cl, (stepS σ (Utf8.decode s pos).1).2) := by
  conv => lhs; unfold wordsGo
  rw [if_pos h, ho, if_neg (by simp), if_neg he]
theorem wordsGo_on {s : ByteArray} {k pos : Nat} {σ : Sc} (h : pos < s.size) (ho : oddB s pos = false) (he : (stepS σ (Utf8.decode s pos).1).2 = 0) : wordsGo s (k + 1) pos σ = wordsGo s k (pos + (Utf8.decode s pos).2) (moveS (stepS σ (Utf8.decode s pos).1).1 (Utf8.decode s pos).1) := by
  conv => lhs; unfold wordsGo
  rw [if_pos h, ho, if_neg (by simp), if_pos he]

theorem decode_in (s : ByteArray) (pos : Nat) (h : pos < s.size) : pos + (Utf8.decode s pos).2 ≤ s.size := by
  rw [decode_dN]
  unfold dN
  split
  · show pos + 1 ≤ _; omega
  split
  · rename_i hc
    simp only [Bool.and_eq_true, decide_eq_true_eq] at hc
    have := hc.2.1
    split
    · show pos + 2 ≤ _; omega
    · show pos + 1 ≤ _; omega
  split
  · rename_i hc
    simp only [Bool.and_eq_true, decide_eq_true_eq] at hc
    have := hc.2.1
    split
    · show pos + 3 ≤ _; omega
    · show pos + 1 ≤ _; omega
  split
  · rename_i hc
    simp only [Bool.and_eq_true, decide_eq_true_eq] at hc
    have := hc.2.1
    split
    · show pos + 4 ≤ _; omega
    · show pos + 1 ≤ _; omega
  · show pos + 1 ≤ _; omega
set_option maxRecDepth 100000 in
set_option maxHeartbeats 6400000 in
theorem words_calls (s : ByteArray) (w : World) (hs : s.size ≤ 65536) :
    Calls Tryd.prog 8 #[.string s] w (Fin w (wordsGo s (s.size + 1) 0 sc0)) := by
  have hz : ¬ (65536 < (s.size : Int)) := by omega
  have hb0 : Below w.heap.size w (w.alloc (.cells #[fnV .btw, .slice none 0 0, .nilFunc, .slice none 0 0, .int .i64 1, .int .i64 1] 45)) := (Below.refl _ _).alloc (Nat.le_refl _) _
  have HS0 : Aside0 (SCs w ((w.alloc (.cells #[fnV .btw, .slice none 0 0, .nilFunc, .slice none 0 0, .int .i64 1, .int .i64 1] 45)).iter s 0) w.heap.size (w.heap.size + 1) (.stringIter s 0) sc0) := ⟨.slice none 0 0, .slice none 0 0, by
    refine ⟨?_, ?_, ?_, Kd.R_nil _ _ _ _ _, Kd.R_nil _ _ _ _ _, Nat.le_refl _, Nat.le_succ _, by omega⟩
    · exact ((below_alloc (Below.refl _ _) _).block w.heap.size (by simp)).trans (heap_alloc_new w _)
    · have := World.iter_heap (w.alloc (.cells #[fnV .btw, .slice none 0 0, .nilFunc, .slice none 0 0, .int .i64 1, .int .i64 1] 45)) s 0
      simpa using this
    · exact below_alloc hb0 _⟩
  clear hb0
  go_enter Tryd.func8, Tryd.ntmps8
  go_wp2_with fail
  rw [show (Value.func (.func 20) #[] #[]) = fnV .btw from rfl]
  generalize (w.alloc (.cells #[fnV .btw, .slice none 0 0, .nilFunc, .slice none 0 0, .int .i64 1, .int .i64 1] 45)).iter s 0 = W0 at *
  obtain ⟨g, hg⟩ : ∃ g, w.heap.size = g := ⟨_, rfl⟩
  rw [hg] at HS0 ⊢
  obtain ⟨it, hit⟩ : ∃ it, g + 1 = it := ⟨_, rfl⟩
  rw [hit] at HS0 ⊢
  have HG := Aside0.mk hg
  clear hg hit
  go_loopw [7] (fun _ wr => ∃ pos n σ, n ≤ pos ∧ pos ≤ s.size ∧ Aside0 (SCs w wr g it (.stringIter s pos) σ) ∧ Aside0 (Inv σ n) ∧ Aside0 (wordsGo s (s.size + 1) 0 sc0 = wordsGo s (s.size - n + 1) pos σ)) (fun _ wr => s.size - wr.iterPos it)
  case atStart => exact ⟨0, 0, sc0, Nat.le_refl _, Nat.zero_le _, HS0, ⟨inv0⟩, ⟨rfl⟩⟩
  case round =>
    obtain ⟨pos, n, ⟨md, wd, gk, tx, ln, cl⟩, hnp, hps, HS, HI, HE⟩ := hrel
    obtain ⟨vw, vt, HB⟩ := HS.out
    have hib := HB.ib
    have hib2 := HB.ib
    have HB := Aside0.mk HB
    clear HS HS0
    by_cases hlt : pos < s.size
    · have hnx := Lib.run_next_any_at (P := Tryd.prog) wr it s pos 0 hib hlt
      have HD := Aside0.mk (decode_range s pos)
      have HO := odd_f s pos hlt
      have H1 := Aside0.mk (HB.out.iter (pos + (Utf8.decode s pos).2))
      have hc0 : (0 : Int) ≤ (((Utf8.decode s pos).1 : Nat) : Int) := by omega
      have hc1 : (((Utf8.decode s pos).1 : Nat) : Int) ≤ 1114111 := by have := HD.out.1; omega
      have HEo := Aside0.mk (fun h => HE.out.trans (wordsGo_odd (s := s) (k := s.size - n) (pos := pos) (σ := ⟨md, wd, gk, tx, ln, cl⟩) hlt h))
      have HEb := Aside0.mk (fun h he => HE.out.trans (wordsGo_bad (s := s) (k := s.size - n) (pos := pos) (σ := ⟨md, wd, gk, tx, ln, cl⟩) hlt h he))
      have HEn := Aside0.mk (fun h he => HE.out.trans (wordsGo_on (s := s) (k := s.size - n) (pos := pos) (σ := ⟨md, wd, gk, tx, ln, cl⟩) hlt h he))
      have HK := Aside0.mk (stepS_ok ⟨md, wd, gk, tx, ln, cl⟩ (((Utf8.decode s pos).1 : Nat) : Int) n HI.out)
      obtain ⟨c, hc⟩ : ∃ c : Int, (((Utf8.decode s pos).1 : Nat) : Int) = c := ⟨_, rfl⟩
      obtain ⟨q, hq⟩ : ∃ q : Nat, (Utf8.decode s pos).2 = q := ⟨_, rfl⟩
      have hq1 : 1 ≤ q ∧ q ≤ 4 := by rw [← hq]; exact HD.out.2
      rw [hc] at hnx HO hc0 hc1 HEb HEn HK
      rw [hq] at hnx H1 HEn
      have HQ := Aside0.mk hq
      clear hc hq HD hib HB HE
      have HOD := Aside0.mk HO
      clear HO
      go_wp2_with fail
      refine (scan_odd.calls s (pos : Int) c _ _ HOD.out).mono ?_
      rintro e W2 ⟨rfl, hd⟩
      have H2 := Aside0.mk (H1.out.below hd.below)
      clear H1 hd hnx
      cases ho : oddB s pos with
      | true =>
        have HX := Aside0.mk (HEo.out ho)
        have c4_ : W2.cell? ⟨g, 4, none⟩ = some (.int .i64 ln) := (blk_cell H2.out.rb 4).trans rfl
        have c5_ : W2.cell? ⟨g, 5, none⟩ = some (.int .i64 cl) := (blk_cell H2.out.rb 5).trans rfl
        clear HEo HEb HEn HK ho
        go_wp2_with fail
        refine start_ (n := 13) (S := fun w' => w'.cell? ⟨g, 4, none⟩ = some (.int .i64 ln) ∧ w'.cell? ⟨g, 5, none⟩ = some (.int .i64 cl)) (ds := []) #[false, false, false, false, false, false, false, false, false, false, false, false, false] (by kernel_rfl) rfl rfl ⟨c4_, c5_⟩ (fun hHeld => ?_)
        refine pure_ (i := 0) (N := some 36) (v := ?_) (a' := ?_) #[true, false, false, false, false, false, false, false, false, false, false, false, false] rfl rfl (by kernel_rfl) (fun _ _ _ h => h) (Or.inl ⟨by rfl, ?_⟩) ?_ ?_
        rotate_left
        · intro w'
          go_simp
          with_reducible rfl
        rotate_left
        · simp only [Act.put, List.setIfInBounds_toArray, List.set_cons_zero, List.set_cons_succ, i64_w, i32_w]
          rfl
        refine pure_ (i := 1) (N := some 37) (v := ?_) (a' := ?_) #[true, true, false, false, false, false, false, false, false, false, false, false, false] rfl rfl (by kernel_rfl) (fun _ _ _ h => h) (Or.inl ⟨by rfl, ?_⟩) ?_ ?_
        rotate_left
        · intro w'
          go_simp
          with_reducible rfl
        rotate_left
        · simp only [Act.put, List.setIfInBounds_toArray, List.set_cons_zero, List.set_cons_succ, i64_w, i32_w]
          rfl
        refine pure_ (i := 2) (N := some 38) (v := ?_) (a' := ?_) #[true, true, true, false, false, false, false, false, false, false, false, false, false] rfl rfl (by kernel_rfl) (fun _ _ _ h => h) (Or.inl ⟨by rfl, ?_⟩) ?_ ?_
        rotate_left
        · intro w'
          go_simp
          with_reducible rfl
        rotate_left
        · simp only [Act.put, List.setIfInBounds_toArray, List.set_cons_zero, List.set_cons_succ, i64_w, i32_w]
          rfl
        refine pure_ (i := 4) (N := some 40) (v := ?_) (a' := ?_) #[true, true, true, false, true, false, false, false, false, false, false, false, false] rfl rfl (by kernel_rfl) (fun _ _ _ h => h) (Or.inl ⟨by rfl, ?_⟩) ?_ ?_
        rotate_left
        · intro w'
          go_simp
          with_reducible rfl
        rotate_left
        · simp only [Act.put, List.setIfInBounds_toArray, List.set_cons_zero, List.set_cons_succ, i64_w, i32_w]
          rfl
        refine pure_ (i := 5) (N := some 41) (v := ?_) (a' := ?_) #[true, true, true, false, true, true, false, false, false, false, false, false, false] rfl rfl (by kernel_rfl) (fun _ _ _ h => h) (Or.inl ⟨by rfl, ?_⟩) ?_ ?_
        rotate_left
        · intro w'
          go_simp
          with_reducible rfl
        rotate_left
        · simp only [Act.put, List.setIfInBounds_toArray, List.set_cons_zero, List.set_cons_succ, i64_w, i32_w]
          rfl
        refine pure_ (i := 6) (N := some 42) (v := ?_) (a' := ?_) #[true, true, true, false, true, true, true, false, false, false, false, false, false] rfl rfl (by kernel_rfl) (fun _ _ _ h => h) (Or.inl ⟨by rfl, ?_⟩) ?_ ?_
        rotate_left
        · intro w'
          go_simp
          with_reducible rfl
        rotate_left
        · simp only [Act.put, List.setIfInBounds_toArray, List.set_cons_zero, List.set_cons_succ, i64_w, i32_w]
          rfl
        refine pure_ (i := 8) (N := some 44) (v := ?_) (a' := ?_) #[true, true, true, false, true, true, true, false, true, false, false, false, false] rfl rfl (by kernel_rfl) (fun _ _ _ h => h) (Or.inl ⟨by rfl, ?_⟩) ?_ ?_
        rotate_left
        · intro w'
          go_simp
          with_reducible rfl
        rotate_left
        · simp only [Act.put, List.setIfInBounds_toArray, List.set_cons_zero, List.set_cons_succ, i64_w, i32_w]
          rfl
        refine pure_ (i := 9) (N := some 2) (v := ?_) (a' := ?_) #[true, true, true, false, true, true, true, false, true, true, false, false, false] rfl rfl (by kernel_rfl) (fun _ _ _ h => h) (Or.inl ⟨by rfl, ?_⟩) ?_ ?_
        rotate_left
        · intro w'
          go_simp
          with_reducible rfl
        rotate_left
        · simp only [Act.put, List.setIfInBounds_toArray, List.set_cons_zero, List.set_cons_succ, i64_w, i32_w]
          rfl
        refine take_ (i := 3) (N := some 39) (v := ?_) (a' := ?_) #[true, true, true, true, true, true, true, false, true, true, false, false, false] rfl rfl (by kernel_rfl) (fun _ _ _ h => h) (Or.inl ⟨by rfl, ?_⟩) hHeld ?_ ?_
        rotate_left
        · rintro w' ⟨s0, s1⟩
          go_simp
          with_reducible rfl
        rotate_left
        · simp only [Act.put, List.setIfInBounds_toArray, List.set_cons_zero, List.set_cons_succ, i64_w, i32_w]
          rfl
        refine pure_ (i := 10) (N := some 3) (v := ?_) (a' := ?_) #[true, true, true, true, true, true, true, false, true, true, true, false, false] rfl rfl (by kernel_rfl) (fun _ _ _ h => h) (Or.inl ⟨by rfl, ?_⟩) ?_ ?_
        rotate_left
        · intro w'
          go_simp
          with_reducible rfl
        rotate_left
        · simp only [Act.put, List.setIfInBounds_toArray, List.set_cons_zero, List.set_cons_succ, i64_w, i32_w]
          rfl
        refine take_ (i := 7) (N := some 43) (v := ?_) (a' := ?_) #[true, true, true, true, true, true, true, true, true, true, true, false, false] rfl rfl (by kernel_rfl) (fun _ _ _ h => h) (Or.inl ⟨by rfl, ?_⟩) hHeld ?_ ?_
        rotate_left
        · rintro w' ⟨s0, s1⟩
          go_simp
          with_reducible rfl
        rotate_left
        · simp only [Act.put, List.setIfInBounds_toArray, List.set_cons_zero, List.set_cons_succ, i64_w, i32_w]
          rfl
        refine pure_ (i := 11) (N := some 4) (v := ?_) (a' := ?_) #[true, true, true, true, true, true, true, true, true, true, true, true, false] rfl rfl (by kernel_rfl) (fun _ _ _ h => h) (Or.inl ⟨by rfl, ?_⟩) ?_ ?_
        rotate_left
        · intro w'
          go_simp
          with_reducible rfl
        rotate_left
        · simp only [Act.put, List.setIfInBounds_toArray, List.set_cons_zero, List.set_cons_succ, i64_w, i32_w]
          rfl
        refine pure_ (i := 12) (N := some 5) (v := ?_) (a' := ?_) #[true, true, true, true, true, true, true, true, true, true, true, true, true] rfl rfl (by kernel_rfl) (fun _ _ _ h => h) (Or.inl ⟨by rfl, ?_⟩) ?_ ?_
        rotate_left
        · intro w'
          go_simp
          with_reducible rfl
        rotate_left
        · simp only [Act.put, List.setIfInBounds_toArray, List.set_cons_zero, List.set_cons_succ, i64_w, i32_w]
          rfl
        refine done_ (by kernel_rfl) ?_
        go_wp2_with fail
        rw [HX.out]
        refine bodyPost_ret (v := .tuple #[.slice none 0 0, .int .i64 ln, .int .i64 cl, .int .i64 4]) (by simp [results, Tryd.results8, go_sem]) rfl ⟨_, rfl, Kd.R_nil _ _ _ _ _, ?_⟩
        exact below_drew H2.out.bl
      | false =>
        have HN : Aside0 (Calls Tryd.prog (fnOf md) #[.pointer (some ⟨g, 0, none⟩), .int .i32 c] W2 (Post w g it (.stringIter s (pos + q)) (stepS ⟨md, wd, gk, tx, ln, cl⟩ c))) := ⟨next_calls w W2 g it _ ⟨md, wd, gk, tx, ln, cl⟩ c n hc0 hc1 ⟨vw, vt, H2.out⟩ HI.out (by omega)⟩
        have d0 : W2.cell? ⟨g, 0, none⟩ = some (fnV md) := (blk_cell H2.out.rb 0).trans rfl
        have HEc := Aside0.mk (HEb.out ho)
        have HEm := Aside0.mk (HEn.out ho)
        have HLC : Aside0 ((stepS ⟨md, wd, gk, tx, ln, cl⟩ c).1.ln = ln ∧ (stepS ⟨md, wd, gk, tx, ln, cl⟩ c).1.cl = cl) := ⟨HK.out.ln, HK.out.cl⟩
        have HV := Aside0.mk (fun (τ : Sc) (k : Stepped ⟨md, wd, gk, tx, ln, cl⟩ τ n) => moveS_ok (c := c) HI.out k)
        have hl1 := HI.out.l
        have hl2 := HI.out.c
        dsimp only at hl1 hl2
        obtain ⟨hl1, hl3⟩ := hl1
        obtain ⟨hl2, hl4⟩ := hl2
        have HL := Aside0.mk (decode_in s pos hlt)
        rw [HQ.out] at HL
        have hnx2 : n < s.size := by omega
        have HIB := Aside0.mk hib2
        clear HEo HEb HEn ho H2 HOD hib2
        generalize stepS ⟨md, wd, gk, tx, ln, cl⟩ c = r at *
        obtain ⟨⟨md', wd', gk', tx', ln', cl'⟩, er⟩ := r
        have HR : Aside0 (ln' = ln ∧ cl' = cl) := ⟨HLC.out⟩
        clear HLC HI
        by_cases he : er = 0
        · subst he
          have HEz := Aside0.mk (HEm.out rfl)
          have HI2 := Aside0.mk (HV.out _ HK.out)
          have hb1 : 1 ≤ cl' ∧ cl' ≤ 70000 := by have := HR.out.2; omega
          have hb2 : 1 ≤ ln' ∧ ln' ≤ 70000 := by have := HR.out.1; omega
          obtain ⟨hb1, hb3⟩ := hb1
          obtain ⟨hb2, hb4⟩ := hb2
          clear HEc HEm HV HK HR hl1 hl2 hl3 hl4
          by_cases h10 : c = 10
          · have q10 : ((c : Int) == 10) = true := by rw [h10]; rfl
            unfold moveS at HEz HI2
            rw [if_pos h10] at HEz HI2
            clear h10
            cases md
            all_goals
              simp only [fnV, fnOf] at d0
              go_wp2_with fail
              refine HN.out.mono ?_
              rintro e W3 ⟨rfl, H3⟩
              obtain ⟨vw3, vt3, H3⟩ := H3
              have H3 := Aside0.mk H3
              have c4_ : W3.cell? ⟨g, 4, none⟩ = some (.int .i64 ln') := (blk_cell H3.out.rb 4).trans rfl
              have c5_ : W3.cell? ⟨g, 5, none⟩ = some (.int .i64 cl') := (blk_cell H3.out.rb 5).trans rfl
              have e4_ := blk_frozen H3.out.rb 4
              have e5_ := blk_frozen H3.out.rb 5
              have HF := Aside0.mk (((H3.out.set 5 (.int .i64 (cl' + 1))).set 4 (.int .i64 (ln' + 1))).set 5 (.int .i64 1))
              clear H3
              go_wp2_with fail
              go_roundw
              case rel => exact ⟨pos + q, n + 1, ⟨md', wd', gk', tx', ln' + 1, 1⟩, by omega, HL.out, ⟨vw3, vt3, by simpa using HF.out⟩, HI2, ⟨by rw [HEz.out, show s.size - (n + 1) + 1 = s.size - n by omega]⟩⟩
              case measure =>
                have hf2 := HF.out.ib
                have := HIB.out
                unfold World.iterPos
                rw [hf2, this]
                dsimp only
                omega
          · have q10 : ((c : Int) == 10) = false := beq_eq_false_iff_ne.mpr h10
            unfold moveS at HEz HI2
            rw [if_neg h10] at HEz HI2
            clear h10
            cases md
            all_goals
              simp only [fnV, fnOf] at d0
              go_wp2_with fail
              refine HN.out.mono ?_
              rintro e W3 ⟨rfl, H3⟩
              obtain ⟨vw3, vt3, H3⟩ := H3
              have H3 := Aside0.mk H3
              have c5_ : W3.cell? ⟨g, 5, none⟩ = some (.int .i64 cl') := (blk_cell H3.out.rb 5).trans rfl
              have e5_ := blk_frozen H3.out.rb 5
              have HF := Aside0.mk (H3.out.set 5 (.int .i64 (cl' + 1)))
              clear H3
              go_wp2_with fail
              go_roundw
              case rel => exact ⟨pos + q, n + 1, ⟨md', wd', gk', tx', ln', cl' + 1⟩, by omega, HL.out, ⟨vw3, vt3, by simpa using HF.out⟩, HI2, ⟨by rw [HEz.out, show s.size - (n + 1) + 1 = s.size - n by omega]⟩⟩
              case measure =>
                have hf2 := HF.out.ib
                have := HIB.out
                unfold World.iterPos
                rw [hf2, this]
                dsimp only
                omega
        · have HEd := Aside0.mk (HEc.out he)
          have hne : ((er : Int) != 0) = true := by rw [bne_iff_ne]; exact he
          clear HEm HEc he HV HK
          cases md
          all_goals
            simp only [fnV, fnOf] at d0
            go_wp2_with fail
            refine HN.out.mono ?_
            rintro e W3 ⟨rfl, H3⟩
            obtain ⟨vw3, vt3, H3⟩ := H3
            have H3 := Aside0.mk H3
            have c4_ : W3.cell? ⟨g, 4, none⟩ = some (.int .i64 ln) := (blk_cell H3.out.rb 4).trans (by rw [← HR.out.1]; rfl)
            have c5_ : W3.cell? ⟨g, 5, none⟩ = some (.int .i64 cl) := (blk_cell H3.out.rb 5).trans (by rw [← HR.out.2]; rfl)
            go_wp2_with fail
            refine start_ (n := 13) (S := fun w' => w'.cell? ⟨g, 4, none⟩ = some (.int .i64 ln) ∧ w'.cell? ⟨g, 5, none⟩ = some (.int .i64 cl)) (ds := []) #[false, false, false, false, false, false, false, false, false, false, false, false, false] (by kernel_rfl) rfl rfl ⟨c4_, c5_⟩ (fun hHeld => ?_)
            refine pure_ (i := 0) (N := some 36) (v := ?_) (a' := ?_) #[true, false, false, false, false, false, false, false, false, false, false, false, false] rfl rfl (by kernel_rfl) (fun _ _ _ h => h) (Or.inl ⟨by rfl, ?_⟩) ?_ ?_
            rotate_left
            · intro w'
              go_simp
              with_reducible rfl
            rotate_left
            · simp only [Act.put, List.setIfInBounds_toArray, List.set_cons_zero, List.set_cons_succ, i64_w, i32_w]
              rfl
            refine pure_ (i := 1) (N := some 37) (v := ?_) (a' := ?_) #[true, true, false, false, false, false, false, false, false, false, false, false, false] rfl rfl (by kernel_rfl) (fun _ _ _ h => h) (Or.inl ⟨by rfl, ?_⟩) ?_ ?_
            rotate_left
            · intro w'
              go_simp
              with_reducible rfl
            rotate_left
            · simp only [Act.put, List.setIfInBounds_toArray, List.set_cons_zero, List.set_cons_succ, i64_w, i32_w]
              rfl
            refine pure_ (i := 2) (N := some 38) (v := ?_) (a' := ?_) #[true, true, true, false, false, false, false, false, false, false, false, false, false] rfl rfl (by kernel_rfl) (fun _ _ _ h => h) (Or.inl ⟨by rfl, ?_⟩) ?_ ?_
            rotate_left
            · intro w'
              go_simp
              with_reducible rfl
            rotate_left
            · simp only [Act.put, List.setIfInBounds_toArray, List.set_cons_zero, List.set_cons_succ, i64_w, i32_w]
              rfl
            refine pure_ (i := 4) (N := some 40) (v := ?_) (a' := ?_) #[true, true, true, false, true, false, false, false, false, false, false, false, false] rfl rfl (by kernel_rfl) (fun _ _ _ h => h) (Or.inl ⟨by rfl, ?_⟩) ?_ ?_
            rotate_left
            · intro w'
              go_simp
              with_reducible rfl
            rotate_left
            · simp only [Act.put, List.setIfInBounds_toArray, List.set_cons_zero, List.set_cons_succ, i64_w, i32_w]
              rfl
            refine pure_ (i := 5) (N := some 41) (v := ?_) (a' := ?_) #[true, true, true, false, true, true, false, false, false, false, false, false, false] rfl rfl (by kernel_rfl) (fun _ _ _ h => h) (Or.inl ⟨by rfl, ?_⟩) ?_ ?_
            rotate_left
            · intro w'
              go_simp
              with_reducible rfl
            rotate_left
            · simp only [Act.put, List.setIfInBounds_toArray, List.set_cons_zero, List.set_cons_succ, i64_w, i32_w]
              rfl
            refine pure_ (i := 6) (N := some 42) (v := ?_) (a' := ?_) #[true, true, true, false, true, true, true, false, false, false, false, false, false] rfl rfl (by kernel_rfl) (fun _ _ _ h => h) (Or.inl ⟨by rfl, ?_⟩) ?_ ?_
            rotate_left
            · intro w'
              go_simp
              with_reducible rfl
            rotate_left
            · simp only [Act.put, List.setIfInBounds_toArray, List.set_cons_zero, List.set_cons_succ, i64_w, i32_w]
              rfl
            refine pure_ (i := 8) (N := some 44) (v := ?_) (a' := ?_) #[true, true, true, false, true, true, true, false, true, false, false, false, false] rfl rfl (by kernel_rfl) (fun _ _ _ h => h) (Or.inl ⟨by rfl, ?_⟩) ?_ ?_
            rotate_left
            · intro w'
              go_simp
              with_reducible rfl
            rotate_left
            · simp only [Act.put, List.setIfInBounds_toArray, List.set_cons_zero, List.set_cons_succ, i64_w, i32_w]
              rfl
            refine pure_ (i := 9) (N := some 2) (v := ?_) (a' := ?_) #[true, true, true, false, true, true, true, false, true, true, false, false, false] rfl rfl (by kernel_rfl) (fun _ _ _ h => h) (Or.inl ⟨by rfl, ?_⟩) ?_ ?_
            rotate_left
            · intro w'
              go_simp
              with_reducible rfl
            rotate_left
            · simp only [Act.put, List.setIfInBounds_toArray, List.set_cons_zero, List.set_cons_succ, i64_w, i32_w]
              rfl
            refine take_ (i := 3) (N := some 39) (v := ?_) (a' := ?_) #[true, true, true, true, true, true, true, false, true, true, false, false, false] rfl rfl (by kernel_rfl) (fun _ _ _ h => h) (Or.inl ⟨by rfl, ?_⟩) hHeld ?_ ?_
            rotate_left
            · rintro w' ⟨s0, s1⟩
              go_simp
              with_reducible rfl
            rotate_left
            · simp only [Act.put, List.setIfInBounds_toArray, List.set_cons_zero, List.set_cons_succ, i64_w, i32_w]
              rfl
            refine pure_ (i := 10) (N := some 3) (v := ?_) (a' := ?_) #[true, true, true, true, true, true, true, false, true, true, true, false, false] rfl rfl (by kernel_rfl) (fun _ _ _ h => h) (Or.inl ⟨by rfl, ?_⟩) ?_ ?_
            rotate_left
            · intro w'
              go_simp
              with_reducible rfl
            rotate_left
            · simp only [Act.put, List.setIfInBounds_toArray, List.set_cons_zero, List.set_cons_succ, i64_w, i32_w]
              rfl
            refine take_ (i := 7) (N := some 43) (v := ?_) (a' := ?_) #[true, true, true, true, true, true, true, true, true, true, true, false, false] rfl rfl (by kernel_rfl) (fun _ _ _ h => h) (Or.inl ⟨by rfl, ?_⟩) hHeld ?_ ?_
            rotate_left
            · rintro w' ⟨s0, s1⟩
              go_simp
              with_reducible rfl
            rotate_left
            · simp only [Act.put, List.setIfInBounds_toArray, List.set_cons_zero, List.set_cons_succ, i64_w, i32_w]
              rfl
            refine pure_ (i := 11) (N := some 4) (v := ?_) (a' := ?_) #[true, true, true, true, true, true, true, true, true, true, true, true, false] rfl rfl (by kernel_rfl) (fun _ _ _ h => h) (Or.inl ⟨by rfl, ?_⟩) ?_ ?_
            rotate_left
            · intro w'
              go_simp
              with_reducible rfl
            rotate_left
            · simp only [Act.put, List.setIfInBounds_toArray, List.set_cons_zero, List.set_cons_succ, i64_w, i32_w]
              rfl
            refine pure_ (i := 12) (N := some 5) (v := ?_) (a' := ?_) #[true, true, true, true, true, true, true, true, true, true, true, true, true] rfl rfl (by kernel_rfl) (fun _ _ _ h => h) (Or.inl ⟨by rfl, ?_⟩) ?_ ?_
            rotate_left
            · intro w'
              go_simp
              with_reducible rfl
            rotate_left
            · simp only [Act.put, List.setIfInBounds_toArray, List.set_cons_zero, List.set_cons_succ, i64_w, i32_w]
              rfl
            refine done_ (by kernel_rfl) ?_
            go_wp2_with fail
            rw [HEd.out]
            refine bodyPost_ret (v := .tuple #[.slice none 0 0, .int .i64 ln, .int .i64 cl, .int .i64 er]) (by simp [results, Tryd.results8, go_sem]) rfl ⟨_, rfl, Kd.R_nil _ _ _ _ _, ?_⟩
            exact below_drew H3.out.bl
    · have hnx := Lib.run_next_end_at (P := Tryd.prog) wr it s pos 0 hib hlt
      have HN : Aside0 (Calls Tryd.prog (fnOf md) #[.pointer (some ⟨g, 0, none⟩), .int .i32 10] wr (Post w g it (.stringIter s pos) (stepS ⟨md, wd, gk, tx, ln, cl⟩ 10))) := ⟨next_calls w wr g it _ ⟨md, wd, gk, tx, ln, cl⟩ 10 n (by omega) (by omega) ⟨vw, vt, HB.out⟩ HI.out (by omega)⟩
      have HEe := Aside0.mk (HE.out.trans (wordsGo_end (s := s) (k := s.size - n) (pos := pos) (σ := ⟨md, wd, gk, tx, ln, cl⟩) hlt))
      have HK := Aside0.mk (stepS_ok ⟨md, wd, gk, tx, ln, cl⟩ 10 n HI.out)
      have HLC : Aside0 ((stepS ⟨md, wd, gk, tx, ln, cl⟩ 10).1.ln = ln ∧ (stepS ⟨md, wd, gk, tx, ln, cl⟩ 10).1.cl = cl) := ⟨HK.out.ln, HK.out.cl⟩
      have d0 : wr.cell? ⟨g, 0, none⟩ = some (fnV md) := (blk_cell HB.out.rb 0).trans rfl
      clear HE HK HI hib hib2 HB
      generalize stepS ⟨md, wd, gk, tx, ln, cl⟩ 10 = r at *
      obtain ⟨⟨md', wd', gk', tx', ln', cl'⟩, er⟩ := r
      have HR : Aside0 (ln' = ln ∧ cl' = cl) := ⟨HLC.out⟩
      clear HLC
      by_cases he : er = 0
      · subst he
        have HEg : Aside0 (wordsGo s (s.size + 1) 0 sc0 = (wd', 0, 0, 0)) := ⟨HEe.out⟩
        cases md
        all_goals
          simp only [fnV, fnOf] at d0
          go_wp2_with fail
          refine HN.out.mono ?_
          rintro e W3 ⟨rfl, H3⟩
          obtain ⟨vw3, vt3, H3⟩ := H3
          have H3 := Aside0.mk H3
          have c1_ : W3.cell? ⟨g, 1, none⟩ = some vw3 := (blk_cell H3.out.rb 1).trans rfl
          obtain ⟨A9, n9, rfl⟩ := Kd.R_slice H3.out.hw
          go_wp2_with fail
          rw [HEg.out]
          refine bodyPost_ret (v := .tuple #[.slice A9 wd'.length n9, .int .i64 0, .int .i64 0, .int .i64 0]) (by simp [results, Tryd.results8, go_sem]) rfl ⟨_, rfl, Kd.R_mono H3.out.hw (fun _ _ => trivial), H3.out.bl⟩
      · have HEf : Aside0 (wordsGo s (s.size + 1) 0 sc0 = ([], ln, cl, er)) := ⟨HEe.out.trans (if_neg he)⟩
        have hne : ((er : Int) != 0) = true := by rw [bne_iff_ne]; exact he
        clear he
        cases md
        all_goals
          simp only [fnV, fnOf] at d0
          go_wp2_with fail
          refine HN.out.mono ?_
          rintro e W3 ⟨rfl, H3⟩
          obtain ⟨vw3, vt3, H3⟩ := H3
          have H3 := Aside0.mk H3
          have c4_ : W3.cell? ⟨g, 4, none⟩ = some (.int .i64 ln) := (blk_cell H3.out.rb 4).trans (by rw [← HR.out.1]; rfl)
          have c5_ : W3.cell? ⟨g, 5, none⟩ = some (.int .i64 cl) := (blk_cell H3.out.rb 5).trans (by rw [← HR.out.2]; rfl)
          go_wp2_with fail
          refine start_ (n := 13) (S := fun w' => w'.cell? ⟨g, 4, none⟩ = some (.int .i64 ln) ∧ w'.cell? ⟨g, 5, none⟩ = some (.int .i64 cl)) (ds := []) #[false, false, false, false, false, false, false, false, false, false, false, false, false] (by kernel_rfl) rfl rfl ⟨c4_, c5_⟩ (fun hHeld => ?_)
          refine pure_ (i := 0) (N := some 73) (v := ?_) (a' := ?_) #[true, false, false, false, false, false, false, false, false, false, false, false, false] rfl rfl (by kernel_rfl) (fun _ _ _ h => h) (Or.inl ⟨by rfl, ?_⟩) ?_ ?_
          rotate_left
          · intro w'
            go_simp
            with_reducible rfl
          rotate_left
          · simp only [Act.put, List.setIfInBounds_toArray, List.set_cons_zero, List.set_cons_succ, i64_w, i32_w]
            rfl
          refine pure_ (i := 1) (N := some 74) (v := ?_) (a' := ?_) #[true, true, false, false, false, false, false, false, false, false, false, false, false] rfl rfl (by kernel_rfl) (fun _ _ _ h => h) (Or.inl ⟨by rfl, ?_⟩) ?_ ?_
          rotate_left
          · intro w'
            go_simp
            with_reducible rfl
          rotate_left
          · simp only [Act.put, List.setIfInBounds_toArray, List.set_cons_zero, List.set_cons_succ, i64_w, i32_w]
            rfl
          refine pure_ (i := 2) (N := some 75) (v := ?_) (a' := ?_) #[true, true, true, false, false, false, false, false, false, false, false, false, false] rfl rfl (by kernel_rfl) (fun _ _ _ h => h) (Or.inl ⟨by rfl, ?_⟩) ?_ ?_
          rotate_left
          · intro w'
            go_simp
            with_reducible rfl
          rotate_left
          · simp only [Act.put, List.setIfInBounds_toArray, List.set_cons_zero, List.set_cons_succ, i64_w, i32_w]
            rfl
          refine pure_ (i := 4) (N := some 77) (v := ?_) (a' := ?_) #[true, true, true, false, true, false, false, false, false, false, false, false, false] rfl rfl (by kernel_rfl) (fun _ _ _ h => h) (Or.inl ⟨by rfl, ?_⟩) ?_ ?_
          rotate_left
          · intro w'
            go_simp
            with_reducible rfl
          rotate_left
          · simp only [Act.put, List.setIfInBounds_toArray, List.set_cons_zero, List.set_cons_succ, i64_w, i32_w]
            rfl
          refine pure_ (i := 5) (N := some 78) (v := ?_) (a' := ?_) #[true, true, true, false, true, true, false, false, false, false, false, false, false] rfl rfl (by kernel_rfl) (fun _ _ _ h => h) (Or.inl ⟨by rfl, ?_⟩) ?_ ?_
          rotate_left
          · intro w'
            go_simp
            with_reducible rfl
          rotate_left
          · simp only [Act.put, List.setIfInBounds_toArray, List.set_cons_zero, List.set_cons_succ, i64_w, i32_w]
            rfl
          refine pure_ (i := 6) (N := some 79) (v := ?_) (a' := ?_) #[true, true, true, false, true, true, true, false, false, false, false, false, false] rfl rfl (by kernel_rfl) (fun _ _ _ h => h) (Or.inl ⟨by rfl, ?_⟩) ?_ ?_
          rotate_left
          · intro w'
            go_simp
            with_reducible rfl
          rotate_left
          · simp only [Act.put, List.setIfInBounds_toArray, List.set_cons_zero, List.set_cons_succ, i64_w, i32_w]
            rfl
          refine pure_ (i := 8) (N := some 81) (v := ?_) (a' := ?_) #[true, true, true, false, true, true, true, false, true, false, false, false, false] rfl rfl (by kernel_rfl) (fun _ _ _ h => h) (Or.inl ⟨by rfl, ?_⟩) ?_ ?_
          rotate_left
          · intro w'
            go_simp
            with_reducible rfl
          rotate_left
          · simp only [Act.put, List.setIfInBounds_toArray, List.set_cons_zero, List.set_cons_succ, i64_w, i32_w]
            rfl
          refine pure_ (i := 9) (N := some 2) (v := ?_) (a' := ?_) #[true, true, true, false, true, true, true, false, true, true, false, false, false] rfl rfl (by kernel_rfl) (fun _ _ _ h => h) (Or.inl ⟨by rfl, ?_⟩) ?_ ?_
          rotate_left
          · intro w'
            go_simp
            with_reducible rfl
          rotate_left
          · simp only [Act.put, List.setIfInBounds_toArray, List.set_cons_zero, List.set_cons_succ, i64_w, i32_w]
            rfl
          refine take_ (i := 3) (N := some 76) (v := ?_) (a' := ?_) #[true, true, true, true, true, true, true, false, true, true, false, false, false] rfl rfl (by kernel_rfl) (fun _ _ _ h => h) (Or.inl ⟨by rfl, ?_⟩) hHeld ?_ ?_
          rotate_left
          · rintro w' ⟨s0, s1⟩
            go_simp
            with_reducible rfl
          rotate_left
          · simp only [Act.put, List.setIfInBounds_toArray, List.set_cons_zero, List.set_cons_succ, i64_w, i32_w]
            rfl
          refine pure_ (i := 10) (N := some 3) (v := ?_) (a' := ?_) #[true, true, true, true, true, true, true, false, true, true, true, false, false] rfl rfl (by kernel_rfl) (fun _ _ _ h => h) (Or.inl ⟨by rfl, ?_⟩) ?_ ?_
          rotate_left
          · intro w'
            go_simp
            with_reducible rfl
          rotate_left
          · simp only [Act.put, List.setIfInBounds_toArray, List.set_cons_zero, List.set_cons_succ, i64_w, i32_w]
            rfl
          refine take_ (i := 7) (N := some 80) (v := ?_) (a' := ?_) #[true, true, true, true, true, true, true, true, true, true, true, false, false] rfl rfl (by kernel_rfl) (fun _ _ _ h => h) (Or.inl ⟨by rfl, ?_⟩) hHeld ?_ ?_
          rotate_left
          · rintro w' ⟨s0, s1⟩
            go_simp
            with_reducible rfl
          rotate_left
          · simp only [Act.put, List.setIfInBounds_toArray, List.set_cons_zero, List.set_cons_succ, i64_w, i32_w]
            rfl
          refine pure_ (i := 11) (N := some 4) (v := ?_) (a' := ?_) #[true, true, true, true, true, true, true, true, true, true, true, true, false] rfl rfl (by kernel_rfl) (fun _ _ _ h => h) (Or.inl ⟨by rfl, ?_⟩) ?_ ?_
          rotate_left
          · intro w'
            go_simp
            with_reducible rfl
          rotate_left
          · simp only [Act.put, List.setIfInBounds_toArray, List.set_cons_zero, List.set_cons_succ, i64_w, i32_w]
            rfl
          refine pure_ (i := 12) (N := some 5) (v := ?_) (a' := ?_) #[true, true, true, true, true, true, true, true, true, true, true, true, true] rfl rfl (by kernel_rfl) (fun _ _ _ h => h) (Or.inl ⟨by rfl, ?_⟩) ?_ ?_
          rotate_left
          · intro w'
            go_simp
            with_reducible rfl
          rotate_left
          · simp only [Act.put, List.setIfInBounds_toArray, List.set_cons_zero, List.set_cons_succ, i64_w, i32_w]
            rfl
          refine done_ (by kernel_rfl) ?_
          go_wp2_with fail
          rw [HEf.out]
          refine bodyPost_ret (v := .tuple #[.slice none 0 0, .int .i64 ln, .int .i64 cl, .int .i64 er]) (by simp [results, Tryd.results8, go_sem]) rfl ⟨_, rfl, Kd.R_nil _ _ _ _ _, ?_⟩
          exact below_drew H3.out.bl
theorem words_long (s : ByteArray) (w : World) (hs : ¬ s.size ≤ 65536) (hm : s.size ≤ 9223372036854775807) :
    Calls Tryd.prog 8 #[.string s] w (Fin w ([], 0, 0, 5)) := by
  have hz : 65536 < (s.size : Int) := by omega
  go_enter Tryd.func8, Tryd.ntmps8
  go_wp2_with fail
  refine bodyPost_ret (v := .tuple #[.slice none 0 0, .int .i64 0, .int .i64 0, .int .i64 5]) (by simp [results, Tryd.results8, go_sem]) rfl ⟨_, rfl, Kd.R_nil _ _ _ _ _, Below.refl _ _⟩
theorem scan_Words.calls (a0 : ByteArray) (r1 : List SW) (r2 r3 r4 : Int) (w : World) (h : scan_Words.f a0 = some (r1, r2, r3, r4)) :
    Calls Tryd.prog 8 #[.string a0] w fun e w' => ∃ v0_ : Value, e = .returned (.tuple #[v0_, .int .i64 r2, .int .i64 r3, .int .i64 r4]) ∧ Kd.R k36 36 w' w.heap.size (fun _ => True) v0_ r1 ∧ Below w.heap.size w w' := by
  unfold scan_Words.f wordsF at h
  split at h
  · split at h
    · rename_i h2
      have h3 := Option.some.inj h
      have := words_calls a0 w h2
      rw [h3] at this
      exact this
    · rename_i h1 h2
      cases h
      exact words_long a0 w h2 h1
  · cases h
end Go.Proofs.YtcpalnmodbbklaaDoor.P
