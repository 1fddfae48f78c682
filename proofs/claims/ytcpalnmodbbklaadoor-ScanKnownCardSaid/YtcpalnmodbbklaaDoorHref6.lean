import Derived.Test.YtcpalnmodbbklaaDoorHref5
import Derived.Outline
/- The reference's Words. -/
namespace Go.Proofs.YtcpalnmodbbklaaDoor.P
set_option linter.unusedVariables false
set_option linter.unusedSimpArgs false
open Go.RowKit Go.Proofs.YtcpalnmodbbklaaDoorW.PrintWords Go.Proofs.YtcpalnmodbbklaaDoorW.PrintLast Go.Proofs.YtcpalnmodbbklaaDoorW.PrintMore

theorem plainR_le (s : ByteArray) (kd : Nat) : ∀ k p ln cl, p ≤ (plainR s kd k p ln cl).1 := by
  intro k
  induction k with
  | zero => intro p ln cl; exact Nat.le_refl _
  | succ k ih =>
    intro p ln cl
    unfold plainR
    split
    · exact Nat.le_trans (Nat.le_add_right _ _) (ih _ _ _)
    · exact Nat.le_refl _
theorem skipR_le (s : ByteArray) : ∀ k p ln cl, p ≤ (skipR s k p ln cl).2.1 := by
  intro k
  induction k with
  | zero => intro p ln cl; exact Nat.le_refl _
  | succ k ih =>
    intro p ln cl
    unfold skipR
    have hc := comR_le s (k + 1) p ln cl
    split
    · split
      · exact Nat.le_trans hc (ih _ _ _)
      · exact hc
    · split
      · exact Nat.le_refl _
      · exact Nat.le_trans (Nat.le_add_right _ _) (ih _ _ _)
theorem quotedR_le (s : ByteArray) : ∀ k p ln cl acc, p ≤ (quotedR s k p ln cl acc).2.1 := by
  intro k
  induction k with
  | zero => intro p ln cl acc; exact Nat.le_refl _
  | succ k ih =>
    intro p ln cl acc
    unfold quotedR
    split
    · exact Nat.le_refl _
    split
    · exact Nat.le_refl _
    split
    · exact Nat.le_add_right _ _
    split
    · exact Nat.le_trans (Nat.le_add_right _ _) (ih _ _ _ _)
    split
    · exact Nat.le_add_right _ _
    split
    · exact Nat.le_add_right _ _
    · refine Nat.le_trans ?_ (ih _ _ _ _)
      rw [Nat.add_assoc]
      exact Nat.le_add_right _ _
theorem goB_small {c : Int} (k : Nat) (h : smallB c = true) : goB k c = true := by unfold goB; rw [h]; rfl
theorem goB_digit {c : Int} (k : Nat) (h : digitB c = true) : goB k c = true := by unfold goB; rw [h]; simp
theorem wordR_lt {s : ByteArray} {K p : Nat} {ln cl : Int} (hp : p < s.size) (h : (wordR s (K + 1) p ln cl).1.2.2 = 0) : p < (wordR s (K + 1) p ln cl).2.1 := by
  have hw := (decode_range0 s p hp).2.1
  have hpl : ∀ kd, goB kd (rcv s p) = true → p < (plainR s kd (K + 1) p ln cl).1 := by
    intro kd hg
    unfold plainR
    rw [if_pos hg]
    have := plainR_le s kd K (p + wdt s p) (lnv s p ln) (clv s p cl)
    unfold wdt at this ⊢
    omega
  unfold wordR at h ⊢
  split at h
  · rename_i hs
    have := hpl 1 (goB_small 1 hs)
    rw [if_pos hs]
    split <;> exact this
  split at h
  · rename_i h1 h2
    have := hpl 2 (goB_digit 2 h2)
    rw [if_neg h1, if_pos h2]
    split <;> exact this
  split at h
  · rename_i h1 h2 h3
    rw [if_neg h1, if_neg h2, if_pos h3]
    unfold wdt
    dsimp only
    omega
  split at h
  · rename_i h1 h2 h3 h4
    rw [if_neg h1, if_neg h2, if_neg h3, if_pos h4]
    have := quotedR_le s (K + 1) (p + wdt s p) (lnv s p ln) (clv s p cl) ⟨#[]⟩
    unfold wdt at this ⊢
    dsimp only at this ⊢
    omega
  · cases h
def wordsR (s : ByteArray) : Nat → Nat → Int → Int → List SW → List SW × Int × Int × Int
  | 0, _, _, _, _ => ([], 0, 0, 0)
  | k + 1, p, ln, cl, out =>
    if (skipR s (s.size + 1) p ln cl).1 = false then ([], (skipR s (s.size + 1) p ln cl).2.2.1, (skipR s (s.size + 1) p ln cl).2.2.2, 4)
    else if rcv s (skipR s (s.size + 1) p ln cl).2.1 < 0 then (out, 0, 0, 0)
    else if (wordR s (s.size + 1) (skipR s (s.size + 1) p ln cl).2.1 (skipR s (s.size + 1) p ln cl).2.2.1 (skipR s (s.size + 1) p ln cl).2.2.2).1.2.2 ≠ 0 then
      ([], (wordR s (s.size + 1) (skipR s (s.size + 1) p ln cl).2.1 (skipR s (s.size + 1) p ln cl).2.2.1 (skipR s (s.size + 1) p ln cl).2.2.2).2.2.1, (wordR s (s.size + 1) (skipR s (s.size + 1) p ln cl).2.1 (skipR s (s.size + 1) p ln cl).2.2.1 (skipR s (s.size + 1) p ln cl).2.2.2).2.2.2, (wordR s (s.size + 1) (skipR s (s.size + 1) p ln cl).2.1 (skipR s (s.size + 1) p ln cl).2.2.1 (skipR s (s.size + 1) p ln cl).2.2.2).1.2.2)
    else wordsR s k (wordR s (s.size + 1) (skipR s (s.size + 1) p ln cl).2.1 (skipR s (s.size + 1) p ln cl).2.2.1 (skipR s (s.size + 1) p ln cl).2.2.2).2.1 (wordR s (s.size + 1) (skipR s (s.size + 1) p ln cl).2.1 (skipR s (s.size + 1) p ln cl).2.2.1 (skipR s (s.size + 1) p ln cl).2.2.2).2.2.1 (wordR s (s.size + 1) (skipR s (s.size + 1) p ln cl).2.1 (skipR s (s.size + 1) p ln cl).2.2.1 (skipR s (s.size + 1) p ln cl).2.2.2).2.2.2
      (out ++ [⟨(wordR s (s.size + 1) (skipR s (s.size + 1) p ln cl).2.1 (skipR s (s.size + 1) p ln cl).2.2.1 (skipR s (s.size + 1) p ln cl).2.2.2).1.1, (wordR s (s.size + 1) (skipR s (s.size + 1) p ln cl).2.1 (skipR s (s.size + 1) p ln cl).2.2.1 (skipR s (s.size + 1) p ln cl).2.2.2).1.2.1, (skipR s (s.size + 1) p ln cl).2.2.1, (skipR s (s.size + 1) p ln cl).2.2.2⟩])
theorem wordsR_skip {s : ByteArray} {k p p1 : Nat} {ln cl l1 c1 : Int} {out : List SW} {b : Bool} (h : skipR s (s.size + 1) p ln cl = (b, p1, l1, c1)) :
    wordsR s (k + 1) p ln cl out = if b = false then ([], l1, c1, 4) else if rcv s p1 < 0 then (out, 0, 0, 0)
      else if (wordR s (s.size + 1) p1 l1 c1).1.2.2 ≠ 0 then ([], (wordR s (s.size + 1) p1 l1 c1).2.2.1, (wordR s (s.size + 1) p1 l1 c1).2.2.2, (wordR s (s.size + 1) p1 l1 c1).1.2.2)
      else wordsR s k (wordR s (s.size + 1) p1 l1 c1).2.1 (wordR s (s.size + 1) p1 l1 c1).2.2.1 (wordR s (s.size + 1) p1 l1 c1).2.2.2 (out ++ [⟨(wordR s (s.size + 1) p1 l1 c1).1.1, (wordR s (s.size + 1) p1 l1 c1).1.2.1, l1, c1⟩]) := by
  conv => lhs; unfold wordsR
  rw [h]
def RFin (w : World) (r : List SW × Int × Int × Int) (e : Ending) (w' : World) : Prop :=
  ∃ v0 : Value, e = .returned (.tuple #[v0, .int .i64 r.2.1, .int .i64 r.2.2.1, .int .i64 r.2.2.2]) ∧ Kd.R kW 36 w' w.heap.size (fun _ => True) v0 r.1 ∧ Below w.heap.size w w'
/-- the reader and the words so far -/
structure RO (w0 W : World) (g : Nat) (s : ByteArray) (p : Nat) (ln cl : Int) (v : Value) (out : List SW) : Prop where
  rp : RP w0 W g s p ln cl
  hw : Kd.R kW 36 W w0.heap.size (fun k => k ≠ g) v out
theorem RO.below {w0 W W' : World} {g : Nat} {s : ByteArray} {p : Nat} {ln cl : Int} {v : Value} {out : List SW} (h : RO w0 W g s p ln cl v out) (hb : Below W.heap.size W W') : RO w0 W' g s p ln cl v out := ⟨h.rp.below hb, Kd.R_below h.hw hb⟩
theorem RO.oth {w0 W W' : World} {g : Nat} {s : ByteArray} {p p' : Nat} {ln cl ln' cl' : Int} {v : Value} {out : List SW} (h : RO w0 W g s p ln cl v out) (hr : RP w0 W' g s p' ln' cl') (ho : Oth g W W') : RO w0 W' g s p' ln' cl' v out :=
  ⟨hr, Kd.R_step h.hw (fun k hk hlt => ho.2 k hlt hk)⟩
theorem RO.app {w0 W w1 : World} {g : Nat} {s : ByteArray} {p : Nat} {ln cl : Int} {v v1 : Value} {out : List SW} {x : SW} (h : RO w0 W g s p ln cl v out) (HV : Kd.R kW 36 w1 w0.heap.size (fun k => k ≠ g) v1 (out ++ [x])) (hb : Below w0.heap.size w0 w1) (hg : W.grownBy w1 v.ownBlock) : RO w0 w1 g s p ln cl v1 (out ++ [x]) := by
  have hgW : some g ≠ v.ownBlock := fun e => (h.hw.1 g e.symm) rfl
  exact ⟨⟨⟨blk_grown h.rp.rb hg hgW, hb, h.rp.hg, h.rp.tb⟩, h.rp.toPl⟩, HV⟩
set_option maxRecDepth 100000 in
set_option maxHeartbeats 6400000 in
theorem rwords_calls (s : ByteArray) (w : World) (hs : s.size ≤ 65536) (hT : Tb w) :
    Calls Tryd.prog 12 #[.string s] w (RFin w (wordsR s (s.size + 2) 0 1 1 [])) := by
  have hz : ¬ (65536 < (s.size : Int)) := by omega
  have hb0 : Below w.heap.size w (w.alloc (.cells #[.string s, .int .i64 0, .int .i64 1, .int .i64 1] 56)) := (Below.refl _ _).alloc (Nat.le_refl _) _
  have HS0 : Aside0 (RO w (w.alloc (.cells #[.string s, .int .i64 0, .int .i64 1, .int .i64 1] 56)) w.heap.size s 0 1 1 (.slice none 0 0) []) := ⟨⟨⟨⟨heap_alloc_new w _, hb0, Nat.le_refl _, hT⟩, ⟨by omega, by omega, by omega, by omega, by omega, by omega⟩⟩, Kd.R_nil _ _ _ _ _⟩⟩
  clear hb0 hT
  obtain ⟨RES, hRES⟩ : ∃ r, wordsR s (s.size + 2) 0 1 1 [] = r := ⟨_, rfl⟩
  rw [hRES]
  have HR := Aside0.mk hRES
  clear hRES
  go_enter Tryd.func12, Tryd.ntmps12
  go_wp2_with fail
  obtain ⟨g, hg⟩ : ∃ g, w.heap.size = g := ⟨_, rfl⟩
  rw [hg] at HS0 ⊢
  generalize w.alloc (.cells #[.string s, .int .i64 0, .int .i64 1, .int .i64 1] 56) = W0 at *
  have HG := Aside0.mk hg
  clear hg
  go_loopg [7] (s.size + 2) (fun gk t7 wx => ∃ p ln cl out, out.length ≤ p ∧ Aside0 (RO w wx g s p ln cl t7 out) ∧ Aside0 (s.size - p + 1 < gk) ∧ Aside0 (wordsR s gk p ln cl out = RES))
  case atStart => exact ⟨0, 1, 1, [], Nat.le_refl _, HS0, ⟨by omega⟩, HR⟩
  case round =>
    clear HS0 HR
    obtain ⟨p, ln, cl, out, hop, HH, HK, HR⟩ := hrel
    cases gk with
    | zero => exact absurd HK.out (by omega)
    | succ k =>
      obtain ⟨⟨b, p1, l1, c1⟩, hSK⟩ : ∃ r, skipR s (s.size + 1) p ln cl = r := ⟨_, rfl⟩
      have HQ := Aside0.mk (HR.out.symm.trans (wordsR_skip (k := k) (out := out) hSK))
      have HP1 : Aside0 (p ≤ p1) := ⟨by have := skipR_le s (s.size + 1) p ln cl; rw [hSK] at this; exact this⟩
      have HSC : Aside0 (Calls Tryd.prog 24 #[.pointer (some ⟨g, 0, none⟩)] wr (SkPost w wr g s (b, p1, l1, c1))) := ⟨by rw [← hSK]; exact skip_calls w wr g s p ln cl (s.size + 1) (by omega) HH.out.rp⟩
      clear HR hSK
      go_wp2_with fail
      refine HSC.out.mono ?_
      rintro e W1 ⟨rfl, h1, o1⟩
      have H1 := Aside0.mk (HH.out.oth h1 o1)
      clear h1 o1 HSC HH
      cases b with
      | false =>
        have HX : Aside0 (RES = ([], l1, c1, 4)) := ⟨by rw [HQ.out]; rfl⟩
        clear HQ
        have r2 : W1.cell? ⟨g, 2, none⟩ = some (.int .i64 l1) := (blk_cell H1.out.rp.rb 2).trans rfl
        have r3 : W1.cell? ⟨g, 3, none⟩ = some (.int .i64 c1) := (blk_cell H1.out.rp.rb 3).trans rfl
        go_wp2_with fail
        refine start_ (n := 12) (S := fun w' => w'.cell? ⟨g, 2, none⟩ = some (.int .i64 l1) ∧ w'.cell? ⟨g, 3, none⟩ = some (.int .i64 c1)) (ds := []) #[false, false, false, false, false, false, false, false, false, false, false, false] (by kernel_rfl) rfl rfl ⟨r2, r3⟩ (fun hHeld => ?_)
        refine pure_ (i := 0) (N := some 21) (v := ?_) (a' := ?_) #[true, false, false, false, false, false, false, false, false, false, false, false] rfl rfl (by kernel_rfl) (fun _ _ _ h => h) (Or.inl ⟨by rfl, ?_⟩) ?_ ?_
        rotate_left
        · intro w'
          go_simp
          with_reducible rfl
        rotate_left
        · simp only [Act.put, List.setIfInBounds_toArray, List.set_cons_zero, List.set_cons_succ, i64_w, i32_w]
          rfl
        refine pure_ (i := 1) (N := some 22) (v := ?_) (a' := ?_) #[true, true, false, false, false, false, false, false, false, false, false, false] rfl rfl (by kernel_rfl) (fun _ _ _ h => h) (Or.inl ⟨by rfl, ?_⟩) ?_ ?_
        rotate_left
        · intro w'
          go_simp
          with_reducible rfl
        rotate_left
        · simp only [Act.put, List.setIfInBounds_toArray, List.set_cons_zero, List.set_cons_succ, i64_w, i32_w]
          rfl
        refine pure_ (i := 2) (N := some 23) (v := ?_) (a' := ?_) #[true, true, true, false, false, false, false, false, false, false, false, false] rfl rfl (by kernel_rfl) (fun _ _ _ h => h) (Or.inl ⟨by rfl, ?_⟩) ?_ ?_
        rotate_left
        · intro w'
          go_simp
          with_reducible rfl
        rotate_left
        · simp only [Act.put, List.setIfInBounds_toArray, List.set_cons_zero, List.set_cons_succ, i64_w, i32_w]
          rfl
        refine pure_ (i := 4) (N := some 25) (v := ?_) (a' := ?_) #[true, true, true, false, true, false, false, false, false, false, false, false] rfl rfl (by kernel_rfl) (fun _ _ _ h => h) (Or.inl ⟨by rfl, ?_⟩) ?_ ?_
        rotate_left
        · intro w'
          go_simp
          with_reducible rfl
        rotate_left
        · simp only [Act.put, List.setIfInBounds_toArray, List.set_cons_zero, List.set_cons_succ, i64_w, i32_w]
          rfl
        refine pure_ (i := 5) (N := some 26) (v := ?_) (a' := ?_) #[true, true, true, false, true, true, false, false, false, false, false, false] rfl rfl (by kernel_rfl) (fun _ _ _ h => h) (Or.inl ⟨by rfl, ?_⟩) ?_ ?_
        rotate_left
        · intro w'
          go_simp
          with_reducible rfl
        rotate_left
        · simp only [Act.put, List.setIfInBounds_toArray, List.set_cons_zero, List.set_cons_succ, i64_w, i32_w]
          rfl
        refine pure_ (i := 6) (N := some 27) (v := ?_) (a' := ?_) #[true, true, true, false, true, true, true, false, false, false, false, false] rfl rfl (by kernel_rfl) (fun _ _ _ h => h) (Or.inl ⟨by rfl, ?_⟩) ?_ ?_
        rotate_left
        · intro w'
          go_simp
          with_reducible rfl
        rotate_left
        · simp only [Act.put, List.setIfInBounds_toArray, List.set_cons_zero, List.set_cons_succ, i64_w, i32_w]
          rfl
        refine pure_ (i := 8) (N := some 2) (v := ?_) (a' := ?_) #[true, true, true, false, true, true, true, false, true, false, false, false] rfl rfl (by kernel_rfl) (fun _ _ _ h => h) (Or.inl ⟨by rfl, ?_⟩) ?_ ?_
        rotate_left
        · intro w'
          go_simp
          with_reducible rfl
        rotate_left
        · simp only [Act.put, List.setIfInBounds_toArray, List.set_cons_zero, List.set_cons_succ, i64_w, i32_w]
          rfl
        refine take_ (i := 3) (N := some 24) (v := ?_) (a' := ?_) #[true, true, true, true, true, true, true, false, true, false, false, false] rfl rfl (by kernel_rfl) (fun _ _ _ h => h) (Or.inl ⟨by rfl, ?_⟩) hHeld ?_ ?_
        rotate_left
        · rintro w' ⟨s0, s1⟩
          go_simp
          with_reducible rfl
        rotate_left
        · simp only [Act.put, List.setIfInBounds_toArray, List.set_cons_zero, List.set_cons_succ, i64_w, i32_w]
          rfl
        refine pure_ (i := 9) (N := some 3) (v := ?_) (a' := ?_) #[true, true, true, true, true, true, true, false, true, true, false, false] rfl rfl (by kernel_rfl) (fun _ _ _ h => h) (Or.inl ⟨by rfl, ?_⟩) ?_ ?_
        rotate_left
        · intro w'
          go_simp
          with_reducible rfl
        rotate_left
        · simp only [Act.put, List.setIfInBounds_toArray, List.set_cons_zero, List.set_cons_succ, i64_w, i32_w]
          rfl
        refine take_ (i := 7) (N := some 28) (v := ?_) (a' := ?_) #[true, true, true, true, true, true, true, true, true, true, false, false] rfl rfl (by kernel_rfl) (fun _ _ _ h => h) (Or.inl ⟨by rfl, ?_⟩) hHeld ?_ ?_
        rotate_left
        · rintro w' ⟨s0, s1⟩
          go_simp
          with_reducible rfl
        rotate_left
        · simp only [Act.put, List.setIfInBounds_toArray, List.set_cons_zero, List.set_cons_succ, i64_w, i32_w]
          rfl
        refine pure_ (i := 10) (N := some 4) (v := ?_) (a' := ?_) #[true, true, true, true, true, true, true, true, true, true, true, false] rfl rfl (by kernel_rfl) (fun _ _ _ h => h) (Or.inl ⟨by rfl, ?_⟩) ?_ ?_
        rotate_left
        · intro w'
          go_simp
          with_reducible rfl
        rotate_left
        · simp only [Act.put, List.setIfInBounds_toArray, List.set_cons_zero, List.set_cons_succ, i64_w, i32_w]
          rfl
        refine pure_ (i := 11) (N := some 5) (v := ?_) (a' := ?_) #[true, true, true, true, true, true, true, true, true, true, true, true] rfl rfl (by kernel_rfl) (fun _ _ _ h => h) (Or.inl ⟨by rfl, ?_⟩) ?_ ?_
        rotate_left
        · intro w'
          go_simp
          with_reducible rfl
        rotate_left
        · simp only [Act.put, List.setIfInBounds_toArray, List.set_cons_zero, List.set_cons_succ, i64_w, i32_w]
          rfl
        refine done_ (by kernel_rfl) ?_
        go_wp2_with fail
        rw [HX.out]
        refine bodyPost_ret (v := .tuple #[.slice none 0 0, .int .i64 l1, .int .i64 c1, .int .i64 4]) (by simp [results, Tryd.results12, go_sem]) rfl ⟨_, rfl, Kd.R_nil _ _ _ _ _, ?_⟩
        exact below_drew H1.out.rp.bl
      | true =>
        have HQ2 : Aside0 (RES = if rcv s p1 < 0 then (out, 0, 0, 0)
      else if (wordR s (s.size + 1) p1 l1 c1).1.2.2 ≠ 0 then ([], (wordR s (s.size + 1) p1 l1 c1).2.2.1, (wordR s (s.size + 1) p1 l1 c1).2.2.2, (wordR s (s.size + 1) p1 l1 c1).1.2.2)
      else wordsR s k (wordR s (s.size + 1) p1 l1 c1).2.1 (wordR s (s.size + 1) p1 l1 c1).2.2.1 (wordR s (s.size + 1) p1 l1 c1).2.2.2 (out ++ [⟨(wordR s (s.size + 1) p1 l1 c1).1.1, (wordR s (s.size + 1) p1 l1 c1).1.2.1, l1, c1⟩])) := ⟨HQ.out⟩
        clear HQ
        go_wp2_with fail
        refine (rune_at H1.out.rp).mono ?_
        rintro e W2 ⟨rfl, hb2⟩
        have H2 := Aside0.mk (H1.out.below hb2)
        clear hb2 H1
        by_cases hneg : rcv s p1 < 0
        · have HX : Aside0 (RES = (out, 0, 0, 0)) := ⟨by rw [HQ2.out, if_pos hneg]⟩
          have d1 : decide (rcv s p1 < 0) = true := decide_eq_true hneg
          obtain ⟨A9, n9, rfl⟩ := Kd.R_slice H2.out.hw
          clear HQ2 hneg
          go_wp2_with fail
          rw [HX.out]
          refine bodyPost_ret (v := .tuple #[.slice A9 out.length n9, .int .i64 0, .int .i64 0, .int .i64 0]) (by simp [results, Tryd.results12, go_sem]) rfl ⟨_, rfl, Kd.R_mono H2.out.hw (fun _ _ => trivial), H2.out.rp.bl⟩
        · have d1 : decide (rcv s p1 < 0) = false := decide_eq_false hneg
          have hp1 := rcv_lt (s := s) (p := p1) (by omega)
          obtain ⟨⟨⟨kd, tx, er⟩, p2, l2, c2⟩, hWD⟩ : ∃ r, wordR s (s.size + 1) p1 l1 c1 = r := ⟨_, rfl⟩
          have HLT : Aside0 (er = 0 → p1 < p2) := ⟨fun h => by have := wordR_lt (K := s.size) (ln := l1) (cl := c1) hp1; rw [hWD] at this; exact this h⟩
          have HWC : Aside0 (Calls Tryd.prog 26 #[.pointer (some ⟨g, 0, none⟩), .int .i64 (rcv s p1)] W2 (WdPost w W2 g s l1 c1 ((kd, tx, er), p2, l2, c2))) := ⟨by rw [← hWD]; exact word_calls w W2 g s p1 l1 c1 (s.size + 1) (by omega) hp1 H2.out.rp⟩
          have HQ3 : Aside0 (RES = if er ≠ 0 then ([], l2, c2, er) else wordsR s k p2 l2 c2 (out ++ [⟨kd, tx, l1, c1⟩])) := ⟨by rw [HQ2.out, if_neg hneg, hWD]⟩
          clear HQ2 hneg hWD
          go_wp2_with fail
          refine HWC.out.mono ?_
          rintro e W3 ⟨rfl, h3, o3⟩
          have H3 := Aside0.mk (H2.out.oth h3 o3)
          clear h3 o3 HWC H2
          by_cases he : er = 0
          · have HX : Aside0 (wordsR s k p2 l2 c2 (out ++ [⟨kd, tx, l1, c1⟩]) = RES) := ⟨by rw [HQ3.out, if_neg (by omega)]⟩
            have hlt := HLT.out he
            subst he
            clear HQ3 HLT
            have hb4 : Below W3.heap.size W3 (W3.alloc (.cells #[.int .i64 kd, .string tx, .int .i64 l1, .int .i64 c1] 36)) := (Below.refl _ _).alloc (Nat.le_refl _) _
            have H4 := Aside0.mk (H3.out.below hb4)
            have hlg := H4.out.rp.lt
            have HFR : Aside0 (∀ k, (W3.alloc (.cells #[.int .i64 kd, .string tx, .int .i64 l1, .int .i64 c1] 36)).heap.size ≤ k → k ≠ g) := ⟨fun k hk => by omega⟩
            have HPZ := Aside0.mk H3.out.rp.pz
            have HLM : Aside0 ((out.length + 1) * 40 ≤ 140737488355328) := ⟨by have := HPZ.out; have := HP1.out; omega⟩
            clear hb4 H3 hlg
            go_wp2_with ((at_builtin; go_loud (refine Kd.R_append kW (w0 := w) w.heap.size rfl (.tmp 54) (.tmp 56) 22 36 (.agg #[.int .i64 0, .string ⟨#[]⟩, .int .i64 0, .int .i64 0]) 40 rfl Tryd.underlying22 infoW rfl (by decide) (by decide) u7 out (⟨kd, tx, l1, c1⟩ : SW) [.int .i64 kd, .string tx, .int .i64 l1, .int .i64 c1] (fun k => k ≠ g) (fun _ => False) rfl (by refine congrArg (fun n => Value.slice (some ⟨n, 0, none⟩) 1 1) (?_ : W3.heap.size + 1 = _); simp) (kW_mkM _ _ _ _) (fun _ h => h.elim) HFR.out H4.out.hw H4.out.rp.bl H4.out.rp.bl.size HLM.out ?_; intro v5 W5 HV5 HB5 hg5 hat5; obtain ⟨A5, c5, rfl⟩ := Kd.R_slice HV5; have H5 := Aside0.mk (H4.out.app HV5 HB5 hg5); clear HV5 HB5 hg5 hat5)))
            go_roundg k
            case rel => exact ⟨p2, l2, c2, out ++ [⟨kd, tx, l1, c1⟩], by have := HP1.out; simp; omega, by simpa using H5, ⟨by have := HK.out; have := HP1.out; have := HPZ.out; omega⟩, HX⟩
            case measure => omega
          · have HX : Aside0 (RES = ([], l2, c2, er)) := ⟨by rw [HQ3.out, if_pos he]⟩
            have hne : ((er : Int) != 0) = true := by rw [bne_iff_ne]; exact he
            clear HQ3 he
            have hb4 : Below W3.heap.size W3 (W3.alloc (.cells #[.int .i64 kd, .string tx, .int .i64 l1, .int .i64 c1] 36)) := (Below.refl _ _).alloc (Nat.le_refl _) _
            have H4 := Aside0.mk (H3.out.below hb4)
            clear hb4
            go_wp2_with fail
            generalize W3.alloc (.cells #[.int .i64 kd, .string tx, .int .i64 l1, .int .i64 c1] 36) = W4 at *
            have r2 : W4.cell? ⟨g, 2, none⟩ = some (.int .i64 l2) := (blk_cell H4.out.rp.rb 2).trans rfl
            have r3 : W4.cell? ⟨g, 3, none⟩ = some (.int .i64 c2) := (blk_cell H4.out.rp.rb 3).trans rfl
            refine start_ (n := 13) (S := fun w' => w'.cell? ⟨g, 2, none⟩ = some (.int .i64 l2) ∧ w'.cell? ⟨g, 3, none⟩ = some (.int .i64 c2)) (ds := []) #[false, false, false, false, false, false, false, false, false, false, false, false, false] (by kernel_rfl) rfl rfl ⟨r2, r3⟩ (fun hHeld => ?_)
            refine pure_ (i := 0) (N := some 45) (v := ?_) (a' := ?_) #[true, false, false, false, false, false, false, false, false, false, false, false, false] rfl rfl (by kernel_rfl) (fun _ _ _ h => h) (Or.inl ⟨by rfl, ?_⟩) ?_ ?_
            rotate_left
            · intro w'
              go_simp
              with_reducible rfl
            rotate_left
            · simp only [Act.put, List.setIfInBounds_toArray, List.set_cons_zero, List.set_cons_succ, i64_w, i32_w]
              rfl
            refine pure_ (i := 1) (N := some 46) (v := ?_) (a' := ?_) #[true, true, false, false, false, false, false, false, false, false, false, false, false] rfl rfl (by kernel_rfl) (fun _ _ _ h => h) (Or.inl ⟨by rfl, ?_⟩) ?_ ?_
            rotate_left
            · intro w'
              go_simp
              with_reducible rfl
            rotate_left
            · simp only [Act.put, List.setIfInBounds_toArray, List.set_cons_zero, List.set_cons_succ, i64_w, i32_w]
              rfl
            refine pure_ (i := 2) (N := some 47) (v := ?_) (a' := ?_) #[true, true, true, false, false, false, false, false, false, false, false, false, false] rfl rfl (by kernel_rfl) (fun _ _ _ h => h) (Or.inl ⟨by rfl, ?_⟩) ?_ ?_
            rotate_left
            · intro w'
              go_simp
              with_reducible rfl
            rotate_left
            · simp only [Act.put, List.setIfInBounds_toArray, List.set_cons_zero, List.set_cons_succ, i64_w, i32_w]
              rfl
            refine pure_ (i := 4) (N := some 49) (v := ?_) (a' := ?_) #[true, true, true, false, true, false, false, false, false, false, false, false, false] rfl rfl (by kernel_rfl) (fun _ _ _ h => h) (Or.inl ⟨by rfl, ?_⟩) ?_ ?_
            rotate_left
            · intro w'
              go_simp
              with_reducible rfl
            rotate_left
            · simp only [Act.put, List.setIfInBounds_toArray, List.set_cons_zero, List.set_cons_succ, i64_w, i32_w]
              rfl
            refine pure_ (i := 5) (N := some 50) (v := ?_) (a' := ?_) #[true, true, true, false, true, true, false, false, false, false, false, false, false] rfl rfl (by kernel_rfl) (fun _ _ _ h => h) (Or.inl ⟨by rfl, ?_⟩) ?_ ?_
            rotate_left
            · intro w'
              go_simp
              with_reducible rfl
            rotate_left
            · simp only [Act.put, List.setIfInBounds_toArray, List.set_cons_zero, List.set_cons_succ, i64_w, i32_w]
              rfl
            refine pure_ (i := 6) (N := some 51) (v := ?_) (a' := ?_) #[true, true, true, false, true, true, true, false, false, false, false, false, false] rfl rfl (by kernel_rfl) (fun _ _ _ h => h) (Or.inl ⟨by rfl, ?_⟩) ?_ ?_
            rotate_left
            · intro w'
              go_simp
              with_reducible rfl
            rotate_left
            · simp only [Act.put, List.setIfInBounds_toArray, List.set_cons_zero, List.set_cons_succ, i64_w, i32_w]
              rfl
            refine pure_ (i := 8) (N := some 53) (v := ?_) (a' := ?_) #[true, true, true, false, true, true, true, false, true, false, false, false, false] rfl rfl (by kernel_rfl) (fun _ _ _ h => h) (Or.inl ⟨by rfl, ?_⟩) ?_ ?_
            rotate_left
            · intro w'
              go_simp
              with_reducible rfl
            rotate_left
            · simp only [Act.put, List.setIfInBounds_toArray, List.set_cons_zero, List.set_cons_succ, i64_w, i32_w]
              rfl
            refine pure_ (i := 9) (N := some 2) (v := ?_) (a' := ?_) #[true, true, true, false, true, true, true, false, true, true, false, false, false] rfl rfl (by kernel_rfl) (fun _ _ _ h => h) (Or.inl ⟨by rfl, ?_⟩) ?_ ?_
            rotate_left
            · intro w'
              go_simp
              with_reducible rfl
            rotate_left
            · simp only [Act.put, List.setIfInBounds_toArray, List.set_cons_zero, List.set_cons_succ, i64_w, i32_w]
              rfl
            refine take_ (i := 3) (N := some 48) (v := ?_) (a' := ?_) #[true, true, true, true, true, true, true, false, true, true, false, false, false] rfl rfl (by kernel_rfl) (fun _ _ _ h => h) (Or.inl ⟨by rfl, ?_⟩) hHeld ?_ ?_
            rotate_left
            · rintro w' ⟨s0, s1⟩
              go_simp
              with_reducible rfl
            rotate_left
            · simp only [Act.put, List.setIfInBounds_toArray, List.set_cons_zero, List.set_cons_succ, i64_w, i32_w]
              rfl
            refine pure_ (i := 10) (N := some 3) (v := ?_) (a' := ?_) #[true, true, true, true, true, true, true, false, true, true, true, false, false] rfl rfl (by kernel_rfl) (fun _ _ _ h => h) (Or.inl ⟨by rfl, ?_⟩) ?_ ?_
            rotate_left
            · intro w'
              go_simp
              with_reducible rfl
            rotate_left
            · simp only [Act.put, List.setIfInBounds_toArray, List.set_cons_zero, List.set_cons_succ, i64_w, i32_w]
              rfl
            refine take_ (i := 7) (N := some 52) (v := ?_) (a' := ?_) #[true, true, true, true, true, true, true, true, true, true, true, false, false] rfl rfl (by kernel_rfl) (fun _ _ _ h => h) (Or.inl ⟨by rfl, ?_⟩) hHeld ?_ ?_
            rotate_left
            · rintro w' ⟨s0, s1⟩
              go_simp
              with_reducible rfl
            rotate_left
            · simp only [Act.put, List.setIfInBounds_toArray, List.set_cons_zero, List.set_cons_succ, i64_w, i32_w]
              rfl
            refine pure_ (i := 11) (N := some 4) (v := ?_) (a' := ?_) #[true, true, true, true, true, true, true, true, true, true, true, true, false] rfl rfl (by kernel_rfl) (fun _ _ _ h => h) (Or.inl ⟨by rfl, ?_⟩) ?_ ?_
            rotate_left
            · intro w'
              go_simp
              with_reducible rfl
            rotate_left
            · simp only [Act.put, List.setIfInBounds_toArray, List.set_cons_zero, List.set_cons_succ, i64_w, i32_w]
              rfl
            refine pure_ (i := 12) (N := some 5) (v := ?_) (a' := ?_) #[true, true, true, true, true, true, true, true, true, true, true, true, true] rfl rfl (by kernel_rfl) (fun _ _ _ h => h) (Or.inl ⟨by rfl, ?_⟩) ?_ ?_
            rotate_left
            · intro w'
              go_simp
              with_reducible rfl
            rotate_left
            · simp only [Act.put, List.setIfInBounds_toArray, List.set_cons_zero, List.set_cons_succ, i64_w, i32_w]
              rfl
            refine done_ (by kernel_rfl) ?_
            go_wp2_with fail
            rw [HX.out]
            refine bodyPost_ret (v := .tuple #[.slice none 0 0, .int .i64 l2, .int .i64 c2, .int .i64 er]) (by simp [results, Tryd.results12, go_sem]) rfl ⟨_, rfl, Kd.R_nil _ _ _ _ _, ?_⟩
            exact below_drew H4.out.rp.bl
theorem rwords_long (s : ByteArray) (w : World) (hs : ¬ s.size ≤ 65536) (hm : s.size ≤ 9223372036854775807) :
    Calls Tryd.prog 12 #[.string s] w (RFin w ([], 0, 0, 5)) := by
  have hz : 65536 < (s.size : Int) := by omega
  go_enter Tryd.func12, Tryd.ntmps12
  go_wp2_with fail
  refine bodyPost_ret (v := .tuple #[.slice none 0 0, .int .i64 0, .int .i64 0, .int .i64 5]) (by simp [results, Tryd.results12, go_sem]) rfl ⟨_, rfl, Kd.R_nil _ _ _ _ _, Below.refl _ _⟩
def rwordsF (s : ByteArray) : List SW × Int × Int × Int := if s.size ≤ 65536 then wordsR s (s.size + 2) 0 1 1 [] else ([], 0, 0, 5)
def drayageref04_Words.f (s : ByteArray) : Option (List SW × Int × Int × Int) := if s.size ≤ 9223372036854775807 then some (rwordsF s) else none
theorem drayageref04_Words.calls (a0 : ByteArray) (r1 : List SW) (r2 r3 r4 : Int) (w : World) (h : drayageref04_Words.f a0 = some (r1, r2, r3, r4)) (hT : Tb w) :
    Calls Tryd.prog 12 #[.string a0] w fun e w' => ∃ v0_ : Value, e = .returned (.tuple #[v0_, .int .i64 r2, .int .i64 r3, .int .i64 r4]) ∧ Kd.R k36 36 w' w.heap.size (fun _ => True) v0_ r1 ∧ Below w.heap.size w w' := by
  unfold drayageref04_Words.f rwordsF at h
  split at h
  · split at h
    · rename_i h2
      have h3 := Option.some.inj h
      have := rwords_calls a0 w h2 hT
      rw [h3] at this
      exact this
    · rename_i h1 h2
      cases h
      exact rwords_long a0 w h2 h1
  · cases h
end Go.Proofs.YtcpalnmodbbklaaDoor.P
