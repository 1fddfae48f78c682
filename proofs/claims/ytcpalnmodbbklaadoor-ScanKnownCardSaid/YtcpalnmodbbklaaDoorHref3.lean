import Derived.Test.YtcpalnmodbbklaaDoorHref2
import Derived.Outline
/- The reference's reader: names, numbers, strings. -/
namespace Go.Proofs.YtcpalnmodbbklaaDoor.P
set_option linter.unusedVariables false
set_option linter.unusedSimpArgs false
open Go.RowKit Go.Proofs.YtcpalnmodbbklaaDoorW.PrintWords Go.Proofs.YtcpalnmodbbklaaDoorW.PrintLast Go.Proofs.YtcpalnmodbbklaaDoorW.PrintMore

theorem rsmall_f (c : Int) : drayageref04_small.f c = some (smallB c) := by
  unfold drayageref04_small.f smallB
  by_cases h : 97 ≤ c
  · rw [if_pos h, decide_eq_true h]; simp
  · rw [if_neg h, decide_eq_false h]; simp
theorem rdigit_f (c : Int) : drayageref04_digit.f c = some (digitB c) := by
  unfold drayageref04_digit.f digitB
  by_cases h : 48 ≤ c
  · rw [if_pos h, decide_eq_true h]; simp
  · rw [if_neg h, decide_eq_false h]; simp
theorem rgoes1_f (c : Int) : drayageref04_goes.f c 1 = some (goB 1 c) := by
  unfold drayageref04_goes.f goB
  rw [rsmall_f, rdigit_f]
  cases smallB c <;> cases digitB c <;> simp
  rw [Bool.eq_iff_iff]; simp
theorem rgoes2_f (c : Int) : drayageref04_goes.f c 2 = some (goB 2 c) := by
  unfold drayageref04_goes.f goB
  rw [rsmall_f, rdigit_f]
  cases smallB c <;> cases digitB c <;> simp [greatB]
  by_cases h : 65 ≤ c
  · by_cases h2 : c ≤ 90
    · simp [h, h2]
    · by_cases h3 : c = 46
      · simp [h3]
      · simp [h, h2, h3]; rw [Bool.eq_iff_iff]; simp
  · by_cases h3 : c = 46
    · simp [h3]
    · simp [h, h3]; rw [Bool.eq_iff_iff]; simp
theorem rgoes_f (c : Int) (k : Nat) (hk : k = 1 ∨ k = 2) : drayageref04_goes.f c (k : Int) = some (goB k c) := by
  rcases hk with rfl | rfl
  · exact rgoes1_f c
  · exact rgoes2_f c
theorem rsign_f (c : Int) : drayageref04_sign.f c = some (signB c) := by
  unfold drayageref04_sign.f signB
  by_cases h1 : c = 123
  · simp [h1]
  by_cases h2 : c = 125
  · simp [h2]
  by_cases h3 : c = 58
  · simp [h3]
  by_cases h4 : c = 59
  · simp [h4]
  simp [h1, h2, h3, h4]
  rw [Bool.eq_iff_iff]; simp
def rendsB (c : Int) : Bool := decide (c < 0) || endsB c
theorem rends_f (c : Int) : drayageref04_ends.f c = some (rendsB c) := by
  unfold drayageref04_ends.f rendsB endsB blankB
  rw [rsign_f]
  by_cases h0 : c < 0
  · simp [h0]
  by_cases h1 : c = 32
  · simp [h1]
  by_cases h2 : c = 9
  · simp [h2]
  by_cases h3 : c = 10
  · simp [h3]
  by_cases h4 : c = 35
  · simp [h4]
  simp [h0, h1, h2, h3, h4]
def rescT (c : Int) : ByteArray := if c = 34 then ⟨#[34]⟩ else if c = 92 then ⟨#[92]⟩ else if c = 110 then ⟨#[10]⟩ else ⟨#[]⟩
theorem rescape_f (c : Int) : drayageref04_escape.f c = some (rescT c, escB c) := by
  unfold drayageref04_escape.f rescT escB
  by_cases h1 : c = 34
  · simp [h1]
  by_cases h2 : c = 92
  · simp [h2]
  by_cases h3 : c = 110
  · simp [h3]
  simp [h1, h2, h3]
/-- as far as a name, or a number, goes -/
def plainR (s : ByteArray) (kd : Nat) : Nat → Nat → Int → Int → Nat × Int × Int
  | 0, p, ln, cl => (p, ln, cl)
  | k + 1, p, ln, cl => if goB kd (rcv s p) = true then plainR s kd k (p + wdt s p) (lnv s p ln) (clv s p cl) else (p, ln, cl)
theorem goB_neg (kd : Nat) : goB kd (-1) = false := by
  unfold goB smallB digitB greatB
  simp
def PlPost (w0 W : World) (g : Nat) (s : ByteArray) (p0 : Nat) (r : Nat × Int × Int) (e : Ending) (W' : World) : Prop :=
  e = .returned (.tuple #[.string (s.extract p0 r.1), .bool (rendsB (rcv s r.1))]) ∧ RP w0 W' g s r.1 r.2.1 r.2.2 ∧ p0 ≤ r.1 ∧ Oth g W W'
set_option maxRecDepth 100000 in
set_option maxHeartbeats 6400000 in
theorem plain_calls (w0 W : World) (g : Nat) (s : ByteArray) (p0 : Nat) (ln cl : Int) (kd : Nat) (hkd : kd = 1 ∨ kd = 2) (K : Nat) (hK : s.size - p0 < K) (H : RP w0 W g s p0 ln cl) :
    Calls Tryd.prog 50 #[.pointer (some ⟨g, 0, none⟩), .int .i64 (kd : Int)] W (PlPost w0 W g s p0 (plainR s kd K p0 ln cl)) := by
  have HKD := Aside0.mk hkd
  have HK := Aside0.mk hK
  obtain ⟨RES, hRES⟩ : ∃ r, plainR s kd K p0 ln cl = r := ⟨_, rfl⟩
  rw [hRES]
  have HR := Aside0.mk hRES
  have d1 : W.cell? ⟨g, 1, none⟩ = some (.int .i64 (p0 : Int)) := (blk_cell H.rb 1).trans rfl
  have HH := Aside0.mk H
  clear H hK hRES hkd
  go_enter Tryd.func50, Tryd.ntmps50
  go_wp2_with fail
  refine (rune_at HH.out).mono ?_
  rintro e W1 ⟨rfl, hb⟩
  have H1 := Aside0.mk (HH.out.below hb)
  have O1 := Aside0.mk ((Oth.refl g W).below hb)
  clear hb HH d1
  go_wp2_with fail
  go_loopg [7] K (fun gk t7 wx => ∃ p ln cl, t7 = .int .i64 (rcv s p) ∧ p0 ≤ p ∧ Aside0 (RP w0 wx g s p ln cl) ∧ Aside0 (Oth g W wx) ∧ Aside0 (s.size - p < gk) ∧ Aside0 (plainR s kd gk p ln cl = RES))
  case atStart => exact ⟨p0, ln, cl, rfl, Nat.le_refl _, H1, O1, HK, HR⟩
  case round =>
    clear H1 O1 HK HR
    obtain ⟨p, ln, cl, rfl, hpp, HH, HO, HK, HR⟩ := hrel
    cases gk with
    | zero => exact absurd HK.out (by omega)
    | succ k =>
      have HEQ : Aside0 (plainR s kd (k + 1) p ln cl = if goB kd (rcv s p) = true then plainR s kd k (p + wdt s p) (lnv s p ln) (clv s p cl) else (p, ln, cl)) := ⟨rfl⟩
      have HG := Aside0.mk (rgoes_f (rcv s p) kd HKD.out)
      cases hgo : goB kd (rcv s p) with
      | true =>
        have HP : Aside0 (p < s.size) := ⟨by
          refine rcv_lt ?_
          have h1 := rcv_le s p
          rcases Int.lt_or_le (rcv s p) 0 with h | h
          · have : rcv s p = -1 := by omega
            rw [this, goB_neg] at hgo
            cases hgo
          · exact h⟩
        have HY : Aside0 (plainR s kd k (p + wdt s p) (lnv s p ln) (clv s p cl) = RES) := ⟨by rw [← HR.out, HEQ.out, if_pos hgo]⟩
        have HG2 : Aside0 (drayageref04_goes.f (rcv s p) (kd : Int) = some true) := ⟨by rw [HG.out, hgo]⟩
        have HWD := Aside0.mk (decode_range0 s p HP.out)
        clear HG HEQ hgo
        go_wp2_with fail
        refine (drayageref04_goes.calls _ _ _ _ HG2.out).mono ?_
        rintro e W2 ⟨rfl, hd⟩
        have H2 := Aside0.mk (HH.out.below hd.below)
        have O2 := Aside0.mk (HO.out.below hd.below)
        clear hd
        go_wp2_with fail
        refine (on_at H2.out HP.out).mono ?_
        rintro e W3 ⟨rfl, h3, o3⟩
        have H3 := Aside0.mk h3
        have O3 := Aside0.mk (O2.out.trans o3)
        clear h3 o3
        go_wp2_with fail
        refine (rune_at H3.out).mono ?_
        rintro e W4 ⟨rfl, hb⟩
        have H4 := Aside0.mk (H3.out.below hb)
        have O4 := Aside0.mk (O3.out.below hb)
        clear hb
        go_wp2_with fail
        go_roundg k
        case rel => exact ⟨_, _, _, rfl, Nat.le_trans hpp (Nat.le_add_right _ _), H4, O4, ⟨by have := HWD.out.2; have := HK.out; unfold wdt; omega⟩, HY⟩
        case measure => omega
      | false =>
        have HY : Aside0 ((p, ln, cl) = RES) := ⟨by rw [← HR.out, HEQ.out, hgo, if_neg (by simp)]⟩
        have HG2 : Aside0 (drayageref04_goes.f (rcv s p) (kd : Int) = some false) := ⟨by rw [HG.out, hgo]⟩
        have HN := Aside0.mk (rends_f (rcv s p))
        clear HG HEQ hgo
        go_wp2_with fail
        refine (drayageref04_goes.calls _ _ _ _ HG2.out).mono ?_
        rintro e W2 ⟨rfl, hd⟩
        have H2 := Aside0.mk (HH.out.below hd.below)
        have O2 := Aside0.mk (HO.out.below hd.below)
        clear hd
        have hpz := H2.out.pz
        have hz := H2.out.z
        have r0 : W2.cell? ⟨g, 0, none⟩ = some (.string s) := (blk_cell H2.out.rb 0).trans rfl
        have r1 : W2.cell? ⟨g, 1, none⟩ = some (.int .i64 (p : Int)) := (blk_cell H2.out.rb 1).trans rfl
        have a0 : (0 : Int) ≤ (p0 : Int) := by omega
        have a1 : (p0 : Int) ≤ (p : Int) := by omega
        have a2 : (p : Int) ≤ (s.size : Int) := by omega
        go_wp2_with fail
        refine start_ (n := 14) (S := fun w' => w'.cell? ⟨g, 0, none⟩ = some (.string s) ∧ w'.cell? ⟨g, 1, none⟩ = some (.int .i64 (p : Int))) (ds := []) #[false, false, false, false, false, false, false, false, false, false, false, false, false, false] (by kernel_rfl) rfl rfl ⟨r0, r1⟩ (fun hHeld => ?_)
        refine pure_ (i := 0) (N := some 28) (v := ?_) (a' := ?_) #[true, false, false, false, false, false, false, false, false, false, false, false, false, false] rfl rfl (by kernel_rfl) (fun _ _ _ h => h) (Or.inl ⟨by rfl, ?_⟩) ?_ ?_
        rotate_left
        · intro w'
          go_simp
          with_reducible rfl
        rotate_left
        · simp only [Act.put, List.setIfInBounds_toArray, List.set_cons_zero, List.set_cons_succ, i64_w, i32_w]
          rfl
        refine pure_ (i := 1) (N := some 29) (v := ?_) (a' := ?_) #[true, true, false, false, false, false, false, false, false, false, false, false, false, false] rfl rfl (by kernel_rfl) (fun _ _ _ h => h) (Or.inl ⟨by rfl, ?_⟩) ?_ ?_
        rotate_left
        · intro w'
          go_simp
          with_reducible rfl
        rotate_left
        · simp only [Act.put, List.setIfInBounds_toArray, List.set_cons_zero, List.set_cons_succ, i64_w, i32_w]
          rfl
        refine pure_ (i := 2) (N := some 30) (v := ?_) (a' := ?_) #[true, true, true, false, false, false, false, false, false, false, false, false, false, false] rfl rfl (by kernel_rfl) (fun _ _ _ h => h) (Or.inl ⟨by rfl, ?_⟩) ?_ ?_
        rotate_left
        · intro w'
          go_simp
          with_reducible rfl
        rotate_left
        · simp only [Act.put, List.setIfInBounds_toArray, List.set_cons_zero, List.set_cons_succ, i64_w, i32_w]
          rfl
        refine pure_ (i := 4) (N := some 32) (v := ?_) (a' := ?_) #[true, true, true, false, true, false, false, false, false, false, false, false, false, false] rfl rfl (by kernel_rfl) (fun _ _ _ h => h) (Or.inl ⟨by rfl, ?_⟩) ?_ ?_
        rotate_left
        · intro w'
          go_simp
          with_reducible rfl
        rotate_left
        · simp only [Act.put, List.setIfInBounds_toArray, List.set_cons_zero, List.set_cons_succ, i64_w, i32_w]
          rfl
        refine pure_ (i := 5) (N := some 33) (v := ?_) (a' := ?_) #[true, true, true, false, true, true, false, false, false, false, false, false, false, false] rfl rfl (by kernel_rfl) (fun _ _ _ h => h) (Or.inl ⟨by rfl, ?_⟩) ?_ ?_
        rotate_left
        · intro w'
          go_simp
          with_reducible rfl
        rotate_left
        · simp only [Act.put, List.setIfInBounds_toArray, List.set_cons_zero, List.set_cons_succ, i64_w, i32_w]
          rfl
        refine pure_ (i := 6) (N := some 34) (v := ?_) (a' := ?_) #[true, true, true, false, true, true, true, false, false, false, false, false, false, false] rfl rfl (by kernel_rfl) (fun _ _ _ h => h) (Or.inl ⟨by rfl, ?_⟩) ?_ ?_
        rotate_left
        · intro w'
          go_simp
          with_reducible rfl
        rotate_left
        · simp only [Act.put, List.setIfInBounds_toArray, List.set_cons_zero, List.set_cons_succ, i64_w, i32_w]
          rfl
        refine pure_ (i := 7) (N := some 35) (v := ?_) (a' := ?_) #[true, true, true, false, true, true, true, true, false, false, false, false, false, false] rfl rfl (by kernel_rfl) (fun _ _ _ h => h) (Or.inl ⟨by rfl, ?_⟩) ?_ ?_
        rotate_left
        · intro w'
          go_simp
          with_reducible rfl
        rotate_left
        · simp only [Act.put, List.setIfInBounds_toArray, List.set_cons_zero, List.set_cons_succ, i64_w, i32_w]
          rfl
        refine pure_ (i := 10) (N := some 38) (v := ?_) (a' := ?_) #[true, true, true, false, true, true, true, true, false, false, true, false, false, false] rfl rfl (by kernel_rfl) (fun _ _ _ h => h) (Or.inl ⟨by rfl, ?_⟩) ?_ ?_
        rotate_left
        · intro w'
          go_simp
          with_reducible rfl
        rotate_left
        · simp only [Act.put, List.setIfInBounds_toArray, List.set_cons_zero, List.set_cons_succ, i64_w, i32_w]
          rfl
        refine take_ (i := 3) (N := some 31) (v := ?_) (a' := ?_) #[true, true, true, true, true, true, true, true, false, false, true, false, false, false] rfl rfl (by kernel_rfl) (fun _ _ _ h => h) (Or.inl ⟨by rfl, ?_⟩) hHeld ?_ ?_
        rotate_left
        · rintro w' ⟨s0, s1⟩
          go_simp
          with_reducible rfl
        rotate_left
        · simp only [Act.put, List.setIfInBounds_toArray, List.set_cons_zero, List.set_cons_succ, i64_w, i32_w]
          rfl
        refine take_ (i := 8) (N := some 36) (v := ?_) (a' := ?_) #[true, true, true, true, true, true, true, true, true, false, true, false, false, false] rfl rfl (by kernel_rfl) (fun _ _ _ h => h) (Or.inl ⟨by rfl, ?_⟩) hHeld ?_ ?_
        rotate_left
        · rintro w' ⟨s0, s1⟩
          go_simp
          with_reducible rfl
        rotate_left
        · simp only [Act.put, List.setIfInBounds_toArray, List.set_cons_zero, List.set_cons_succ, i64_w, i32_w]
          rfl
        refine pure_ (i := 9) (N := some 37) (v := ?_) (a' := ?_) #[true, true, true, true, true, true, true, true, true, true, true, false, false, false] rfl rfl (by kernel_rfl) (fun _ _ _ h => h) (Or.inl ⟨by rfl, ?_⟩) ?_ ?_
        rotate_left
        · intro w'
          go_simp
          with_reducible rfl
        rotate_left
        · simp only [Act.put, List.setIfInBounds_toArray, List.set_cons_zero, List.set_cons_succ, i64_w, i32_w]
          rfl
        refine one_ (i := 11) (N := some 39) #[true, true, true, true, true, true, true, true, true, true, true, true, false, false] rfl rfl (by kernel_rfl) (by decide) (fun K hK => ?_)
        refine goes_ Tryd.func64 (by kernel_rfl) rfl #[.int .i64 (rcv s p)] (by rfl) rfl rfl (by simp only [List.map_toArray, List.map_cons, List.map_nil]; rfl) ?_
        with_reducible refine (drayageref04_ends.calls _ _ _ HN.out).mono ?_
        rintro e W3_ ⟨rfl, hd⟩
        refine ⟨_, rfl, ?_⟩
        have hb := hd.below
        have HB1 := Aside0.mk hb
        refine hK.out _ _ ⟨(pw_cell_below hb r0), (pw_cell_below hb r1)⟩ (fun hHeld => ?_)
        clear hK K
        refine norm_ (a' := ?_) ?_ ?_
        rotate_left
        · show Act.put _ (some 39) _ = _
          simp only [Act.put, List.setIfInBounds_toArray, List.set_cons_zero, List.set_cons_succ, i64_w, i32_w]
          rfl
        refine pure_ (i := 12) (N := some 4) (v := ?_) (a' := ?_) #[true, true, true, true, true, true, true, true, true, true, true, true, true, false] rfl rfl (by kernel_rfl) (fun _ _ _ h => h) (Or.inl ⟨by rfl, ?_⟩) ?_ ?_
        rotate_left
        · intro w'
          go_simp
          with_reducible rfl
        rotate_left
        · simp only [Act.put, List.setIfInBounds_toArray, List.set_cons_zero, List.set_cons_succ, i64_w, i32_w]
          rfl
        refine pure_ (i := 13) (N := some 5) (v := ?_) (a' := ?_) #[true, true, true, true, true, true, true, true, true, true, true, true, true, true] rfl rfl (by kernel_rfl) (fun _ _ _ h => h) (Or.inl ⟨by rfl, ?_⟩) ?_ ?_
        rotate_left
        · intro w'
          go_simp
          with_reducible rfl
        rotate_left
        · simp only [Act.put, List.setIfInBounds_toArray, List.set_cons_zero, List.set_cons_succ, i64_w, i32_w]
          rfl
        refine done_ (by kernel_rfl) ?_
        have H3 := Aside0.mk (H2.out.below (below_then (below_drew (Below.refl _ _)) (Nat.le_refl _) HB1.out))
        have O3 := Aside0.mk (O2.out.below (below_then (below_drew (Below.refl _ _)) (Nat.le_refl _) HB1.out))
        clear HB1 r0 r1 hHeld
        go_wp2_with fail
        rw [← HY.out]
        go_ret2
        exact ⟨rfl, H3.out, hpp, O3.out⟩
end Go.Proofs.YtcpalnmodbbklaaDoor.P
