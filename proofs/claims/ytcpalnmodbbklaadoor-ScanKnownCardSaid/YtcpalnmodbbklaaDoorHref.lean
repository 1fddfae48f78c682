import Derived.Test.YtcpalnmodbbklaaDoorHquote
import Derived.Test.YtcpalnmodbbklaaDoorPf63
import Derived.Test.YtcpalnmodbbklaaDoorPf64
import Derived.Test.YtcpalnmodbbklaaDoorPf62
import Derived.Test.YtcpalnmodbbklaaDoorPf48
import Derived.Outline
/- The reference's reader: its state, and contracts of its parts. -/
namespace Go.Proofs.YtcpalnmodbbklaaDoor.P
set_option linter.unusedVariables false
set_option linter.unusedSimpArgs false
open Go.RowKit Go.Proofs.YtcpalnmodbbklaaDoorW.PrintWords Go.Proofs.YtcpalnmodbbklaaDoorW.PrintLast Go.Proofs.YtcpalnmodbbklaaDoorW.PrintMore

/-- all blocks but one stand -/
def Oth (g : Nat) (W W' : World) : Prop := W.heap.size ≤ W'.heap.size ∧ ∀ k, k < W.heap.size → k ≠ g → W'.heap[k]? = W.heap[k]?
theorem Oth.refl (g : Nat) (W : World) : Oth g W W := ⟨Nat.le_refl _, fun _ _ _ => rfl⟩
theorem Oth.trans {g : Nat} {A B C : World} (h : Oth g A B) (k : Oth g B C) : Oth g A C := ⟨Nat.le_trans h.1 k.1, fun i hi hg => (k.2 i (Nat.lt_of_lt_of_le hi h.1) hg).trans (h.2 i hi hg)⟩
theorem Oth.below {g : Nat} {A B C : World} (h : Oth g A B) (hb : Below B.heap.size B C) : Oth g A C := h.trans ⟨hb.size, fun k hk _ => hb.block k hk⟩
theorem Oth.set {g : Nat} {A B : World} (h : Oth g A B) (i : Nat) (v : Value) : Oth g A (B.setCell ⟨g, i, none⟩ v) := h.trans ⟨by simp, fun k _ hk => Below.heap_setCell B ⟨g, i, none⟩ v k hk⟩
/-- the reference's reader stands at a byte -/
structure RR (w0 W : World) (g : Nat) (s : ByteArray) (p : Nat) (ln cl : Int) : Prop where
  rb : W.heap[g]? = some (.cells #[.string s, .int .i64 (p : Int), .int .i64 ln, .int .i64 cl] 56 (0, 0))
  bl : Below w0.heap.size w0 W
  hg : w0.heap.size ≤ g
  tb : Tb w0
section
variable {w0 W W' : World} {g : Nat} {s : ByteArray} {p : Nat} {ln cl : Int}
theorem RR.below (h : RR w0 W g s p ln cl) (hb : Below W.heap.size W W') : RR w0 W' g s p ln cl := ⟨(hb.block g (blk_lt h.rb)).trans h.rb, below_then h.bl h.bl.size hb, h.hg, h.tb⟩
theorem RR.tabs (h : RR w0 W g s p ln cl) : Tb W := h.tb.up h.bl
theorem RR.drew (h : RR w0 W g s p ln cl) : RR w0 W.drew g s p ln cl := h.below (below_drew (Below.refl _ _))
theorem RR.lt (h : RR w0 W g s p ln cl) : g < W.heap.size := blk_lt h.rb
end
/-- the rune at a byte; -1: there is none -/
def rcv (s : ByteArray) (p : Nat) : Int := if p < s.size then ((Utf8.decode s p).1 : Int) else -1
def rbv (s : ByteArray) (p : Nat) : Bool := if p < s.size then !oddB s p else true
def wdt (s : ByteArray) (p : Nat) : Nat := (Utf8.decode s p).2
theorem rcv_in {s : ByteArray} {p : Nat} (h : p < s.size) : rcv s p = ((Utf8.decode s p).1 : Int) := if_pos h
theorem decode_range0 (s : ByteArray) (p : Nat) (h : p < s.size) : (Utf8.decode s p).1 ≤ 1114111 ∧ 1 ≤ (Utf8.decode s p).2 ∧ p + (Utf8.decode s p).2 ≤ s.size := ⟨(decode_range s p).1, (decode_range s p).2.1, decode_in s p h⟩
theorem rcv_le (s : ByteArray) (p : Nat) : -1 ≤ rcv s p ∧ rcv s p ≤ 1114111 := by
  have := (decode_range s p).1
  unfold rcv
  split <;> omega
set_option maxRecDepth 100000 in
set_option maxHeartbeats 3200000 in
theorem rune_calls (w0 W : World) (g : Nat) (s : ByteArray) (p : Nat) (ln cl : Int) (hp : p ≤ s.size) (hs : s.size ≤ 17592186044416) (H : RR w0 W g s p ln cl) :
    Calls Tryd.prog 25 #[.pointer (some ⟨g, 0, none⟩)] W fun e W' => e = .returned (.tuple #[.int .i64 (rcv s p), .bool (rbv s p)]) ∧ Below W.heap.size W W' := by
  have r0 : W.cell? ⟨g, 0, none⟩ = some (.string s) := (blk_cell H.rb 0).trans rfl
  have r1 : W.cell? ⟨g, 1, none⟩ = some (.int .i64 (p : Int)) := (blk_cell H.rb 1).trans rfl
  have hz : (s.size : Int) ≤ 9223372036854775807 := by omega
  have HTB := Aside0.mk (H.tabs)
  by_cases hlt : p < s.size
  · have hd : decide (s.size ≤ p) = false := decide_eq_false (by omega)
    have HR := decode_range s p
    have HE : Aside0 (rcv s p = ((Utf8.decode s p).1 : Int) ∧ rbv s p = !oddB s p) := ⟨if_pos hlt, if_pos hlt⟩
    have HO : Aside0 (oddB s p = (decide ((Utf8.decode s p).1 = 65533) && decide ((Utf8.decode s p).2 = 1))) := ⟨rfl⟩
    have HL := Aside0.mk hlt
    have hp0 : (0 : Int) ≤ (p : Int) := by omega
    have hp1 : (p : Int) ≤ (s.size : Int) := by omega
    have hdc := Aside0.mk (fun w => dec_calls s p hlt w)
    obtain ⟨c, hc⟩ : ∃ c : Nat, (Utf8.decode s p).1 = c := ⟨_, rfl⟩
    obtain ⟨n, hn⟩ : ∃ n : Nat, (Utf8.decode s p).2 = n := ⟨_, rfl⟩
    rw [hc, hn] at HR HO
    rw [hc] at HE
    have hdc2 : Aside0 (∀ w, Tb w → Calls Tryd.prog 45 #[.string (s.extract p s.size)] w fun e w' => e = .returned (.tuple #[.int .i32 (c : Int), .int .i64 (n : Int)]) ∧ Below w.heap.size w w') := ⟨fun w h => by have := hdc.out w h; rw [hc, hn] at this; exact this⟩
    clear hdc hc hn
    obtain ⟨hr1, hr2, hr3⟩ := HR
    clear hlt
    go_enter Tryd.func25, Tryd.ntmps25
    go_wp2_with fail
    go_quiet (fail)
    have H1 := Aside0.mk (H.below (pw_below_drewN (Below.refl _ _) nq))
    have B1 := Aside0.mk (pw_below_drewN (Below.refl W.heap.size W) nq)
    clear r0 r1 H HTB
    generalize W.drewN nq = W1 at *
    have r0 : W1.cell? ⟨g, 0, none⟩ = some (.string s) := (blk_cell H1.out.rb 0).trans rfl
    have r1 : W1.cell? ⟨g, 1, none⟩ = some (.int .i64 (p : Int)) := (blk_cell H1.out.rb 1).trans rfl
    have HTB := Aside0.mk (H1.out.drew.tabs)
    go_wp2_with fail
    refine start_ (n := 15) (S := fun w' => w'.cell? ⟨g, 0, none⟩ = some (.string s) ∧ w'.cell? ⟨g, 1, none⟩ = some (.int .i64 (p : Int))) (ds := []) #[false, false, false, false, false, false, false, false, false, false, false, false, false, false, false] (by kernel_rfl) rfl rfl ⟨r0, r1⟩ (fun hHeld => ?_)
    refine pure_ (i := 0) (N := some 17) (v := ?_) (a' := ?_) #[true, false, false, false, false, false, false, false, false, false, false, false, false, false, false] rfl rfl (by kernel_rfl) (fun _ _ _ h => h) (Or.inl ⟨by rfl, ?_⟩) ?_ ?_
    rotate_left
    · intro w'
      go_simp
      with_reducible rfl
    rotate_left
    · simp only [Act.put, List.setIfInBounds_toArray, List.set_cons_zero, List.set_cons_succ, i64_w, i32_w]
      rfl
    refine pure_ (i := 1) (N := some 18) (v := ?_) (a' := ?_) #[true, true, false, false, false, false, false, false, false, false, false, false, false, false, false] rfl rfl (by kernel_rfl) (fun _ _ _ h => h) (Or.inl ⟨by rfl, ?_⟩) ?_ ?_
    rotate_left
    · intro w'
      go_simp
      with_reducible rfl
    rotate_left
    · simp only [Act.put, List.setIfInBounds_toArray, List.set_cons_zero, List.set_cons_succ, i64_w, i32_w]
      rfl
    refine pure_ (i := 2) (N := some 19) (v := ?_) (a' := ?_) #[true, true, true, false, false, false, false, false, false, false, false, false, false, false, false] rfl rfl (by kernel_rfl) (fun _ _ _ h => h) (Or.inl ⟨by rfl, ?_⟩) ?_ ?_
    rotate_left
    · intro w'
      go_simp
      with_reducible rfl
    rotate_left
    · simp only [Act.put, List.setIfInBounds_toArray, List.set_cons_zero, List.set_cons_succ, i64_w, i32_w]
      rfl
    refine pure_ (i := 4) (N := some 21) (v := ?_) (a' := ?_) #[true, true, true, false, true, false, false, false, false, false, false, false, false, false, false] rfl rfl (by kernel_rfl) (fun _ _ _ h => h) (Or.inl ⟨by rfl, ?_⟩) ?_ ?_
    rotate_left
    · intro w'
      go_simp
      with_reducible rfl
    rotate_left
    · simp only [Act.put, List.setIfInBounds_toArray, List.set_cons_zero, List.set_cons_succ, i64_w, i32_w]
      rfl
    refine pure_ (i := 5) (N := some 22) (v := ?_) (a' := ?_) #[true, true, true, false, true, true, false, false, false, false, false, false, false, false, false] rfl rfl (by kernel_rfl) (fun _ _ _ h => h) (Or.inl ⟨by rfl, ?_⟩) ?_ ?_
    rotate_left
    · intro w'
      go_simp
      with_reducible rfl
    rotate_left
    · simp only [Act.put, List.setIfInBounds_toArray, List.set_cons_zero, List.set_cons_succ, i64_w, i32_w]
      rfl
    refine pure_ (i := 6) (N := some 23) (v := ?_) (a' := ?_) #[true, true, true, false, true, true, true, false, false, false, false, false, false, false, false] rfl rfl (by kernel_rfl) (fun _ _ _ h => h) (Or.inl ⟨by rfl, ?_⟩) ?_ ?_
    rotate_left
    · intro w'
      go_simp
      with_reducible rfl
    rotate_left
    · simp only [Act.put, List.setIfInBounds_toArray, List.set_cons_zero, List.set_cons_succ, i64_w, i32_w]
      rfl
    refine take_ (i := 3) (N := some 20) (v := ?_) (a' := ?_) #[true, true, true, true, true, true, true, false, false, false, false, false, false, false, false] rfl rfl (by kernel_rfl) (fun _ _ _ h => h) (Or.inl ⟨by rfl, ?_⟩) hHeld ?_ ?_
    rotate_left
    · rintro w' ⟨s0, s1⟩
      go_simp
      with_reducible rfl
    rotate_left
    · simp only [Act.put, List.setIfInBounds_toArray, List.set_cons_zero, List.set_cons_succ, i64_w, i32_w]
      rfl
    refine take_ (i := 7) (N := some 24) (v := ?_) (a' := ?_) #[true, true, true, true, true, true, true, true, false, false, false, false, false, false, false] rfl rfl (by kernel_rfl) (fun _ _ _ h => h) (Or.inl ⟨by rfl, ?_⟩) hHeld ?_ ?_
    rotate_left
    · rintro w' ⟨s0, s1⟩
      go_simp
      with_reducible rfl
    rotate_left
    · simp only [Act.put, List.setIfInBounds_toArray, List.set_cons_zero, List.set_cons_succ, i64_w, i32_w]
      rfl
    refine pure_ (i := 8) (N := some 25) (v := ?_) (a' := ?_) #[true, true, true, true, true, true, true, true, true, false, false, false, false, false, false] rfl rfl (by kernel_rfl) (fun _ _ _ h => h) (Or.inl ⟨by rfl, ?_⟩) ?_ ?_
    rotate_left
    · intro w'
      go_simp
      with_reducible rfl
    rotate_left
    · simp only [Act.put, List.setIfInBounds_toArray, List.set_cons_zero, List.set_cons_succ, i64_w, i32_w]
      rfl
    refine one_ (i := 9) (N := some 26) #[true, true, true, true, true, true, true, true, true, true, false, false, false, false, false] rfl rfl (by kernel_rfl) (by decide) (fun K hK => ?_)
    refine goes_ Tryd.func45 (by kernel_rfl) rfl #[.string (s.extract p s.size)] (by rfl) rfl rfl (by simp only [List.map_toArray, List.map_cons, List.map_nil]; rfl) ?_
    with_reducible refine (hdc2.out _ HTB.out).mono ?_
    rintro e W1_ ⟨rfl, hb⟩
    refine ⟨_, rfl, ?_⟩
    have HB1 := Aside0.mk hb
    refine hK.out _ _ ⟨(pw_cell_below hb r0), (pw_cell_below hb r1)⟩ (fun hHeld => ?_)
    clear hK K
    refine norm_ (a' := ?_) ?_ ?_
    rotate_left
    · show Act.put _ (some 26) _ = _
      simp only [Act.put, List.setIfInBounds_toArray, List.set_cons_zero, List.set_cons_succ, i64_w, i32_w]
      rfl
    refine pure_ (i := 10) (N := some 16) (v := ?_) (a' := ?_) #[true, true, true, true, true, true, true, true, true, true, true, false, false, false, false] rfl rfl (by kernel_rfl) (fun _ _ _ h => h) (Or.inl ⟨by rfl, ?_⟩) ?_ ?_
    rotate_left
    · intro w'
      go_simp
      with_reducible rfl
    rotate_left
    · simp only [Act.put, List.setIfInBounds_toArray, List.set_cons_zero, List.set_cons_succ, i64_w, i32_w]
      rfl
    refine pure_ (i := 11) (N := some 27) (v := ?_) (a' := ?_) #[true, true, true, true, true, true, true, true, true, true, true, true, false, false, false] rfl rfl (by kernel_rfl) (fun _ _ _ h => h) (Or.inl ⟨by rfl, ?_⟩) ?_ ?_
    rotate_left
    · intro w'
      go_simp
      with_reducible rfl
    rotate_left
    · simp only [Act.put, List.setIfInBounds_toArray, List.set_cons_zero, List.set_cons_succ, i64_w, i32_w]
      rfl
    refine pure_ (i := 12) (N := some 28) (v := ?_) (a' := ?_) #[true, true, true, true, true, true, true, true, true, true, true, true, true, false, false] rfl rfl (by kernel_rfl) (fun _ _ _ h => h) (Or.inl ⟨by rfl, ?_⟩) ?_ ?_
    rotate_left
    · intro w'
      go_simp
      with_reducible rfl
    rotate_left
    · simp only [Act.put, List.setIfInBounds_toArray, List.set_cons_zero, List.set_cons_succ, i64_w, i32_w]
      rfl
    refine pure_ (i := 13) (N := some 4) (v := ?_) (a' := ?_) #[true, true, true, true, true, true, true, true, true, true, true, true, true, true, false] rfl rfl (by kernel_rfl) (fun _ _ _ h => h) (Or.inl ⟨by rfl, ?_⟩) ?_ ?_
    rotate_left
    · intro w'
      go_simp
      with_reducible rfl
    rotate_left
    · simp only [Act.put, List.setIfInBounds_toArray, List.set_cons_zero, List.set_cons_succ, i64_w, i32_w]
      rfl
    refine pure_ (i := 14) (N := some 5) (v := ?_) (a' := ?_) #[true, true, true, true, true, true, true, true, true, true, true, true, true, true, true] rfl rfl (by kernel_rfl) (fun _ _ _ h => h) (Or.inl ⟨by rfl, ?_⟩) ?_ ?_
    rotate_left
    · intro w'
      go_simp
      with_reducible rfl
    rotate_left
    · simp only [Act.put, List.setIfInBounds_toArray, List.set_cons_zero, List.set_cons_succ, i64_w, i32_w]
      rfl
    refine done_ (by kernel_rfl) ?_
    have B2 := Aside0.mk (below_then B1.out B1.out.size (below_then (below_drew (Below.refl _ _)) (Nat.le_refl _) HB1.out))
    clear HB1 r0 r1 HTB hHeld H1 B1
    by_cases h65 : c = 65533
    · have q1 : ((c : Int) != 65533) = false := by simp [h65]
      by_cases hn : n = 1
      · have HX : Aside0 (false = rbv s p) := ⟨by rw [HE.out.2, HO.out, decide_eq_true h65, decide_eq_true hn]; rfl⟩
        have q2 : decide (1 < n) = false := decide_eq_false (by omega)
        have q3 : decide ((1 : Int) < (n : Int)) = false := decide_eq_false (by omega)
        clear HO hn h65
        go_wp2_with fail
        rw [HE.out.1, ← HX.out]
        go_ret2
        exact ⟨rfl, B2.out⟩
      · have HX : Aside0 (true = rbv s p) := ⟨by rw [HE.out.2, HO.out, decide_eq_true h65, decide_eq_false hn]; rfl⟩
        have q2 : decide (1 < n) = true := decide_eq_true (by omega)
        have q3 : decide ((1 : Int) < (n : Int)) = true := decide_eq_true (by omega)
        clear HO hn h65
        go_wp2_with fail
        rw [HE.out.1, ← HX.out]
        go_ret2
        exact ⟨rfl, B2.out⟩
    · have q1 : ((c : Int) != 65533) = true := by rw [bne_iff_ne]; omega
      have HX : Aside0 (true = rbv s p) := ⟨by rw [HE.out.2, HO.out, decide_eq_false h65]; rfl⟩
      clear HO
      go_wp2_with fail
      rw [HE.out.1, ← HX.out]
      go_ret2
      exact ⟨rfl, B2.out⟩
  · have hd : decide (s.size ≤ p) = true := decide_eq_true (by omega)
    have HE : Aside0 (rcv s p = -1 ∧ rbv s p = true) := ⟨if_neg hlt, if_neg hlt⟩
    clear hlt
    go_enter Tryd.func25, Tryd.ntmps25
    go_wp2_with fail
    go_quiet (fail)
    have B1 := Aside0.mk (pw_below_drewN (Below.refl W.heap.size W) nq)
    go_wp2_with fail
    rw [HE.out.1, HE.out.2]
    go_ret2
    exact ⟨rfl, B1.out⟩
/-- the place behind a rune -/
def lnv (s : ByteArray) (p : Nat) (ln : Int) : Int := if (Utf8.decode s p).1 = 10 then ln + 1 else ln
def clv (s : ByteArray) (p : Nat) (cl : Int) : Int := if (Utf8.decode s p).1 = 10 then 1 else cl + 1
set_option maxRecDepth 100000 in
set_option maxHeartbeats 3200000 in
theorem on_calls (w0 W : World) (g : Nat) (s : ByteArray) (p : Nat) (ln cl : Int) (hlt : p < s.size) (hs : s.size ≤ 17592186044416) (hl : 0 ≤ ln ∧ ln ≤ 17592186044416) (hc : 0 ≤ cl ∧ cl ≤ 17592186044416) (H : RR w0 W g s p ln cl) :
    Calls Tryd.prog 30 #[.pointer (some ⟨g, 0, none⟩)] W fun e W' => e = .returned (.tuple #[]) ∧ RR w0 W' g s (p + wdt s p) (lnv s p ln) (clv s p cl) ∧ Oth g W W' := by
  have r0 : W.cell? ⟨g, 0, none⟩ = some (.string s) := (blk_cell H.rb 0).trans rfl
  have r1 : W.cell? ⟨g, 1, none⟩ = some (.int .i64 (p : Int)) := (blk_cell H.rb 1).trans rfl
  have HTB := Aside0.mk (H.drew.tabs)
  have HR := decode_range0 s p hlt
  obtain ⟨hl0, hl1⟩ := hl
  obtain ⟨hc0, hc1⟩ := hc
  have HG := H.hg
  have hp0 : (0 : Int) ≤ (p : Int) := by omega
  have hp1 : (p : Int) ≤ (s.size : Int) := by omega
  have HE : Aside0 (wdt s p = (Utf8.decode s p).2 ∧ lnv s p ln = (if (Utf8.decode s p).1 = 10 then ln + 1 else ln) ∧ clv s p cl = (if (Utf8.decode s p).1 = 10 then 1 else cl + 1)) := ⟨rfl, rfl, rfl⟩
  have hdc := Aside0.mk (fun w => dec_calls s p hlt w)
  obtain ⟨c, hc⟩ : ∃ c : Nat, (Utf8.decode s p).1 = c := ⟨_, rfl⟩
  obtain ⟨n, hn⟩ : ∃ n : Nat, (Utf8.decode s p).2 = n := ⟨_, rfl⟩
  rw [hc, hn] at HR HE
  have hdc2 : Aside0 (∀ w, Tb w → Calls Tryd.prog 45 #[.string (s.extract p s.size)] w fun e w' => e = .returned (.tuple #[.int .i32 (c : Int), .int .i64 (n : Int)]) ∧ Below w.heap.size w w') := ⟨fun w h => by have := hdc.out w h; rw [hc, hn] at this; exact this⟩
  clear hdc hc hn
  obtain ⟨hr1, hr2, hr3⟩ := HR
  have HL := Aside0.mk hlt
  clear hlt
  have HH := Aside0.mk H
  clear H
  go_enter Tryd.func30, Tryd.ntmps30
  go_wp2_with fail
  refine start_ (n := 15) (S := fun w' => w'.cell? ⟨g, 0, none⟩ = some (.string s) ∧ w'.cell? ⟨g, 1, none⟩ = some (.int .i64 (p : Int))) (ds := []) #[false, false, false, false, false, false, false, false, false, false, false, false, false, false, false] (by kernel_rfl) rfl rfl ⟨r0, r1⟩ (fun hHeld => ?_)
  refine pure_ (i := 0) (N := some 5) (v := ?_) (a' := ?_) #[true, false, false, false, false, false, false, false, false, false, false, false, false, false, false] rfl rfl (by kernel_rfl) (fun _ _ _ h => h) (Or.inl ⟨by rfl, ?_⟩) ?_ ?_
  rotate_left
  · intro w'
    go_simp
    with_reducible rfl
  rotate_left
  · simp only [Act.put, List.setIfInBounds_toArray, List.set_cons_zero, List.set_cons_succ, i64_w, i32_w]
    rfl
  refine pure_ (i := 1) (N := some 6) (v := ?_) (a' := ?_) #[true, true, false, false, false, false, false, false, false, false, false, false, false, false, false] rfl rfl (by kernel_rfl) (fun _ _ _ h => h) (Or.inl ⟨by rfl, ?_⟩) ?_ ?_
  rotate_left
  · intro w'
    go_simp
    with_reducible rfl
  rotate_left
  · simp only [Act.put, List.setIfInBounds_toArray, List.set_cons_zero, List.set_cons_succ, i64_w, i32_w]
    rfl
  refine pure_ (i := 2) (N := some 7) (v := ?_) (a' := ?_) #[true, true, true, false, false, false, false, false, false, false, false, false, false, false, false] rfl rfl (by kernel_rfl) (fun _ _ _ h => h) (Or.inl ⟨by rfl, ?_⟩) ?_ ?_
  rotate_left
  · intro w'
    go_simp
    with_reducible rfl
  rotate_left
  · simp only [Act.put, List.setIfInBounds_toArray, List.set_cons_zero, List.set_cons_succ, i64_w, i32_w]
    rfl
  refine pure_ (i := 4) (N := some 9) (v := ?_) (a' := ?_) #[true, true, true, false, true, false, false, false, false, false, false, false, false, false, false] rfl rfl (by kernel_rfl) (fun _ _ _ h => h) (Or.inl ⟨by rfl, ?_⟩) ?_ ?_
  rotate_left
  · intro w'
    go_simp
    with_reducible rfl
  rotate_left
  · simp only [Act.put, List.setIfInBounds_toArray, List.set_cons_zero, List.set_cons_succ, i64_w, i32_w]
    rfl
  refine pure_ (i := 5) (N := some 10) (v := ?_) (a' := ?_) #[true, true, true, false, true, true, false, false, false, false, false, false, false, false, false] rfl rfl (by kernel_rfl) (fun _ _ _ h => h) (Or.inl ⟨by rfl, ?_⟩) ?_ ?_
  rotate_left
  · intro w'
    go_simp
    with_reducible rfl
  rotate_left
  · simp only [Act.put, List.setIfInBounds_toArray, List.set_cons_zero, List.set_cons_succ, i64_w, i32_w]
    rfl
  refine pure_ (i := 6) (N := some 11) (v := ?_) (a' := ?_) #[true, true, true, false, true, true, true, false, false, false, false, false, false, false, false] rfl rfl (by kernel_rfl) (fun _ _ _ h => h) (Or.inl ⟨by rfl, ?_⟩) ?_ ?_
  rotate_left
  · intro w'
    go_simp
    with_reducible rfl
  rotate_left
  · simp only [Act.put, List.setIfInBounds_toArray, List.set_cons_zero, List.set_cons_succ, i64_w, i32_w]
    rfl
  refine take_ (i := 3) (N := some 8) (v := ?_) (a' := ?_) #[true, true, true, true, true, true, true, false, false, false, false, false, false, false, false] rfl rfl (by kernel_rfl) (fun _ _ _ h => h) (Or.inl ⟨by rfl, ?_⟩) hHeld ?_ ?_
  rotate_left
  · rintro w' ⟨s0, s1⟩
    go_simp
    with_reducible rfl
  rotate_left
  · simp only [Act.put, List.setIfInBounds_toArray, List.set_cons_zero, List.set_cons_succ, i64_w, i32_w]
    rfl
  refine take_ (i := 7) (N := some 12) (v := ?_) (a' := ?_) #[true, true, true, true, true, true, true, true, false, false, false, false, false, false, false] rfl rfl (by kernel_rfl) (fun _ _ _ h => h) (Or.inl ⟨by rfl, ?_⟩) hHeld ?_ ?_
  rotate_left
  · rintro w' ⟨s0, s1⟩
    go_simp
    with_reducible rfl
  rotate_left
  · simp only [Act.put, List.setIfInBounds_toArray, List.set_cons_zero, List.set_cons_succ, i64_w, i32_w]
    rfl
  refine pure_ (i := 8) (N := some 13) (v := ?_) (a' := ?_) #[true, true, true, true, true, true, true, true, true, false, false, false, false, false, false] rfl rfl (by kernel_rfl) (fun _ _ _ h => h) (Or.inl ⟨by rfl, ?_⟩) ?_ ?_
  rotate_left
  · intro w'
    go_simp
    with_reducible rfl
  rotate_left
  · simp only [Act.put, List.setIfInBounds_toArray, List.set_cons_zero, List.set_cons_succ, i64_w, i32_w]
    rfl
  refine one_ (i := 9) (N := some 14) #[true, true, true, true, true, true, true, true, true, true, false, false, false, false, false] rfl rfl (by kernel_rfl) (by decide) (fun K hK => ?_)
  refine goes_ Tryd.func45 (by kernel_rfl) rfl #[.string (s.extract p s.size)] (by rfl) rfl rfl (by simp only [List.map_toArray, List.map_cons, List.map_nil]; rfl) ?_
  with_reducible refine (hdc2.out _ HTB.out).mono ?_
  rintro e W1_ ⟨rfl, hb⟩
  refine ⟨_, rfl, ?_⟩
  have HB1 := Aside0.mk hb
  refine hK.out _ _ ⟨(pw_cell_below hb r0), (pw_cell_below hb r1)⟩ (fun hHeld => ?_)
  clear hK K
  refine norm_ (a' := ?_) ?_ ?_
  rotate_left
  · show Act.put _ (some 14) _ = _
    simp only [Act.put, List.setIfInBounds_toArray, List.set_cons_zero, List.set_cons_succ, i64_w, i32_w]
    rfl
  refine pure_ (i := 10) (N := some 4) (v := ?_) (a' := ?_) #[true, true, true, true, true, true, true, true, true, true, true, false, false, false, false] rfl rfl (by kernel_rfl) (fun _ _ _ h => h) (Or.inl ⟨by rfl, ?_⟩) ?_ ?_
  rotate_left
  · intro w'
    go_simp
    with_reducible rfl
  rotate_left
  · simp only [Act.put, List.setIfInBounds_toArray, List.set_cons_zero, List.set_cons_succ, i64_w, i32_w]
    rfl
  refine pure_ (i := 11) (N := some 15) (v := ?_) (a' := ?_) #[true, true, true, true, true, true, true, true, true, true, true, true, false, false, false] rfl rfl (by kernel_rfl) (fun _ _ _ h => h) (Or.inl ⟨by rfl, ?_⟩) ?_ ?_
  rotate_left
  · intro w'
    go_simp
    with_reducible rfl
  rotate_left
  · simp only [Act.put, List.setIfInBounds_toArray, List.set_cons_zero, List.set_cons_succ, i64_w, i32_w]
    rfl
  refine pure_ (i := 12) (N := some 16) (v := ?_) (a' := ?_) #[true, true, true, true, true, true, true, true, true, true, true, true, true, false, false] rfl rfl (by kernel_rfl) (fun _ _ _ h => h) (Or.inl ⟨by rfl, ?_⟩) ?_ ?_
  rotate_left
  · intro w'
    go_simp
    with_reducible rfl
  rotate_left
  · simp only [Act.put, List.setIfInBounds_toArray, List.set_cons_zero, List.set_cons_succ, i64_w, i32_w]
    rfl
  refine pure_ (i := 13) (N := some 2) (v := ?_) (a' := ?_) #[true, true, true, true, true, true, true, true, true, true, true, true, true, true, false] rfl rfl (by kernel_rfl) (fun _ _ _ h => h) (Or.inl ⟨by rfl, ?_⟩) ?_ ?_
  rotate_left
  · intro w'
    go_simp
    with_reducible rfl
  rotate_left
  · simp only [Act.put, List.setIfInBounds_toArray, List.set_cons_zero, List.set_cons_succ, i64_w, i32_w]
    rfl
  refine pure_ (i := 14) (N := some 3) (v := ?_) (a' := ?_) #[true, true, true, true, true, true, true, true, true, true, true, true, true, true, true] rfl rfl (by kernel_rfl) (fun _ _ _ h => h) (Or.inl ⟨by rfl, ?_⟩) ?_ ?_
  rotate_left
  · intro w'
    go_simp
    with_reducible rfl
  rotate_left
  · simp only [Act.put, List.setIfInBounds_toArray, List.set_cons_zero, List.set_cons_succ, i64_w, i32_w]
    rfl
  refine done_ (by kernel_rfl) ?_
  have H1 := Aside0.mk (HH.out.drew.below HB1.out)
  have O1 := Aside0.mk (((Oth.refl g W).below (below_drew (Below.refl _ _))).below HB1.out)
  clear HB1 r0 r1 HTB hHeld HH
  have d1 : W1_.cell? ⟨g, 1, none⟩ = some (.int .i64 (p : Int)) := (blk_cell H1.out.rb 1).trans rfl
  have e1 := blk_frozen H1.out.rb 1
  have d3 : W1_.cell? ⟨g, 3, none⟩ = some (.int .i64 cl) := (blk_cell H1.out.rb 3).trans rfl
  have e3 := blk_frozen H1.out.rb 3
  have d2 : W1_.cell? ⟨g, 2, none⟩ = some (.int .i64 ln) := (blk_cell H1.out.rb 2).trans rfl
  have e2 := blk_frozen H1.out.rb 2
  have hw1 : wrap64 ((p : Int) + (n : Int)) = ((p + n : Nat) : Int) := by unfold wrap64; omega
  by_cases h10 : c = 10
  · have HE2 : Aside0 (wdt s p = n ∧ lnv s p ln = ln + 1 ∧ clv s p cl = 1) := ⟨by rw [HE.out.1, HE.out.2.1, HE.out.2.2, if_pos h10, if_pos h10]; exact ⟨rfl, rfl, rfl⟩⟩
    clear HE hdc2
    subst h10
    go_wp2_with fail
    go_end0
    rw [HE2.out.1, HE2.out.2.1, HE2.out.2.2]
    exact ⟨rfl, ⟨by simpa using blk_set (blk_set (blk_set (blk_set H1.out.rb 1 (.int .i64 ((p : Int) + n))) 3 (.int .i64 (cl + 1))) 2 (.int .i64 (ln + 1))) 3 (.int .i64 1), (((H1.out.bl.setCell HG _).setCell HG _).setCell HG _).setCell HG _, HG, H1.out.tb⟩, (((O1.out.set _ _).set _ _).set _ _).set _ _⟩
  · have HE2 : Aside0 (wdt s p = n ∧ lnv s p ln = ln ∧ clv s p cl = cl + 1) := ⟨by rw [HE.out.1, HE.out.2.1, HE.out.2.2, if_neg h10, if_neg h10]; exact ⟨rfl, rfl, rfl⟩⟩
    clear HE hdc2
    have q1 : ((c : Int) == 10) = false := by rw [beq_eq_false_iff_ne]; omega
    go_wp2_with fail
    go_end0
    rw [HE2.out.1, HE2.out.2.1, HE2.out.2.2]
    exact ⟨rfl, ⟨by simpa using blk_set (blk_set H1.out.rb 1 (.int .i64 ((p : Int) + n))) 3 (.int .i64 (cl + 1)), (H1.out.bl.setCell HG _).setCell HG _, HG, H1.out.tb⟩, (O1.out.set _ _).set _ _⟩
end Go.Proofs.YtcpalnmodbbklaaDoor.P
