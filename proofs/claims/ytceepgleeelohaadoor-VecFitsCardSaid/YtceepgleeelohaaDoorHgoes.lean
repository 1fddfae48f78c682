import Derived.Test.YtceepgleeelohaaDoorHclos
import Derived.Lib.OthersKept
import Derived.Lib.RuneLoops
/- The reader of quant: goes takes a rune. -/
namespace Go.Proofs.YtceepgleeelohaaDoor.P
set_option linter.unusedVariables false
set_option linter.unusedSimpArgs false
open Go.RowKit Go.Proofs.YtceepgleeelohaaDoorW.PrintWords Go.Proofs.YtceepgleeelohaaDoorW.PrintLast Go.Proofs.YtceepgleeelohaaDoorW.PrintMore
/-- the reader's state -/
structure Rd where
  wh : Int
  dg : Int
  pt : Int
  ps : Int
  ms : Int
  sx : ByteArray
abbrev Rd.cells (r : Rd) : Array Value := #[.int .i64 r.wh, .int .i64 r.dg, .int .i64 r.pt, .int .i64 r.ps, .int .i64 r.ms, .string r.sx]
/-- what one rune does -/
def goesS (kn : ByteArray → Bool) (r : Rd) (c : Int) : Option Rd :=
  if 48 ≤ c ∧ c ≤ 57 ∧ r.sx.size = 0 then
    (if r.ps < 0 then (if r.dg = 1 ∧ r.wh = 0 then none else some { r with wh := min (10 * r.wh + (c - 48)) 1125899906842624, dg := r.dg + 1 })
    else if r.ps = r.ms then none else some { r with pt := 10 * r.pt + (c - 48), ps := r.ps + 1 })
  else if c = 46 then (if r.dg = 0 ∨ 0 ≤ r.ps ∨ r.sx.size ≠ 0 then none else some { r with ps := 0 })
  else if r.dg = 0 ∨ r.ps = 0 ∨ kn (r.sx ++ Utf8.encode c) = false then none else some { r with sx := r.sx ++ Utf8.encode c }
/-- no number of the state is too great -/
structure Rd.ok (r : Rd) (n : Nat) : Prop where
  wh0 : 0 ≤ r.wh
  wh1 : r.wh ≤ 1125899906842624
  dg0 : 0 ≤ r.dg
  dg1 : r.dg ≤ n
  ps0 : -1 ≤ r.ps
  ps1 : r.ps ≤ r.ms
  ms1 : 1 ≤ r.ms
  ms3 : r.ms ≤ 3
  pt0 : 0 ≤ r.pt
  pt1 : r.ps ≤ 0 → r.pt = 0
  pt2 : r.ps = 1 → r.pt ≤ 9
  pt3 : r.ps = 2 → r.pt ≤ 99
  pt4 : r.ps = 3 → r.pt ≤ 999
  sx1 : r.sx.size ≤ 4 * n
theorem enc_le (c : Int) : (Utf8.encode c).size ≤ 4 := by
  unfold Utf8.encode
  dsimp only
  (repeat' split) <;> (first | (show 1 ≤ 4; omega) | (show 2 ≤ 4; omega) | (show 3 ≤ 4; omega) | (show 4 ≤ 4; omega))
theorem goes_ok {kn : ByteArray → Bool} {r r' : Rd} {c : Int} {n : Nat} (h : r.ok n) (hg : goesS kn r c = some r') : r'.ok (n + 1) := by
  obtain ⟨h1, h2, h3, h4, h5, h6, h7, h8, h9, h10, h11, h12, h13, h14⟩ := h
  unfold goesS at hg
  split at hg
  · rename_i hd
    split at hg
    · rename_i hp
      split at hg
      · cases hg
      · injection hg with hg
        subst hg
        have hm : min (10 * r.wh + (c - 48)) 1125899906842624 ≤ 1125899906842624 ∧ 0 ≤ min (10 * r.wh + (c - 48)) 1125899906842624 := by omega
        exact ⟨hm.2, hm.1, by dsimp only; omega, by dsimp only; omega, h5, h6, h7, h8, h9, h10, h11, h12, h13, by dsimp only; omega⟩
    · split at hg
      · cases hg
      · injection hg with hg
        subst hg
        have hps : r.ps = 0 ∨ r.ps = 1 ∨ r.ps = 2 := by omega
        refine ⟨h1, h2, h3, by dsimp only; omega, by dsimp only; omega, by dsimp only; omega, h7, h8, by dsimp only; omega, ?_, ?_, ?_, ?_, by dsimp only; omega⟩ <;> dsimp only <;> intro hq <;> rcases hps with hp | hp | hp <;> (try have := h10 (by omega)) <;> (try have := h11 (by omega)) <;> (try have := h12 (by omega)) <;> omega
  · split at hg
    · split at hg
      · cases hg
      · injection hg with hg
        subst hg
        have := h10 (by omega)
        exact ⟨h1, h2, h3, by dsimp only; omega, by dsimp only; omega, by dsimp only; omega, h7, h8, h9, fun _ => this, fun h => by dsimp only at h; omega, fun h => by dsimp only at h; omega, fun h => by dsimp only at h; omega, by dsimp only; omega⟩
    · split at hg
      · cases hg
      · injection hg with hg
        subst hg
        have he := enc_le c
        exact ⟨h1, h2, h3, by dsimp only; omega, h5, h6, h7, h8, h9, h10, h11, h12, h13, by dsimp only; rw [ByteArray.size_append]; omega⟩
def IsRd (w0 W : World) (g : Nat) (r : Rd) : Prop := W.heap[g]? = some (.cells r.cells 91 (0, 0)) ∧ w0.heap.size ≤ g
theorem IsRd.ge {w0 W : World} {g : Nat} {r : Rd} (h : IsRd w0 W g r) : w0.heap.size ≤ g := h.2
theorem IsRd.lt {w0 W : World} {g : Nat} {r : Rd} (h : IsRd w0 W g r) : g < W.heap.size := blk_lt h.1
theorem IsRd.below {w0 W W' : World} {g : Nat} {r : Rd} (h : IsRd w0 W g r) (hb : Below W.heap.size W W') : IsRd w0 W' g r := ⟨(hb.block g h.lt).trans h.1, h.2⟩
theorem cellR_0 {W : World} {g : Nat} {r : Rd} (h : W.heap[g]? = some (.cells r.cells 91 (0, 0))) : W.cell? ⟨g, 0, none⟩ = some (.int .i64 r.wh) := (blk_cell h 0).trans rfl
theorem IsRd.set_0 {w0 W : World} {g : Nat} {r : Rd} (h : IsRd w0 W g r) (x : Int) : IsRd w0 (W.setCell ⟨g, 0, none⟩ (.int .i64 x)) g { r with wh := x } := by
  obtain ⟨hb, hg⟩ := h
  exact ⟨by simpa [Rd.cells] using blk_set hb 0 (.int .i64 x), hg⟩
theorem cellR_1 {W : World} {g : Nat} {r : Rd} (h : W.heap[g]? = some (.cells r.cells 91 (0, 0))) : W.cell? ⟨g, 1, none⟩ = some (.int .i64 r.dg) := (blk_cell h 1).trans rfl
theorem IsRd.set_1 {w0 W : World} {g : Nat} {r : Rd} (h : IsRd w0 W g r) (x : Int) : IsRd w0 (W.setCell ⟨g, 1, none⟩ (.int .i64 x)) g { r with dg := x } := by
  obtain ⟨hb, hg⟩ := h
  exact ⟨by simpa [Rd.cells] using blk_set hb 1 (.int .i64 x), hg⟩
theorem cellR_2 {W : World} {g : Nat} {r : Rd} (h : W.heap[g]? = some (.cells r.cells 91 (0, 0))) : W.cell? ⟨g, 2, none⟩ = some (.int .i64 r.pt) := (blk_cell h 2).trans rfl
theorem IsRd.set_2 {w0 W : World} {g : Nat} {r : Rd} (h : IsRd w0 W g r) (x : Int) : IsRd w0 (W.setCell ⟨g, 2, none⟩ (.int .i64 x)) g { r with pt := x } := by
  obtain ⟨hb, hg⟩ := h
  exact ⟨by simpa [Rd.cells] using blk_set hb 2 (.int .i64 x), hg⟩
theorem cellR_3 {W : World} {g : Nat} {r : Rd} (h : W.heap[g]? = some (.cells r.cells 91 (0, 0))) : W.cell? ⟨g, 3, none⟩ = some (.int .i64 r.ps) := (blk_cell h 3).trans rfl
theorem IsRd.set_3 {w0 W : World} {g : Nat} {r : Rd} (h : IsRd w0 W g r) (x : Int) : IsRd w0 (W.setCell ⟨g, 3, none⟩ (.int .i64 x)) g { r with ps := x } := by
  obtain ⟨hb, hg⟩ := h
  exact ⟨by simpa [Rd.cells] using blk_set hb 3 (.int .i64 x), hg⟩
theorem cellR_4 {W : World} {g : Nat} {r : Rd} (h : W.heap[g]? = some (.cells r.cells 91 (0, 0))) : W.cell? ⟨g, 4, none⟩ = some (.int .i64 r.ms) := (blk_cell h 4).trans rfl
theorem IsRd.set_4 {w0 W : World} {g : Nat} {r : Rd} (h : IsRd w0 W g r) (x : Int) : IsRd w0 (W.setCell ⟨g, 4, none⟩ (.int .i64 x)) g { r with ms := x } := by
  obtain ⟨hb, hg⟩ := h
  exact ⟨by simpa [Rd.cells] using blk_set hb 4 (.int .i64 x), hg⟩
theorem cellR_5 {W : World} {g : Nat} {r : Rd} (h : W.heap[g]? = some (.cells r.cells 91 (0, 0))) : W.cell? ⟨g, 5, none⟩ = some (.string r.sx) := (blk_cell h 5).trans rfl
theorem IsRd.set_5 {w0 W : World} {g : Nat} {r : Rd} (h : IsRd w0 W g r) (x : ByteArray) : IsRd w0 (W.setCell ⟨g, 5, none⟩ (.string x)) g { r with sx := x } := by
  obtain ⟨hb, hg⟩ := h
  exact ⟨by simpa [Rd.cells] using blk_set hb 5 (.string x), hg⟩
/-- what begins reads lies beside the reader's state -/
def KnP (A b g : Nat) (W : World) : Prop := W.heap[A]? = some (.cells #[.map (some b)] 82 (0, 0)) ∧ IsSuf W b ∧ A ≠ g ∧ b ≠ g
theorem KnP.keep {A b g : Nat} {W W' : World} (h : KnP A b g W) (hk : KeepBut W W' g none) : KnP A b g W' := by
  obtain ⟨h1, h2, h3, h4⟩ := h
  refine ⟨(hk.2 A (blk_lt h1) h3 (by simp)).trans h1, ?_, h3, h4⟩
  have hl := h2.lt
  obtain ⟨es, clock, hb, F, hs, hD⟩ := h2
  exact ⟨es, clock, (hk.2 b hl h4 (by simp)).trans hb, F, hs, hD⟩
theorem KnP.below {A b g : Nat} {W W' : World} (h : KnP A b g W) (hb : Below W.heap.size W W') : KnP A b g W' := h.keep (KeepBut.of_below hb g none)
theorem empty_iff (s : ByteArray) : (s.toList == []) = decide (s.size = 0) := by
  rw [ByteArray.toList_eq]
  have e : s.size = s.data.toList.length := rfl
  rw [e]
  cases s.data.toList <;> rfl
/-- what a call leaves -/
def Left (w0 w : World) (g : Nat) (r : Rd) (W : World) : Prop := IsRd w0 W g r ∧ Below w0.heap.size w0 W ∧ KeepBut w W g none
theorem Left.below {w0 w W W' : World} {g : Nat} {r : Rd} (h : Left w0 w g r W) (hb : Below W.heap.size W W') : Left w0 w g r W' :=
  ⟨h.1.below hb, below_then h.2.1 h.2.1.size hb, h.2.2.trans (KeepBut.of_below hb g none) (.inl rfl)⟩
set_option maxRecDepth 100000 in
set_option maxHeartbeats 3200000 in
theorem goesP_calls (A b : Nat) (g n : Nat) (r : Rd) (c : Int) (w0 w : World) (hc0 : 0 ≤ c) (hc1 : c ≤ 2147483647) (hn : n ≤ 1000000) (hr : r.ok n) (hI : IsRd w0 w g r) (hB : Below w0.heap.size w0 w) (hk : KnP A b g w) :
    Calls Tryd.prog 81 #[.pointer (some ⟨g, 0, none⟩), .int .i32 c, .func (.func 61) #[] #[.pointer (some ⟨A, 0, none⟩)]] w fun e w' => e = .returned (.bool (goesS begB r c).isSome) ∧ Left w0 w g ((goesS begB r c).getD r) w' := by
  obtain ⟨wh, dg, pt, ps, ms, sx⟩ := r
  obtain ⟨h1, h2, h3, h4, h5, h6, h7, h8, h9, h10, h11, h12, h13, h14⟩ := hr
  dsimp only at h1 h2 h3 h4 h5 h6 h7 h8 h9 h10 h11 h12 h13 h14
  have hpt : pt ≤ 999 := by
    have : ps ≤ 0 ∨ ps = 1 ∨ ps = 2 ∨ ps = 3 := by omega
    rcases this with h | h | h | h
    · have := h10 h; omega
    · have := h11 h; omega
    · have := h12 h; omega
    · exact h13 h
  have c0_ := cellR_0 hI.1
  have c1_ := cellR_1 hI.1
  have c2_ := cellR_2 hI.1
  have c3_ := cellR_3 hI.1
  have c4_ := cellR_4 hI.1
  have c5_ := cellR_5 hI.1
  have f0_ := blk_frozen hI.1 0
  have f1_ := blk_frozen hI.1 1
  have f2_ := blk_frozen hI.1 2
  have f3_ := blk_frozen hI.1 3
  have f5_ := blk_frozen hI.1 5
  dsimp only at c0_ c1_ c2_ c3_ c4_ c5_
  have HI := Aside0.mk hI
  have HB := Aside0.mk hB
  have HK := Aside0.mk (KeepBut.refl w g none)
  have KN := Aside0.mk hk
  clear hk
  clear hI hB h10 h11 h12 h13
  have hse := empty_iff sx
  by_cases hd : 48 ≤ c ∧ c ≤ 57 ∧ sx.size = 0
  · obtain ⟨d1, d2, d3⟩ := hd
    have e1 : goesS begB ⟨wh, dg, pt, ps, ms, sx⟩ c = (if ps < 0 then (if dg = 1 ∧ wh = 0 then none else some ⟨min (10 * wh + (c - 48)) 1125899906842624, dg + 1, pt, ps, ms, sx⟩) else if ps = ms then none else some ⟨wh, dg, 10 * pt + (c - 48), ps + 1, ms, sx⟩) := by
      unfold goesS
      exact if_pos ⟨d1, d2, d3⟩
    rw [e1]
    clear e1
    have i1 : decide (48 ≤ c) = true := decide_eq_true d1
    have i2 : decide (c ≤ 57) = true := decide_eq_true d2
    rw [decide_eq_true d3] at hse
    have j1 : wrap32 (c - 48) = c - 48 := by unfold wrap32; omega
    have j1' : wrap64 (c - 48) = c - 48 := by unfold wrap64; omega
    by_cases hp : ps < 0
    · rw [if_pos hp]
      have i3 : decide (ps < 0) = true := decide_eq_true hp
      have j2 : wrap64 (10 * wh) = 10 * wh := by unfold wrap64; omega
      have j3 : wrap64 (10 * wh + (c - 48)) = 10 * wh + (c - 48) := by unfold wrap64; omega
      have j4 : wrap64 (dg + 1) = dg + 1 := by unfold wrap64; omega
      by_cases hz : dg = 1 ∧ wh = 0
      · rw [if_pos hz]
        obtain ⟨rfl, rfl⟩ := hz
        go_enter Tryd.func81, Tryd.ntmps81
        go_wp2_with fail
        go_ret
        exact ⟨rfl, HI.out, HB.out, HK.out⟩
      · rw [if_neg hz]
        have i4 : (decide (dg = 1) && decide (wh = 0)) = false := Bool.eq_false_iff.2 (fun h => hz (by simpa using h))
        clear hz hp d1 d2 d3
        by_cases hdg : dg = 1
        · subst hdg
          have i5 : decide (wh = 0) = false := by simpa using i4
          have i6 : (wh == 0) = false := by simpa using i5
          clear i4
          go_enter Tryd.func81, Tryd.ntmps81
          go_wp2_with fail
          go_ret
          exact ⟨by first | rfl | (simp; done), ((HI.out.set_0 _).set_1 _), (below_set (below_set HB.out HI.out.ge) HI.out.ge), (KeepBut.set_ (KeepBut.set_ HK.out 0 _) 1 _)⟩
        · have i5 : (dg == 1) = false := by simpa using hdg
          clear i4 hdg
          go_enter Tryd.func81, Tryd.ntmps81
          go_wp2_with fail
          go_ret
          exact ⟨by first | rfl | (simp; done), ((HI.out.set_0 _).set_1 _), (below_set (below_set HB.out HI.out.ge) HI.out.ge), (KeepBut.set_ (KeepBut.set_ HK.out 0 _) 1 _)⟩
    · rw [if_neg hp]
      have i3 : decide (ps < 0) = false := decide_eq_false hp
      by_cases hq : ps = ms
      · rw [if_pos hq]
        subst hq
        go_enter Tryd.func81, Tryd.ntmps81
        go_wp2_with fail
        repeat (go_quiet (fail); try go_wp2_with (fail))
        go_ret
        exact ⟨rfl, HI.out, pw_below_drewN HB.out _, HK.out⟩
      · rw [if_neg hq]
        have i4 : (ps == ms) = false := by simpa using hq
        have j2 : wrap64 (10 * pt) = 10 * pt := by unfold wrap64; omega
        have j3 : wrap64 (10 * pt + (c - 48)) = 10 * pt + (c - 48) := by unfold wrap64; omega
        have j4 : wrap64 (ps + 1) = ps + 1 := by unfold wrap64; omega
        clear hq hp d1 d2 d3
        go_enter Tryd.func81, Tryd.ntmps81
        go_wp2_with fail
        repeat (go_quiet (fail); try go_wp2_with (fail))
        go_ret
        exact ⟨by first | rfl | (simp; done), ((HI.out.set_2 _).set_3 _), (below_set (below_set (pw_below_drewN HB.out _) HI.out.ge) HI.out.ge), (KeepBut.set_ (KeepBut.set_ HK.out 2 _) 3 _)⟩
  · have e1 : goesS begB ⟨wh, dg, pt, ps, ms, sx⟩ c = (if c = 46 then (if dg = 0 ∨ 0 ≤ ps ∨ sx.size ≠ 0 then none else some ⟨wh, dg, pt, 0, ms, sx⟩) else if dg = 0 ∨ ps = 0 ∨ begB (sx ++ Utf8.encode c) = false then none else some ⟨wh, dg, pt, ps, ms, sx ++ Utf8.encode c⟩) := by
      unfold goesS
      exact if_neg hd
    rw [e1]
    clear e1
    have hdig : decide (48 ≤ c) = false ∨ (decide (48 ≤ c) = true ∧ decide (c ≤ 57) = false) ∨ (decide (48 ≤ c) = true ∧ decide (c ≤ 57) = true ∧ (sx.toList == []) = false) := by
      rw [hse]
      by_cases q1 : 48 ≤ c
      · by_cases q2 : c ≤ 57
        · exact Or.inr (Or.inr ⟨decide_eq_true q1, decide_eq_true q2, decide_eq_false (fun h => hd ⟨q1, q2, h⟩)⟩)
        · exact Or.inr (Or.inl ⟨decide_eq_true q1, decide_eq_false q2⟩)
      · exact Or.inl (decide_eq_false q1)
    have HD := Aside0.mk hdig
    clear hd hdig
    by_cases hc : c = 46
    · subst hc
      rw [if_pos rfl]
      by_cases hbad : dg = 0 ∨ 0 ≤ ps ∨ sx.size ≠ 0
      · rw [if_pos hbad]
        by_cases hdg : dg = 0
        · subst hdg
          clear hbad
          go_enter Tryd.func81, Tryd.ntmps81
          go_wp2_with fail
          go_ret
          exact ⟨rfl, HI.out, HB.out, HK.out⟩
        · have i5 : (dg == 0) = false := by simpa using hdg
          by_cases hps : 0 ≤ ps
          · have i6 : decide (0 ≤ ps) = true := decide_eq_true hps
            clear hbad hdg hps
            go_enter Tryd.func81, Tryd.ntmps81
            go_wp2_with fail
            go_ret
            exact ⟨rfl, HI.out, HB.out, HK.out⟩
          · have i6 : decide (0 ≤ ps) = false := decide_eq_false hps
            have hz : sx.size ≠ 0 := by omega
            rw [decide_eq_false hz] at hse
            clear hbad hdg hps
            go_enter Tryd.func81, Tryd.ntmps81
            go_wp2_with fail
            go_ret
            exact ⟨rfl, HI.out, HB.out, HK.out⟩
      · rw [if_neg hbad]
        have i5 : (dg == 0) = false := by rw [beq_eq_false_iff_ne]; intro h; exact hbad (Or.inl h)
        have i6 : decide (0 ≤ ps) = false := decide_eq_false (fun h => hbad (Or.inr (Or.inl h)))
        have hz : sx.size = 0 := by omega
        rw [decide_eq_true hz] at hse
        clear hbad hz
        go_enter Tryd.func81, Tryd.ntmps81
        go_wp2_with fail
        go_ret
        exact ⟨by first | rfl | (simp; done), (HI.out.set_3 _), (below_set HB.out HI.out.ge), (KeepBut.set_ HK.out 3 _)⟩
    · rw [if_neg hc]
      have i9 : (c == 46) = false := by simpa using hc
      clear hc
      have hsz : sx.size + (Utf8.encode c).size ≤ 9223372036854775807 := by have := enc_le c; omega
      obtain ⟨u, hu⟩ : ∃ u, Utf8.encode c = u := ⟨_, rfl⟩
      rw [hu] at hsz ⊢
      clear hse
      by_cases hdg : dg = 0
      · rw [if_pos (Or.inl hdg)]
        subst hdg
        rcases HD.out with i1 | ⟨i1, i2⟩ | ⟨i1, i2, i3⟩ <;> (
          go_enter Tryd.func81, Tryd.ntmps81
          go_wp2_with fail
          go_ret
          exact ⟨rfl, HI.out, HB.out, HK.out⟩)
      · have i5 : (dg == 0) = false := by simpa using hdg
        by_cases hps : ps = 0
        · rw [if_pos (Or.inr (Or.inl hps))]
          subst hps
          clear hdg
          rcases HD.out with i1 | ⟨i1, i2⟩ | ⟨i1, i2, i3⟩ <;> (
            go_enter Tryd.func81, Tryd.ntmps81
            go_wp2_with fail
            go_ret
            exact ⟨rfl, HI.out, HB.out, HK.out⟩)
        · have i6 : (ps == 0) = false := by simpa using hps
          have e2 : (if dg = 0 ∨ ps = 0 ∨ begB (sx ++ u) = false then none else some (⟨wh, dg, pt, ps, ms, sx ++ u⟩ : Rd)) = if begB (sx ++ u) = false then none else some ⟨wh, dg, pt, ps, ms, sx ++ u⟩ := by
            by_cases hk : begB (sx ++ u) = false
            · rw [if_pos hk, if_pos (Or.inr (Or.inr hk))]
            · rw [if_neg hk, if_neg (fun h => h.elim hdg (fun h => h.elim hps hk))]
          rw [e2]
          clear e2 hdg hps
          have CK := Aside0.mk (begins_c A b (sx ++ u) w KN.out.1 KN.out.2.1)
          obtain ⟨q, hq⟩ : ∃ q, begB (sx ++ u) = q := ⟨_, rfl⟩
          rw [hq] at CK ⊢
          clear hq
          cases q with
          | false =>
            rw [if_pos rfl]
            rcases HD.out with i1 | ⟨i1, i2⟩ | ⟨i1, i2, i3⟩ <;> (
              go_enter Tryd.func81, Tryd.ntmps81
              go_wp2_with fail
              refine CK.out.mono ?_
              rintro _ W2 ⟨rfl, hb⟩
              have HL : Aside0 (Left w0 w g ⟨wh, dg, pt, ps, ms, sx⟩ W2) := ⟨Left.below ⟨HI.out, HB.out, HK.out⟩ hb⟩
              have c5_ := cellR_5 HL.out.1.1
              have f5_ := blk_frozen HL.out.1.1 5
              dsimp only at c5_
              clear hb CK
              go_wp2_with fail
              go_ret
              exact ⟨rfl, HL.out⟩)
          | true =>
            rw [if_neg (by decide)]
            rcases HD.out with i1 | ⟨i1, i2⟩ | ⟨i1, i2, i3⟩ <;> (
              go_enter Tryd.func81, Tryd.ntmps81
              go_wp2_with fail
              refine CK.out.mono ?_
              rintro _ W2 ⟨rfl, hb⟩
              have HL : Aside0 (Left w0 w g ⟨wh, dg, pt, ps, ms, sx⟩ W2) := ⟨Left.below ⟨HI.out, HB.out, HK.out⟩ hb⟩
              have c5_ := cellR_5 HL.out.1.1
              have f5_ := blk_frozen HL.out.1.1 5
              dsimp only at c5_
              clear hb CK
              go_wp2_with fail
              go_ret
              exact ⟨rfl, HL.out.1.set_5 _, below_set HL.out.2.1 HL.out.1.ge, KeepBut.set_ HL.out.2.2 5 _⟩)

end Go.Proofs.YtceepgleeelohaaDoor.P
