import Derived.Outline
import Derived.Test.YtcpalnmodbbklaaDoorHscan2
/- The reader of scan: between words, and in a name or a number. -/
namespace Go.Proofs.YtcpalnmodbbklaaDoor.P
set_option linter.unusedVariables false
set_option linter.unusedSimpArgs false
open Go.RowKit Go.Proofs.YtcpalnmodbbklaaDoorW.PrintWords Go.Proofs.YtcpalnmodbbklaaDoorW.PrintLast Go.Proofs.YtcpalnmodbbklaaDoorW.PrintMore

abbrev nameV : Value := .func (.func 40) #[] #[]
abbrev numberV : Value := .func (.func 42) #[] #[]
set_option maxRecDepth 100000 in
set_option maxHeartbeats 3200000 in
theorem goes_name (w0 W : World) (g it : Nat) (io : Obj) (vf vw vt : Value) (wd : List SW) (tx : List Int) (ln cl c : Int) (H : SB w0 W g it io #[vf, vw, nameV, vt, .int .i64 ln, .int .i64 cl] vw vt wd tx) (htl : tx.length ≤ 100000) (hgo : goB 1 c = true) :
    Calls Tryd.prog 39 #[.pointer (some ⟨g, 0, none⟩), .int .i32 c] W fun e W' => e = .returned (.int .i64 0) ∧ ∃ vt', SB w0 W' g it io #[vf, vw, nameV, vt', .int .i64 ln, .int .i64 cl] vw vt' wd (tx ++ [c]) := by
  have hf := name_f c
  rw [hgo] at hf
  have HF := Aside0.mk hf
  have r2 : W.cell? ⟨g, 2, none⟩ = some nameV := (blk_cell H.rb 2).trans rfl
  clear hf hgo
  go_enter Tryd.func39, Tryd.ntmps39
  go_wp2_with fail
  refine (scan_inName.calls c true _ HF.out).mono ?_
  rintro e W1 ⟨rfl, hd⟩
  have H1 := H.below hd.below
  have r3 : W1.cell? ⟨g, 3, none⟩ = some vt := (blk_cell H1.rb 3).trans rfl
  have h3 := blk_frozen H1.rb 3
  clear r2 H hd HF
  have H1 := Aside0.mk H1
  go_wp2_with ((at_builtin; refine Kd.R_append (Kd.int .i32) (w0 := w0) w0.heap.size rfl (.tmp 16) (.tmp 18) 43 21 (.int .i32 0) 4 rfl Tryd.underlying43 infoR rfl (by decide) (by decide) vt tx c [.int .i32 c] (fun k => k ≠ g ∧ k ≠ it ∧ some k ≠ vw.ownBlock) (fun _ => False) rfl rfl rfl (fun _ h => h.elim) H1.out.freshT H1.out.ht H1.out.bl H1.out.bl.size (by omega) ?_; intro v5 W5 HV5 HB5 hg5 hat5; obtain ⟨A5, c5, rfl⟩ := Kd.R_slice HV5; have H5 := H1.out.appT HV5 HB5 hg5 hat5; have r5 : W5.cell? ⟨g, 3, none⟩ = some vt := (blk_cell H5.rb 3).trans rfl; have f5 := blk_frozen H5.rb 3; replace H5 := Aside0.mk H5; clear HV5 HB5 hg5 hat5))
  have H6 := H5.out.set 3 (.slice A5 (tx ++ [c]).length c5)
  go_ret
  exact ⟨rfl, _, by simpa using H6⟩
set_option maxRecDepth 100000 in
set_option maxHeartbeats 3200000 in
theorem goes_number (w0 W : World) (g it : Nat) (io : Obj) (vf vw vt : Value) (wd : List SW) (tx : List Int) (ln cl c : Int) (H : SB w0 W g it io #[vf, vw, numberV, vt, .int .i64 ln, .int .i64 cl] vw vt wd tx) (htl : tx.length ≤ 100000) (hgo : goB 2 c = true) :
    Calls Tryd.prog 39 #[.pointer (some ⟨g, 0, none⟩), .int .i32 c] W fun e W' => e = .returned (.int .i64 0) ∧ ∃ vt', SB w0 W' g it io #[vf, vw, numberV, vt', .int .i64 ln, .int .i64 cl] vw vt' wd (tx ++ [c]) := by
  have hf := number_f c
  rw [hgo] at hf
  have HF := Aside0.mk hf
  have r2 : W.cell? ⟨g, 2, none⟩ = some numberV := (blk_cell H.rb 2).trans rfl
  clear hf hgo
  go_enter Tryd.func39, Tryd.ntmps39
  go_wp2_with fail
  refine (scan_inNumber.calls c true _ HF.out).mono ?_
  rintro e W1 ⟨rfl, hd⟩
  have H1 := H.below hd.below
  have r3 : W1.cell? ⟨g, 3, none⟩ = some vt := (blk_cell H1.rb 3).trans rfl
  have h3 := blk_frozen H1.rb 3
  clear r2 H hd HF
  have H1 := Aside0.mk H1
  go_wp2_with ((at_builtin; refine Kd.R_append (Kd.int .i32) (w0 := w0) w0.heap.size rfl (.tmp 16) (.tmp 18) 43 21 (.int .i32 0) 4 rfl Tryd.underlying43 infoR rfl (by decide) (by decide) vt tx c [.int .i32 c] (fun k => k ≠ g ∧ k ≠ it ∧ some k ≠ vw.ownBlock) (fun _ => False) rfl rfl rfl (fun _ h => h.elim) H1.out.freshT H1.out.ht H1.out.bl H1.out.bl.size (by omega) ?_; intro v5 W5 HV5 HB5 hg5 hat5; obtain ⟨A5, c5, rfl⟩ := Kd.R_slice HV5; have H5 := H1.out.appT HV5 HB5 hg5 hat5; have r5 : W5.cell? ⟨g, 3, none⟩ = some vt := (blk_cell H5.rb 3).trans rfl; have f5 := blk_frozen H5.rb 3; replace H5 := Aside0.mk H5; clear HV5 HB5 hg5 hat5))
  have H6 := H5.out.set 3 (.slice A5 (tx ++ [c]).length c5)
  go_ret
  exact ⟨rfl, _, by simpa using H6⟩
end Go.Proofs.YtcpalnmodbbklaaDoor.P
/- The reader of scan: between words. -/
namespace Go.Proofs.YtcpalnmodbbklaaDoor.P
set_option linter.unusedVariables false
set_option linter.unusedSimpArgs false
open Go.RowKit Go.Proofs.YtcpalnmodbbklaaDoorW.PrintWords Go.Proofs.YtcpalnmodbbklaaDoorW.PrintLast Go.Proofs.YtcpalnmodbbklaaDoorW.PrintMore

/-- what goes on a word: nothing yet, a name's runes, a number's -/
def goV (k : Nat) : Value := if k = 1 then nameV else if k = 2 then numberV else .nilFunc
/-- the state stands in memory -/
def SCs (w0 W : World) (g it : Nat) (io : Obj) (σ : Sc) : Prop := ∃ vw vt, SB w0 W g it io #[fnV σ.md, vw, goV σ.gk, vt, .int .i64 σ.ln, .int .i64 σ.cl] vw vt σ.wd σ.tx
def beginS (σ : Sc) (kind : Int) (m : Md) : Sc := { σ with md := m, wd := σ.wd ++ [⟨kind, ⟨#[]⟩, σ.ln, σ.cl⟩], tx := [] }
/-- the last word's text -/
def withText (l : List SW) (t : ByteArray) : List SW := match l.reverse with
  | [] => []
  | x :: r => r.reverse ++ [⟨x.f0, t, x.f2, x.f3⟩]
theorem withText_snoc (l : List SW) (x : SW) (t : ByteArray) : withText (l ++ [x]) t = l ++ [⟨x.f0, t, x.f2, x.f3⟩] := by simp [withText]
def endS (σ : Sc) : Sc := { σ with md := .btw, wd := withText σ.wd (runesBytes σ.tx) }
def stepB (σ : Sc) (c : Int) : Sc × Int :=
  if (decide (c = 10) || blankB c) = true then (σ, 0)
  else if c = 35 then ({ σ with md := .com }, 0)
  else if smallB c = true then ({ beginS σ 1 .pln with gk := 1, tx := [c] }, 0)
  else if digitB c = true then ({ beginS σ 2 .pln with gk := 2, tx := [c] }, 0)
  else if c = 34 then (beginS σ 3 .quo, 0)
  else if signB c = true then (endS { beginS σ 4 .pln with tx := [c] }, 0)
  else (σ, 4)
def Post (w0 : World) (g it : Nat) (io : Obj) (r : Sc × Int) (e : Ending) (w' : World) : Prop := e = .returned (.int .i64 r.2) ∧ SCs w0 w' g it io r.1

set_option maxRecDepth 100000 in
set_option maxHeartbeats 3200000 in
theorem between_stay (w0 W : World) (g it : Nat) (io : Obj) (σ : Sc) (c : Int) (h0 : 0 ≤ c) (h1 : c ≤ 1114111) (H : SCs w0 W g it io σ) (hc : (decide (c = 10) || blankB c) = true) :
    Calls Tryd.prog 20 #[.pointer (some ⟨g, 0, none⟩), .int .i32 c] W (Post w0 g it io (σ, 0)) := by
  by_cases h10 : c = 10
  · subst h10
    have HH := Aside0.mk H
    clear H hc
    go_enter Tryd.func20, Tryd.ntmps20
    go_wp2_with fail
    go_ret
    exact ⟨rfl, HH.out⟩
  · have q1 : ((c : Int) == 10) = false := beq_eq_false_iff_ne.mpr h10
    have hb : blankB c = true := by simpa [h10] using hc
    have HB := Aside0.mk hb
    obtain ⟨vw, vt, H⟩ := H
    have HH := Aside0.mk H
    clear H hc h10 hb
    go_enter Tryd.func20, Tryd.ntmps20
    go_wp2_with fail
    refine (blank_calls c _ h0 h1).mono ?_
    rintro e w1 ⟨rfl, hb1⟩
    have H1 := Aside0.mk (HH.out.below hb1)
    rw [HB.out]
    go_wp2_with fail
    go_ret
    exact ⟨rfl, _, _, H1.out⟩
set_option maxRecDepth 100000 in
set_option maxHeartbeats 3200000 in
theorem between_hash (w0 W : World) (g it : Nat) (io : Obj) (σ : Sc) (H : SCs w0 W g it io σ) :
    Calls Tryd.prog 20 #[.pointer (some ⟨g, 0, none⟩), .int .i32 35] W (Post w0 g it io ({ σ with md := .com }, 0)) := by
  obtain ⟨vw, vt, H⟩ := H
  have HH := Aside0.mk H
  have HB : Aside0 (blankB 35 = false) := ⟨rfl⟩
  clear H
  go_enter Tryd.func20, Tryd.ntmps20
  go_wp2_with fail
  refine (blank_calls 35 _ (by omega) (by omega)).mono ?_
  rintro e w1 ⟨rfl, hb1⟩
  have H1 := Aside0.mk (HH.out.below hb1)
  rw [HB.out]
  have d0 : w1.cell? ⟨g, 0, none⟩ = some (fnV σ.md) := (blk_cell H1.out.rb 0).trans rfl
  have e0 := blk_frozen H1.out.rb 0
  go_wp2_with fail
  have H3 := H1.out.set 0 (.func (.func 36) #[] #[])
  go_ret
  exact ⟨rfl, _, _, by simpa [fnV, fnOf] using H3⟩

set_option maxRecDepth 100000 in
set_option maxHeartbeats 3200000 in
theorem between_name (w0 W : World) (g it : Nat) (io : Obj) (σ : Sc) (c : Int) (h0 : 0 ≤ c) (h1 : c ≤ 1114111) (H : SCs w0 W g it io σ) (hwl : σ.wd.length ≤ 99999) (hc : (decide (c = 10) || blankB c) = false) (h35 : c ≠ 35) (hs : smallB c = true) :
    Calls Tryd.prog 20 #[.pointer (some ⟨g, 0, none⟩), .int .i32 c] W (Post w0 g it io ({ beginS σ 1 .pln with gk := 1, tx := [c] }, 0)) := by
  have h10 : c ≠ 10 := by intro h; simp [h] at hc
  have q1 : ((c : Int) == 10) = false := beq_eq_false_iff_ne.mpr h10
  have q2 : ((c : Int) == 35) = false := beq_eq_false_iff_ne.mpr h35
  have HB : Aside0 (blankB c = false) := ⟨by simp [h10] at hc; exact hc⟩
  obtain ⟨vw, vt, H⟩ := H
  have HH := Aside0.mk H
  have HSM : Aside0 (scan_small.f c = some true) := ⟨by rw [small_f, hs]⟩
  have HGO : Aside0 (goB 1 c = true) := ⟨by unfold goB; rw [hs]; rfl⟩
  clear H hc h10 h35
  go_enter Tryd.func20, Tryd.ntmps20
  go_wp2_with fail
  refine (blank_calls c _ h0 h1).mono ?_
  rintro e w1 ⟨rfl, hb1⟩
  have H1 := Aside0.mk (HH.out.below hb1)
  rw [HB.out]
  go_wp2_with fail
  refine (scan_small.calls c _ _ HSM.out).mono ?_
  rintro e w2 ⟨rfl, hd2⟩
  have H2 := Aside0.mk (H1.out.below hd2.below)
  clear hd2 hb1 H1 HH
  have H3 := H2
  go_wp2_with fail
  refine (begin_calls w0 _ g it io _ _ vw vt σ.wd σ.tx σ.ln σ.cl 1 39 H3.out (by omega)).mono ?_
  rintro e w4 ⟨rfl, vw4, H4⟩
  have r2 : w4.cell? ⟨g, 2, none⟩ = some (goV σ.gk) := (blk_cell H4.rb 2).trans rfl
  have f2 := blk_frozen H4.rb 2
  have HG : Aside0 (goV σ.gk = .nilFunc ∨ ∃ q, goV σ.gk = .func (.func q) #[] #[]) := ⟨by unfold goV; split; exact Or.inr ⟨_, rfl⟩; split; exact Or.inr ⟨_, rfl⟩; exact Or.inl rfl⟩
  have H5 := Aside0.mk (H4.set 2 nameV)
  clear H4
  go_wp2_with fail
  refine (goes_name w0 _ g it io _ vw4 _ _ _ σ.ln σ.cl c (by simpa using H5.out) (by simp) HGO.out).mono ?_
  rintro e w6 ⟨rfl, vt6, H6⟩
  go_wp2_with fail
  go_ret
  exact ⟨rfl, _, _, by simpa [fnV, fnOf, goV, beginS] using H6⟩

set_option maxRecDepth 100000 in
set_option maxHeartbeats 3200000 in
theorem between_number (w0 W : World) (g it : Nat) (io : Obj) (σ : Sc) (c : Int) (h0 : 0 ≤ c) (h1 : c ≤ 1114111) (H : SCs w0 W g it io σ) (hwl : σ.wd.length ≤ 99999) (hc : (decide (c = 10) || blankB c) = false) (h35 : c ≠ 35) (hs : smallB c = false) (hd : digitB c = true) :
    Calls Tryd.prog 20 #[.pointer (some ⟨g, 0, none⟩), .int .i32 c] W (Post w0 g it io ({ beginS σ 2 .pln with gk := 2, tx := [c] }, 0)) := by
  have h10 : c ≠ 10 := by intro h; simp [h] at hc
  have q1 : ((c : Int) == 10) = false := beq_eq_false_iff_ne.mpr h10
  have q2 : ((c : Int) == 35) = false := beq_eq_false_iff_ne.mpr h35
  have HB : Aside0 (blankB c = false) := ⟨by simp [h10] at hc; exact hc⟩
  obtain ⟨vw, vt, H⟩ := H
  have HH := Aside0.mk H
  have HSM : Aside0 (scan_small.f c = some false) := ⟨by rw [small_f, hs]⟩
  have HDG : Aside0 (scan_digit.f c = some true) := ⟨by rw [digit_f, hd]⟩
  have HGO : Aside0 (goB 2 c = true) := ⟨by unfold goB; rw [hd]; simp⟩
  clear H hc h10 h35
  go_enter Tryd.func20, Tryd.ntmps20
  go_wp2_with fail
  refine (blank_calls c _ h0 h1).mono ?_
  rintro e w1 ⟨rfl, hb1⟩
  have H1 := Aside0.mk (HH.out.below hb1)
  rw [HB.out]
  go_wp2_with fail
  refine (scan_small.calls c _ _ HSM.out).mono ?_
  rintro e w2 ⟨rfl, hd2⟩
  have H2 := Aside0.mk (H1.out.below hd2.below)
  clear hd2 hb1 H1 HH
  go_wp2_with fail
  refine (scan_digit.calls c _ _ HDG.out).mono ?_
  rintro e w3 ⟨rfl, hd3⟩
  have H3 := Aside0.mk (H2.out.below hd3.below)
  clear hd3
  go_wp2_with fail
  refine (begin_calls w0 _ g it io _ _ vw vt σ.wd σ.tx σ.ln σ.cl 2 39 H3.out (by omega)).mono ?_
  rintro e w4 ⟨rfl, vw4, H4⟩
  have r2 : w4.cell? ⟨g, 2, none⟩ = some (goV σ.gk) := (blk_cell H4.rb 2).trans rfl
  have f2 := blk_frozen H4.rb 2
  have HG : Aside0 (goV σ.gk = .nilFunc ∨ ∃ q, goV σ.gk = .func (.func q) #[] #[]) := ⟨by unfold goV; split; exact Or.inr ⟨_, rfl⟩; split; exact Or.inr ⟨_, rfl⟩; exact Or.inl rfl⟩
  have H5 := Aside0.mk (H4.set 2 numberV)
  clear H4
  go_wp2_with fail
  refine (goes_number w0 _ g it io _ vw4 _ _ _ σ.ln σ.cl c (by simpa using H5.out) (by simp) HGO.out).mono ?_
  rintro e w6 ⟨rfl, vt6, H6⟩
  go_wp2_with fail
  go_ret
  exact ⟨rfl, _, _, by simpa [fnV, fnOf, goV, beginS] using H6⟩
end Go.Proofs.YtcpalnmodbbklaaDoor.P
