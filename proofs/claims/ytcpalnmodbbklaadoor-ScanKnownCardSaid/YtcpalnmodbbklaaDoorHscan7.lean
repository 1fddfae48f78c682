import Derived.Test.YtcpalnmodbbklaaDoorHscan6
/- The reader of scan: what it does with a rune in a name or a number, in a string, behind a backslash, behind a #. -/
namespace Go.Proofs.YtcpalnmodbbklaaDoor.P
set_option linter.unusedVariables false
set_option linter.unusedSimpArgs false
open Go.RowKit Go.Proofs.YtcpalnmodbbklaaDoorW.PrintWords Go.Proofs.YtcpalnmodbbklaaDoorW.PrintLast Go.Proofs.YtcpalnmodbbklaaDoorW.PrintMore

def stepP (σ : Sc) (c : Int) : Sc × Int :=
  if goB σ.gk c = true then ({ σ with tx := σ.tx ++ [c] }, 0) else if endsB c = true then stepB (endS σ) c else (σ, 4)
def stepQ (σ : Sc) (c : Int) : Sc × Int :=
  if c = 10 then (σ, 3) else if c < 32 then (σ, 4) else if c = 92 then ({ σ with md := .esc }, 0) else if c = 34 then (endS σ, 0) else ({ σ with tx := σ.tx ++ [c] }, 0)
def escB (c : Int) : Bool := decide (c = 34) || decide (c = 92) || decide (c = 110)
def escX (c : Int) : Int := if c = 110 then 10 else c
def stepE (σ : Sc) (c : Int) : Sc × Int :=
  if c = 10 then (σ, 3) else if escB c = true then ({ σ with md := .quo, tx := σ.tx ++ [escX c] }, 0) else (σ, 4)
def stepC (σ : Sc) (c : Int) : Sc × Int := (if c = 10 then { σ with md := .btw } else σ, 0)
theorem wd_snoc {l : List SW} (h : l ≠ []) : ∃ wl x, l = wl ++ [x] := ⟨l.dropLast, l.getLast h, (List.dropLast_concat_getLast h).symm⟩
theorem SB.snoc {w0 W : World} {g it : Nat} {io : Obj} {vf vg vw vt : Value} {wd : List SW} {tx : List Int} {ln cl : Int} (H : SB w0 W g it io #[vf, vw, vg, vt, .int .i64 ln, .int .i64 cl] vw vt wd tx) (hne : wd ≠ []) (hwl : wd.length ≤ 99999) :
    Calls Tryd.prog 44 #[.pointer (some ⟨g, 0, none⟩)] W fun e W' => e = .returned (.tuple #[]) ∧ SB w0 W' g it io #[fnV .btw, vw, vg, vt, .int .i64 ln, .int .i64 cl] vw vt (withText wd (runesBytes tx)) tx := by
  obtain ⟨wl, x, rfl⟩ := wd_snoc hne
  rw [withText_snoc]
  simp only [List.length_append, List.length_singleton] at hwl
  exact end_calls w0 W g it io vf vg vw vt wl x tx ln cl H (by omega)

set_option maxRecDepth 100000 in
set_option maxHeartbeats 3200000 in
theorem plain_name (w0 W : World) (g it : Nat) (io : Obj) (σ : Sc) (c : Int) (h0 : 0 ≤ c) (h1 : c ≤ 1114111) (H : SCs w0 W g it io σ) (hm : σ.md = .pln) (hgk : σ.gk = 1) (hne : σ.wd ≠ []) (hwl : σ.wd.length ≤ 99998) (htl : σ.tx.length ≤ 99999) :
    Calls Tryd.prog 39 #[.pointer (some ⟨g, 0, none⟩), .int .i32 c] W (Post w0 g it io (stepP σ c)) := by
  obtain ⟨vw, vt, H⟩ := H
  have hgv : goV σ.gk = nameV := by rw [hgk]; rfl
  have H0 := H
  rw [hgv] at H
  unfold stepP
  rw [hgk]
  cases hgo : goB 1 c with
  | true =>
    rw [if_pos rfl]
    refine (goes_name w0 W g it io _ vw vt _ _ σ.ln σ.cl c H (by omega) hgo).mono ?_
    rintro e w' ⟨rfl, vt', H'⟩
    rw [← hgv] at H'
    exact ⟨rfl, vw, vt', by simpa [hm, hgk] using H'⟩
  | false =>
    rw [if_neg (by simp)]
    have HF : Aside0 (scan_inName.f c = some false) := ⟨by rw [name_f, hgo]⟩
    have r2 : W.cell? ⟨g, 2, none⟩ = some nameV := (blk_cell H.rb 2).trans rfl
    have HH := Aside0.mk H
    have HGV := Aside0.mk hgv
    clear hgv H0 H hgk hgo
    cases he : endsB c with
    | false =>
      have HE := Aside0.mk he
      rw [if_neg (by simp)]
      clear he
      go_enter Tryd.func39, Tryd.ntmps39
      go_wp2_with fail
      refine (scan_inName.calls c false _ HF.out).mono ?_
      rintro e W1 ⟨rfl, hd⟩
      have H1 := Aside0.mk (HH.out.below hd.below)
      go_wp2_with fail
      refine (ends_calls c _ h0 h1).mono ?_
      rintro e W2 ⟨rfl, hb2⟩
      have H2 := Aside0.mk (H1.out.below hb2)
      rw [HE.out]
      go_wp2_with fail
      go_ret
      exact ⟨rfl, vw, vt, by rw [HGV.out]; exact H2.out⟩
    | true =>
      have HE := Aside0.mk he
      rw [if_pos rfl]
      clear he
      go_enter Tryd.func39, Tryd.ntmps39
      go_wp2_with fail
      refine (scan_inName.calls c false _ HF.out).mono ?_
      rintro e W1 ⟨rfl, hd⟩
      have H1 := Aside0.mk (HH.out.below hd.below)
      go_wp2_with fail
      refine (ends_calls c _ h0 h1).mono ?_
      rintro e W2 ⟨rfl, hb2⟩
      have H2 := Aside0.mk (H1.out.below hb2)
      rw [HE.out]
      go_wp2_with fail
      refine (H2.out.snoc hne (by omega)).mono ?_
      rintro e W3 ⟨rfl, H3⟩
      have H3 : Aside0 (SCs w0 W3 g it io (endS σ)) := ⟨⟨vw, vt, by rw [show (endS σ).gk = σ.gk from rfl, HGV.out]; exact H3⟩⟩
      clear H1 H2 hb2 hd
      go_wp2_with fail
      refine (between_calls w0 W3 g it io (endS σ) c h0 h1 H3.out ?_).mono ?_
      · obtain ⟨wl, x, hx⟩ := wd_snoc hne
        show (withText σ.wd _).length ≤ _
        rw [hx, withText_snoc]
        rw [hx] at hwl
        simp only [List.length_append, List.length_singleton] at hwl ⊢
        omega
      rintro e W4 ⟨rfl, H4⟩
      go_wp2_with fail
      go_ret
      exact ⟨rfl, H4⟩

set_option maxRecDepth 100000 in
set_option maxHeartbeats 3200000 in
theorem plain_number (w0 W : World) (g it : Nat) (io : Obj) (σ : Sc) (c : Int) (h0 : 0 ≤ c) (h1 : c ≤ 1114111) (H : SCs w0 W g it io σ) (hm : σ.md = .pln) (hgk : σ.gk = 2) (hne : σ.wd ≠ []) (hwl : σ.wd.length ≤ 99998) (htl : σ.tx.length ≤ 99999) :
    Calls Tryd.prog 39 #[.pointer (some ⟨g, 0, none⟩), .int .i32 c] W (Post w0 g it io (stepP σ c)) := by
  obtain ⟨vw, vt, H⟩ := H
  have hgv : goV σ.gk = numberV := by rw [hgk]; rfl
  have H0 := H
  rw [hgv] at H
  unfold stepP
  rw [hgk]
  cases hgo : goB 2 c with
  | true =>
    rw [if_pos rfl]
    refine (goes_number w0 W g it io _ vw vt _ _ σ.ln σ.cl c H (by omega) hgo).mono ?_
    rintro e w' ⟨rfl, vt', H'⟩
    rw [← hgv] at H'
    exact ⟨rfl, vw, vt', by simpa [hm, hgk] using H'⟩
  | false =>
    rw [if_neg (by simp)]
    have HF : Aside0 (scan_inNumber.f c = some false) := ⟨by rw [number_f, hgo]⟩
    have r2 : W.cell? ⟨g, 2, none⟩ = some numberV := (blk_cell H.rb 2).trans rfl
    have HH := Aside0.mk H
    have HGV := Aside0.mk hgv
    clear hgv H0 H hgk hgo
    cases he : endsB c with
    | false =>
      have HE := Aside0.mk he
      rw [if_neg (by simp)]
      clear he
      go_enter Tryd.func39, Tryd.ntmps39
      go_wp2_with fail
      refine (scan_inNumber.calls c false _ HF.out).mono ?_
      rintro e W1 ⟨rfl, hd⟩
      have H1 := Aside0.mk (HH.out.below hd.below)
      go_wp2_with fail
      refine (ends_calls c _ h0 h1).mono ?_
      rintro e W2 ⟨rfl, hb2⟩
      have H2 := Aside0.mk (H1.out.below hb2)
      rw [HE.out]
      go_wp2_with fail
      go_ret
      exact ⟨rfl, vw, vt, by rw [HGV.out]; exact H2.out⟩
    | true =>
      have HE := Aside0.mk he
      rw [if_pos rfl]
      clear he
      go_enter Tryd.func39, Tryd.ntmps39
      go_wp2_with fail
      refine (scan_inNumber.calls c false _ HF.out).mono ?_
      rintro e W1 ⟨rfl, hd⟩
      have H1 := Aside0.mk (HH.out.below hd.below)
      go_wp2_with fail
      refine (ends_calls c _ h0 h1).mono ?_
      rintro e W2 ⟨rfl, hb2⟩
      have H2 := Aside0.mk (H1.out.below hb2)
      rw [HE.out]
      go_wp2_with fail
      refine (H2.out.snoc hne (by omega)).mono ?_
      rintro e W3 ⟨rfl, H3⟩
      have H3 : Aside0 (SCs w0 W3 g it io (endS σ)) := ⟨⟨vw, vt, by rw [show (endS σ).gk = σ.gk from rfl, HGV.out]; exact H3⟩⟩
      clear H1 H2 hb2 hd
      go_wp2_with fail
      refine (between_calls w0 W3 g it io (endS σ) c h0 h1 H3.out ?_).mono ?_
      · obtain ⟨wl, x, hx⟩ := wd_snoc hne
        show (withText σ.wd _).length ≤ _
        rw [hx, withText_snoc]
        rw [hx] at hwl
        simp only [List.length_append, List.length_singleton] at hwl ⊢
        omega
      rintro e W4 ⟨rfl, H4⟩
      go_wp2_with fail
      go_ret
      exact ⟨rfl, H4⟩

set_option maxRecDepth 100000 in
set_option maxHeartbeats 3200000 in
theorem quoted_calls (w0 W : World) (g it : Nat) (io : Obj) (σ : Sc) (c : Int) (h0 : 0 ≤ c) (h1 : c ≤ 1114111) (H : SCs w0 W g it io σ) (hm : σ.md = .quo) (hne : σ.wd ≠ []) (hwl : σ.wd.length ≤ 99998) (htl : σ.tx.length ≤ 99999) :
    Calls Tryd.prog 43 #[.pointer (some ⟨g, 0, none⟩), .int .i32 c] W (Post w0 g it io (stepQ σ c)) := by
  unfold stepQ
  by_cases h10 : c = 10
  · rw [if_pos h10]
    subst h10
    have HH := Aside0.mk H
    clear H hm hne
    go_enter Tryd.func43, Tryd.ntmps43
    go_wp2_with fail
    go_ret
    exact ⟨rfl, HH.out⟩
  · rw [if_neg h10]
    have q1 : ((c : Int) == 10) = false := beq_eq_false_iff_ne.mpr h10
    clear h10
    by_cases hlo : c < 32
    · rw [if_pos hlo]
      have HH := Aside0.mk H
      clear H hm hne
      go_enter Tryd.func43, Tryd.ntmps43
      go_wp2_with fail
      go_ret
      exact ⟨rfl, HH.out⟩
    · rw [if_neg hlo]
      obtain ⟨vw, vt, H⟩ := H
      have H1 := Aside0.mk H
      clear H
      have hlo2 : 32 ≤ c := by omega
      clear hlo
      by_cases h92 : c = 92
      · rw [if_pos h92]
        subst h92
        have d0 : W.cell? ⟨g, 0, none⟩ = some (fnV σ.md) := (blk_cell H1.out.rb 0).trans rfl
        have e0 := blk_frozen H1.out.rb 0
        clear hm hne
        go_enter Tryd.func43, Tryd.ntmps43
        go_wp2_with fail
        have H3 := H1.out.set 0 (.func (.func 60) #[] #[])
        go_ret
        exact ⟨rfl, _, _, by simpa [fnV, fnOf] using H3⟩
      · rw [if_neg h92]
        have q2 : ((c : Int) == 92) = false := beq_eq_false_iff_ne.mpr h92
        clear h92
        by_cases h34 : c = 34
        · rw [if_pos h34]
          subst h34
          clear hm
          go_enter Tryd.func43, Tryd.ntmps43
          go_wp2_with fail
          refine (H1.out.snoc hne (by omega)).mono ?_
          rintro e W3 ⟨rfl, H3⟩
          have H3 := Aside0.mk H3
          go_wp2_with fail
          go_ret
          exact ⟨rfl, vw, vt, H3.out⟩
        · rw [if_neg h34]
          have q3 : ((c : Int) == 34) = false := beq_eq_false_iff_ne.mpr h34
          clear h34
          have r3 : W.cell? ⟨g, 3, none⟩ = some vt := (blk_cell H1.out.rb 3).trans rfl
          have HM := Aside0.mk hm
          clear hm hne
          go_enter Tryd.func43, Tryd.ntmps43
          go_wp2_with ((at_builtin; refine Kd.R_append (Kd.int .i32) (w0 := w0) w0.heap.size rfl (.tmp 9) (.tmp 11) 43 21 (.int .i32 0) 4 rfl Tryd.underlying43 infoR rfl (by decide) (by decide) vt σ.tx c [.int .i32 c] (fun k => k ≠ g ∧ k ≠ it ∧ some k ≠ vw.ownBlock) (fun _ => False) rfl rfl rfl (fun _ h => h.elim) H1.out.freshT H1.out.ht H1.out.bl H1.out.bl.size (by omega) ?_; intro v5 W5 HV5 HB5 hg5 hat5; obtain ⟨A5, c5, rfl⟩ := Kd.R_slice HV5; have H5 := H1.out.appT HV5 HB5 hg5 hat5; have r5 : W5.cell? ⟨g, 3, none⟩ = some vt := (blk_cell H5.rb 3).trans rfl; have f5 := blk_frozen H5.rb 3; replace H5 := Aside0.mk H5; clear HV5 HB5 hg5 hat5))
          have H6 := H5.out.set 3 (.slice A5 (σ.tx ++ [c]).length c5)
          go_ret
          exact ⟨rfl, _, _, by simpa using H6⟩

set_option maxRecDepth 100000 in
set_option maxHeartbeats 3200000 in
theorem comment_calls (w0 W : World) (g it : Nat) (io : Obj) (σ : Sc) (c : Int) (h0 : 0 ≤ c) (h1 : c ≤ 1114111) (H : SCs w0 W g it io σ) :
    Calls Tryd.prog 36 #[.pointer (some ⟨g, 0, none⟩), .int .i32 c] W (Post w0 g it io (stepC σ c)) := by
  unfold stepC
  by_cases h10 : c = 10
  · rw [if_pos h10]
    subst h10
    obtain ⟨vw, vt, H⟩ := H
    have H1 := Aside0.mk H
    clear H
    have d0 : W.cell? ⟨g, 0, none⟩ = some (fnV σ.md) := (blk_cell H1.out.rb 0).trans rfl
    have e0 := blk_frozen H1.out.rb 0
    go_enter Tryd.func36, Tryd.ntmps36
    go_wp2_with fail
    have H3 := H1.out.set 0 (.func (.func 20) #[] #[])
    go_ret
    exact ⟨rfl, _, _, by simpa [fnV, fnOf] using H3⟩
  · rw [if_neg h10]
    have q1 : ((c : Int) == 10) = false := beq_eq_false_iff_ne.mpr h10
    clear h10
    have HH := Aside0.mk H
    clear H
    go_enter Tryd.func36, Tryd.ntmps36
    go_wp2_with fail
    go_ret
    exact ⟨rfl, HH.out⟩

theorem zeroI (w : World) : (zeroValue 21).run Tryd.prog w = .ok (.int .i32 0) w := by kernel_rfl
theorem esc_at (c : Int) : Maps.has escD (.int .i32 c) = escB c := by
  unfold Maps.has escD escB
  simp only [List.any_cons, List.any_nil, Bool.or_false, Lit.sameKey]
  rw [Bool.eq_iff_iff]
  simp
  omega
theorem esc_val (c d : Int) (he : escB c = true) (h : escD.atKey (.int .i32 c) (.lit (.int .i32 0)) = .lit (.int .i32 d)) : d = escX c := by
  unfold escB at he
  simp only [Bool.or_eq_true, decide_eq_true_eq] at he
  rcases he with (rfl | rfl) | rfl
  · have e : escD.atKey (.int .i32 34) (.lit (.int .i32 0)) = .lit (.int .i32 34) := by rfl
    rw [e] at h
    injection h with h
    injection h with _ h
    rw [← h]; rfl
  · have e : escD.atKey (.int .i32 92) (.lit (.int .i32 0)) = .lit (.int .i32 92) := by rfl
    rw [e] at h
    injection h with h
    injection h with _ h
    rw [← h]; rfl
  · have e : escD.atKey (.int .i32 110) (.lit (.int .i32 0)) = .lit (.int .i32 10) := by rfl
    rw [e] at h
    injection h with h
    injection h with _ h
    rw [← h]; rfl
set_option maxRecDepth 100000 in
set_option maxHeartbeats 3200000 in
theorem escaped_calls (w0 W : World) (g it : Nat) (io : Obj) (σ : Sc) (c : Int) (h0 : 0 ≤ c) (h1 : c ≤ 1114111) (H : SCs w0 W g it io σ) (htl : σ.tx.length ≤ 99999) :
    Calls Tryd.prog 60 #[.pointer (some ⟨g, 0, none⟩), .int .i32 c] W (Post w0 g it io (stepE σ c)) := by
  obtain ⟨vw, vt, H⟩ := H
  have H0 := Aside0.mk H
  clear H
  have HK := Aside0.mk (keyI c h0 h1)
  have HE := Aside0.mk (esc_at c)
  unfold stepE
  by_cases h10 : c = 10
  · rw [if_pos h10]
    subst h10
    go_enter Tryd.func60, Tryd.ntmps60
    go_wp2_with fail
    refine (escapes_calls _).mono ?_
    rintro e W1 ⟨rfl, ho, hb⟩
    have H1 := Aside0.mk (H0.out.below hb)
    have HO := Aside0.mk ho
    clear ho hb
    go_wp2_with ((at_lookup; refine wpList_lookup_own_ok_int _ rfl _ _ 100 rfl 21 21 .i32 lawK Tryd.underlying100 Tryd.underlying21 (zeroI _) _ 3 escD rfl HO.out _ _ rfl HK.out ?_; intro d hat hwc; have HD : Aside0 (True) := ⟨trivial⟩; clear hat hwc; rw [HE.out]))
    go_ret
    exact ⟨rfl, vw, vt, H1.out⟩
  · rw [if_neg h10]
    have q1 : ((c : Int) == 10) = false := beq_eq_false_iff_ne.mpr h10
    clear h10
    cases he : escB c with
    | false =>
      rw [if_neg (by simp)]
      rw [he] at HE
      clear he
      go_enter Tryd.func60, Tryd.ntmps60
      go_wp2_with fail
      refine (escapes_calls _).mono ?_
      rintro e W1 ⟨rfl, ho, hb⟩
      have H1 := Aside0.mk (H0.out.below hb)
      have HO := Aside0.mk ho
      clear ho hb
      go_wp2_with ((at_lookup; refine wpList_lookup_own_ok_int _ rfl _ _ 100 rfl 21 21 .i32 lawK Tryd.underlying100 Tryd.underlying21 (zeroI _) _ 3 escD rfl HO.out _ _ rfl HK.out ?_; intro d hat hwc; have HD : Aside0 (True) := ⟨trivial⟩; clear hat hwc; rw [HE.out]))
      go_ret
      exact ⟨rfl, vw, vt, H1.out⟩
    | true =>
      rw [if_pos rfl]
      have HV := fun d => esc_val c d he
      have HV := Aside0.mk HV
      rw [he] at HE
      clear he
      go_enter Tryd.func60, Tryd.ntmps60
      go_wp2_with fail
      refine (escapes_calls _).mono ?_
      rintro e W1 ⟨rfl, ho, hb⟩
      have H1 := Aside0.mk (H0.out.below hb)
      have HO := Aside0.mk ho
      have r3 : W1.cell? ⟨g, 3, none⟩ = some vt := (blk_cell H1.out.rb 3).trans rfl
      clear ho hb
      go_wp2_with (first | (at_lookup; refine wpList_lookup_own_ok_int _ rfl _ _ 100 rfl 21 21 .i32 lawK Tryd.underlying100 Tryd.underlying21 (zeroI _) _ 3 escD rfl HO.out _ _ rfl HK.out ?_; intro d hat hwc; have HD : Aside0 (d = escX c) := ⟨HV.out d hat⟩; clear hat hwc; rw [HE.out]) | (at_builtin; refine Kd.R_append (Kd.int .i32) (w0 := w0) w0.heap.size rfl (.tmp 23) (.tmp 25) 43 21 (.int .i32 0) 4 rfl Tryd.underlying43 infoR rfl (by decide) (by decide) vt σ.tx d [.int .i32 d] (fun k => k ≠ g ∧ k ≠ it ∧ some k ≠ vw.ownBlock) (fun _ => False) rfl rfl rfl (fun _ h => h.elim) H1.out.freshT H1.out.ht H1.out.bl H1.out.bl.size (by omega) ?_; intro v5 W5 HV5 HB5 hg5 hat5; obtain ⟨A5, c5, rfl⟩ := Kd.R_slice HV5; have H5 := H1.out.appT HV5 HB5 hg5 hat5; have r5 : W5.cell? ⟨g, 3, none⟩ = some vt := (blk_cell H5.rb 3).trans rfl; have f5 := blk_frozen H5.rb 3; have r0 : W5.cell? ⟨g, 0, none⟩ = some (fnV σ.md) := (blk_cell H5.rb 0).trans rfl; have f0 := blk_frozen H5.rb 0; replace H5 := Aside0.mk H5; clear HV5 HB5 hg5 hat5))
      have H6 := (H5.out.set 3 (.slice A5 (σ.tx ++ [d]).length c5)).set 0 (.func (.func 43) #[] #[])
      go_ret
      exact ⟨rfl, _, _, by rw [← HD.out]; simpa [fnV, fnOf] using H6⟩
end Go.Proofs.YtcpalnmodbbklaaDoor.P
