import Derived.Test.YtcpalnmodbbklaaDoorHscan2
/- The reader of scan: between words, and in a name or a number. -/
namespace Go.Proofs.YtcpalnmodbbklaaDoor.P
set_option linter.unusedVariables false
set_option linter.unusedSimpArgs false
open Go.RowKit Go.Proofs.YtcpalnmodbbklaaDoorW.PrintWords Go.Proofs.YtcpalnmodbbklaaDoorW.PrintLast Go.Proofs.YtcpalnmodbbklaaDoorW.PrintMore

abbrev nameV : Value := .func (.func 40) #[] #[]
abbrev numberV : Value := .func (.func 42) #[] #[]
set_option maxRecDepth 100000 in
set_option maxHeartbeats 3200000 in
theorem goes_name (w0 W : World) (g it : Nat) (io : Obj) (vf vw vt : Value) (wd : List SW) (tx : List Int) (ln cl c : Int) (H : SB w0 W g it io #[vf, vw, nameV, vt, .int .i64 ln, .int .i64 cl] vw vt wd tx) (htl : tx.length ≤ 100000) (hgo : goB 1 c = true) :
    Calls Tryd.prog 39 #[.pointer (some ⟨g, 0, none⟩), .int .i32 c] W fun e W' => e = .returned (.int .i64 0) ∧ ∃ vt', SB w0 W' g it io #[vf, vw, nameV, vt', .int .i64 ln, .int .i64 cl] vw vt' wd (tx ++ [c]) := by
  have hf := name_f c
  rw [hgo] at hf
  have HF := Aside0.mk hf
  have r2 : W.cell? ⟨g, 2, none⟩ = some nameV := (blk_cell H.rb 2).trans rfl
  clear hf hgo
  go_enter Tryd.func39, Tryd.ntmps39
  go_wp2_with fail
  refine (scan_inName.calls c true _ HF.out).mono ?_
  rintro e W1 ⟨rfl, hd⟩
  have H1 := H.below hd.below
  have r3 : W1.cell? ⟨g, 3, none⟩ = some vt := (blk_cell H1.rb 3).trans rfl
  have h3 := blk_frozen H1.rb 3
  clear r2 H hd HF
  have H1 := Aside0.mk H1
  go_wp2_with ((at_builtin; refine Kd.R_append (Kd.int .i32) (w0 := w0) w0.heap.size rfl (.tmp 16) (.tmp 18) 43 21 (.int .i32 0) 4 rfl Tryd.underlying43 infoR rfl (by decide) (by decide) vt tx c [.int .i32 c] (fun k => k ≠ g ∧ k ≠ it ∧ some k ≠ vw.ownBlock) (fun _ => False) rfl rfl rfl (fun _ h => h.elim) H1.out.freshT H1.out.ht H1.out.bl H1.out.bl.size (by omega) ?_; intro v5 W5 HV5 HB5 hg5 hat5; obtain ⟨A5, c5, rfl⟩ := Kd.R_slice HV5; have H5 := H1.out.appT HV5 HB5 hg5 hat5; have r5 : W5.cell? ⟨g, 3, none⟩ = some vt := (blk_cell H5.rb 3).trans rfl; have f5 := blk_frozen H5.rb 3; replace H5 := Aside0.mk H5; clear HV5 HB5 hg5 hat5))
  have H6 := H5.out.set 3 (.slice A5 (tx ++ [c]).length c5)
  go_ret
  exact ⟨rfl, _, by simpa using H6⟩
set_option maxRecDepth 100000 in
set_option maxHeartbeats 3200000 in
theorem goes_number (w0 W : World) (g it : Nat) (io : Obj) (vf vw vt : Value) (wd : List SW) (tx : List Int) (ln cl c : Int) (H : SB w0 W g it io #[vf, vw, numberV, vt, .int .i64 ln, .int .i64 cl] vw vt wd tx) (htl : tx.length ≤ 100000) (hgo : goB 2 c = true) :
    Calls Tryd.prog 39 #[.pointer (some ⟨g, 0, none⟩), .int .i32 c] W fun e W' => e = .returned (.int .i64 0) ∧ ∃ vt', SB w0 W' g it io #[vf, vw, numberV, vt', .int .i64 ln, .int .i64 cl] vw vt' wd (tx ++ [c]) := by
  have hf := number_f c
  rw [hgo] at hf
  have HF := Aside0.mk hf
  have r2 : W.cell? ⟨g, 2, none⟩ = some numberV := (blk_cell H.rb 2).trans rfl
  clear hf hgo
  go_enter Tryd.func39, Tryd.ntmps39
  go_wp2_with fail
  refine (scan_inNumber.calls c true _ HF.out).mono ?_
  rintro e W1 ⟨rfl, hd⟩
  have H1 := H.below hd.below
  have r3 : W1.cell? ⟨g, 3, none⟩ = some vt := (blk_cell H1.rb 3).trans rfl
  have h3 := blk_frozen H1.rb 3
  clear r2 H hd HF
  have H1 := Aside0.mk H1
  go_wp2_with ((at_builtin; refine Kd.R_append (Kd.int .i32) (w0 := w0) w0.heap.size rfl (.tmp 16) (.tmp 18) 43 21 (.int .i32 0) 4 rfl Tryd.underlying43 infoR rfl (by decide) (by decide) vt tx c [.int .i32 c] (fun k => k ≠ g ∧ k ≠ it ∧ some k ≠ vw.ownBlock) (fun _ => False) rfl rfl rfl (fun _ h => h.elim) H1.out.freshT H1.out.ht H1.out.bl H1.out.bl.size (by omega) ?_; intro v5 W5 HV5 HB5 hg5 hat5; obtain ⟨A5, c5, rfl⟩ := Kd.R_slice HV5; have H5 := H1.out.appT HV5 HB5 hg5 hat5; have r5 : W5.cell? ⟨g, 3, none⟩ = some vt := (blk_cell H5.rb 3).trans rfl; have f5 := blk_frozen H5.rb 3; replace H5 := Aside0.mk H5; clear HV5 HB5 hg5 hat5))
  have H6 := H5.out.set 3 (.slice A5 (tx ++ [c]).length c5)
  go_ret
  exact ⟨rfl, _, by simpa using H6⟩
end Go.Proofs.YtcpalnmodbbklaaDoor.P
