import Derived.Test.YtcpalnmodbbklaaDoorP0
import Derived.Test.YtcpalnmodbbklaaDoorHrune
import Derived.Laws.Cover4
import Derived.Laws.EntriesVeiled
/- The reader of scan: its states, and contracts of its parts. -/
namespace Go.Proofs.YtcpalnmodbbklaaDoor.P
set_option linter.unusedVariables false
set_option linter.unusedSimpArgs false
open Go.RowKit Go.Proofs.YtcpalnmodbbklaaDoorW.PrintWords Go.Proofs.YtcpalnmodbbklaaDoorW.PrintLast Go.Proofs.YtcpalnmodbbklaaDoorW.PrintMore

abbrev SW := S36
abbrev kW : Kd SW := k36
theorem kW_mkM (w : World) (base : Nat) (ok : Nat → Prop) (x : SW) : kW.M w base ok x [.int .i64 x.f0, .string x.f1, .int .i64 x.f2, .int .i64 x.f3] := k36_mkM w base ok x
theorem infoW : (Tryd.prog.info? 36).map (fun i => (i.zero, i.size, i.bytes)) = some (some (.agg #[.int .i64 0, .string ⟨#[]⟩, .int .i64 0, .int .i64 0]), 4, 40) := by kernel_rfl
theorem infoR : (Tryd.prog.info? 21).map (fun i => (i.zero, i.size, i.bytes)) = some (some (.int .i32 0), 1, 4) := by kernel_rfl

/-- the reader's block, of such cells, the words' row, the text's row, and some other block (the iterator's) -/
structure SB (w0 W : World) (g it : Nat) (io : Obj) (cs : Array Value) (vw vt : Value) (wd : List SW) (tx : List Int) : Prop where
  rb : W.heap[g]? = some (.cells cs 45 (0, 0))
  ib : W.heap[it]? = some io
  bl : Below w0.heap.size w0 W
  hw : Kd.R kW 36 W w0.heap.size (fun k => k ≠ g ∧ k ≠ it ∧ some k ≠ vt.ownBlock) vw wd
  ht : Kd.R (Kd.int .i32) 21 W w0.heap.size (fun k => k ≠ g ∧ k ≠ it ∧ some k ≠ vw.ownBlock) vt tx
  hg : w0.heap.size ≤ g
  hi : w0.heap.size ≤ it
  ne : g ≠ it
section
variable {w0 W W' : World} {g it : Nat} {io : Obj} {cs : Array Value} {vw vt : Value} {wd : List SW} {tx : List Int}
theorem SB.set (h : SB w0 W g it io cs vw vt wd tx) (i : Nat) (v : Value) : SB w0 (W.setCell ⟨g, i, none⟩ v) g it io (cs.setIfInBounds i v) vw vt wd tx :=
  ⟨blk_set h.rb i v, (Below.heap_setCell W ⟨g, i, none⟩ v it (Ne.symm h.ne)).trans h.ib, h.bl.setCell h.hg v, Kd.R_far (p := ⟨g, i, none⟩) h.hw (fun k hk => hk.1) v, Kd.R_far (p := ⟨g, i, none⟩) h.ht (fun k hk => hk.1) v, h.hg, h.hi, h.ne⟩
theorem SB.below (h : SB w0 W g it io cs vw vt wd tx) (hb : Below W.heap.size W W') : SB w0 W' g it io cs vw vt wd tx :=
  ⟨(hb.block g (blk_lt h.rb)).trans h.rb, (hb.block it (blk_lt h.ib)).trans h.ib, below_then h.bl h.bl.size hb, Kd.R_below h.hw hb, Kd.R_below h.ht hb, h.hg, h.hi, h.ne⟩
theorem SB.drew (h : SB w0 W g it io cs vw vt wd tx) : SB w0 W.drew g it io cs vw vt wd tx := h.below (below_drew (Below.refl _ _))
theorem SB.fresh (h : SB w0 W g it io cs vw vt wd tx) : ∀ k, W.heap.size ≤ k → k ≠ g ∧ k ≠ it ∧ some k ≠ vt.ownBlock := fun k hk => by
  have h1 := blk_lt h.rb
  have h2 := blk_lt h.ib
  refine ⟨by omega, by omega, fun e => ?_⟩
  have := Kd.R_lt h.ht k e.symm
  omega
theorem SB.freshT (h : SB w0 W g it io cs vw vt wd tx) : ∀ k, W.heap.size ≤ k → k ≠ g ∧ k ≠ it ∧ some k ≠ vw.ownBlock := fun k hk => by
  have h1 := blk_lt h.rb
  have h2 := blk_lt h.ib
  refine ⟨by omega, by omega, fun e => ?_⟩
  have := Kd.R_lt h.hw k e.symm
  omega
theorem SB.appW {v1 : Value} {w1 : World} {wd1 : List SW} (h : SB w0 W g it io cs vw vt wd tx) (HV : Kd.R kW 36 w1 w0.heap.size (fun k => k ≠ g ∧ k ≠ it ∧ some k ≠ vt.ownBlock) v1 wd1)
    (hb : Below w0.heap.size w0 w1) (hgr : W.drew.grownBy w1 vw.ownBlock) (hat : v1.ownBlock = vw.ownBlock ∨ ∃ b, v1.ownBlock = some b ∧ W.drew.heap.size ≤ b) : SB w0 w1 g it io cs v1 vt wd1 tx := by
  have hgW : some g ≠ vw.ownBlock := fun e => (h.hw.1 g e.symm).1 rfl
  have hiW : some it ≠ vw.ownBlock := fun e => (h.hw.1 it e.symm).2.1 rfl
  have ht1 := Kd.R_grown (Kd.R_drew h.ht) hgr (fun k hk => hk.2.2)
  refine ⟨blk_grown (w := W.drew) h.rb hgr hgW, blk_grown (w := W.drew) h.ib hgr hiW, hb, HV, ?_, h.hg, h.hi, h.ne⟩
  have hlt : ∀ k, vt.ownBlock = some k → k < W.heap.size := Kd.R_lt h.ht
  refine Kd.R_mono (Kd.R_bound (Kd.R_grown (Kd.R_bound (Kd.R_drew h.ht)) hgr (fun k hk => hk.1.2.2))) (fun k hk => ⟨hk.1.1.1, hk.1.1.2.1, fun e => ?_⟩)
  rcases hat with hat | ⟨b, hb1, hb2⟩
  · rw [hat] at e
    exact hk.1.1.2.2 e
  · rw [hb1] at e
    injection e with e
    subst e
    have h3 : k < W.drew.heap.size := hk.1.2.2.1
    omega
theorem SB.appT {v1 : Value} {w1 : World} {tx1 : List Int} (h : SB w0 W g it io cs vw vt wd tx) (HV : Kd.R (Kd.int .i32) 21 w1 w0.heap.size (fun k => k ≠ g ∧ k ≠ it ∧ some k ≠ vw.ownBlock) v1 tx1)
    (hb : Below w0.heap.size w0 w1) (hgr : W.grownBy w1 vt.ownBlock) (hat : v1.ownBlock = vt.ownBlock ∨ ∃ b, v1.ownBlock = some b ∧ W.heap.size ≤ b) : SB w0 w1 g it io cs vw v1 wd tx1 := by
  have hgW : some g ≠ vt.ownBlock := fun e => (h.ht.1 g e.symm).1 rfl
  have hiW : some it ≠ vt.ownBlock := fun e => (h.ht.1 it e.symm).2.1 rfl
  refine ⟨blk_grown h.rb hgr hgW, blk_grown h.ib hgr hiW, hb, ?_, HV, h.hg, h.hi, h.ne⟩
  refine Kd.R_mono (Kd.R_bound (Kd.R_grown (Kd.R_bound h.hw) hgr (fun k hk => hk.1.2.2))) (fun k hk => ⟨hk.1.1.1, hk.1.1.2.1, fun e => ?_⟩)
  rcases hat with hat | ⟨b, hb1, hb2⟩
  · rw [hat] at e
    exact hk.1.1.2.2 e
  · rw [hb1] at e
    injection e with e
    subst e
    have h3 : k < W.heap.size := hk.1.2.2.1
    omega
theorem SB.noT (h : SB w0 W g it io cs vw vt wd tx) : SB w0 W g it io cs vw (.slice none 0 0) wd [] :=
  ⟨h.rb, h.ib, h.bl, Kd.R_mono h.hw (fun k hk => ⟨hk.1, hk.2.1, fun e => by simp [Value.ownBlock] at e⟩), Kd.R_nil _ _ _ _ _, h.hg, h.hi, h.ne⟩
end
/-- a reader's modes, and its states -/
inductive Md where | btw | pln | quo | esc | com
structure Sc where
  md : Md
  wd : List SW
  gk : Nat
  tx : List Int
  ln : Int
  cl : Int
def fnOf : Md → Nat
  | .btw => 20
  | .pln => 39
  | .quo => 43
  | .esc => 60
  | .com => 36
def fnV (m : Md) : Value := .func (.func (fnOf m)) #[] #[]

set_option maxRecDepth 100000 in
set_option maxHeartbeats 3200000 in
theorem begin_calls (w0 W : World) (g it : Nat) (io : Obj) (vf vg vw vt : Value) (wd : List SW) (tx : List Int) (ln cl kind : Int) (q : Nat) (H : SB w0 W g it io #[vf, vw, vg, vt, .int .i64 ln, .int .i64 cl] vw vt wd tx) (hwl : wd.length ≤ 100000) :
    Calls Tryd.prog 38 #[.pointer (some ⟨g, 0, none⟩), .int .i64 kind, .func (.func q) #[] #[]] W fun e W' => e = .returned (.tuple #[]) ∧ ∃ vw', SB w0 W' g it io #[.func (.func q) #[] #[], vw', vg, .slice none 0 0, .int .i64 ln, .int .i64 cl] vw' (.slice none 0 0) (wd ++ [⟨kind, ⟨#[]⟩, ln, cl⟩]) [] := by
  have r1 : W.cell? ⟨g, 1, none⟩ = some vw := (blk_cell H.rb 1).trans rfl
  have r4 : W.cell? ⟨g, 4, none⟩ = some (.int .i64 ln) := (blk_cell H.rb 4).trans rfl
  have r5 : W.cell? ⟨g, 5, none⟩ = some (.int .i64 cl) := (blk_cell H.rb 5).trans rfl
  go_enter Tryd.func38, Tryd.ntmps38
  go_wp2
  refine start_ (n := 20) (S := fun w' => w'.cell? ⟨g, 1, none⟩ = some vw ∧ w'.cell? ⟨g, 4, none⟩ = some (.int .i64 ln) ∧ w'.cell? ⟨g, 5, none⟩ = some (.int .i64 cl)) (ds := [16, 19]) #[false, false, false, false, false, false, false, false, false, false, false, false, false, false, false, false, false, false, false, false] (by kernel_rfl) rfl rfl ⟨r1, r4, r5⟩ (fun hHeld => ?_)
  refine pure_ (i := 0) (N := some 6) (v := ?_) (a' := ?_) #[true, false, false, false, false, false, false, false, false, false, false, false, false, false, false, false, false, false, false, false] rfl rfl (by kernel_rfl) (fun _ _ _ h => h) (Or.inl ⟨by rfl, ?_⟩) ?_ ?_
  rotate_left
  · intro w'
    go_simp
    with_reducible rfl
  rotate_left
  · simp only [Act.put, List.setIfInBounds_toArray, List.set_cons_zero, List.set_cons_succ, i64_w, i32_w]
    rfl
  refine pure_ (i := 1) (N := some 7) (v := ?_) (a' := ?_) #[true, true, false, false, false, false, false, false, false, false, false, false, false, false, false, false, false, false, false, false] rfl rfl (by kernel_rfl) (fun _ _ _ h => h) (Or.inl ⟨by rfl, ?_⟩) ?_ ?_
  rotate_left
  · intro w'
    go_simp
    with_reducible rfl
  rotate_left
  · simp only [Act.put, List.setIfInBounds_toArray, List.set_cons_zero, List.set_cons_succ, i64_w, i32_w]
    rfl
  refine pure_ (i := 2) (N := some 8) (v := ?_) (a' := ?_) #[true, true, true, false, false, false, false, false, false, false, false, false, false, false, false, false, false, false, false, false] rfl rfl (by kernel_rfl) (fun _ _ _ h => h) (Or.inl ⟨by rfl, ?_⟩) ?_ ?_
  rotate_left
  · intro w'
    go_simp
    with_reducible rfl
  rotate_left
  · simp only [Act.put, List.setIfInBounds_toArray, List.set_cons_zero, List.set_cons_succ, i64_w, i32_w]
    rfl
  refine pure_ (i := 3) (N := some 9) (v := ?_) (a' := ?_) #[true, true, true, true, false, false, false, false, false, false, false, false, false, false, false, false, false, false, false, false] rfl rfl (by kernel_rfl) (fun _ _ _ h => h) (Or.inl ⟨by rfl, ?_⟩) ?_ ?_
  rotate_left
  · intro w'
    go_simp
    with_reducible rfl
  rotate_left
  · simp only [Act.put, List.setIfInBounds_toArray, List.set_cons_zero, List.set_cons_succ, i64_w, i32_w]
    rfl
  refine pure_ (i := 5) (N := some 11) (v := ?_) (a' := ?_) #[true, true, true, true, false, true, false, false, false, false, false, false, false, false, false, false, false, false, false, false] rfl rfl (by kernel_rfl) (fun _ _ _ h => h) (Or.inl ⟨by rfl, ?_⟩) ?_ ?_
  rotate_left
  · intro w'
    go_simp
    with_reducible rfl
  rotate_left
  · simp only [Act.put, List.setIfInBounds_toArray, List.set_cons_zero, List.set_cons_succ, i64_w, i32_w]
    rfl
  refine pure_ (i := 6) (N := some 12) (v := ?_) (a' := ?_) #[true, true, true, true, false, true, true, false, false, false, false, false, false, false, false, false, false, false, false, false] rfl rfl (by kernel_rfl) (fun _ _ _ h => h) (Or.inl ⟨by rfl, ?_⟩) ?_ ?_
  rotate_left
  · intro w'
    go_simp
    with_reducible rfl
  rotate_left
  · simp only [Act.put, List.setIfInBounds_toArray, List.set_cons_zero, List.set_cons_succ, i64_w, i32_w]
    rfl
  refine pure_ (i := 7) (N := some 13) (v := ?_) (a' := ?_) #[true, true, true, true, false, true, true, true, false, false, false, false, false, false, false, false, false, false, false, false] rfl rfl (by kernel_rfl) (fun _ _ _ h => h) (Or.inl ⟨by rfl, ?_⟩) ?_ ?_
  rotate_left
  · intro w'
    go_simp
    with_reducible rfl
  rotate_left
  · simp only [Act.put, List.setIfInBounds_toArray, List.set_cons_zero, List.set_cons_succ, i64_w, i32_w]
    rfl
  refine pure_ (i := 8) (N := some 14) (v := ?_) (a' := ?_) #[true, true, true, true, false, true, true, true, true, false, false, false, false, false, false, false, false, false, false, false] rfl rfl (by kernel_rfl) (fun _ _ _ h => h) (Or.inl ⟨by rfl, ?_⟩) ?_ ?_
  rotate_left
  · intro w'
    go_simp
    with_reducible rfl
  rotate_left
  · simp only [Act.put, List.setIfInBounds_toArray, List.set_cons_zero, List.set_cons_succ, i64_w, i32_w]
    rfl
  refine pure_ (i := 10) (N := some 16) (v := ?_) (a' := ?_) #[true, true, true, true, false, true, true, true, true, false, true, false, false, false, false, false, false, false, false, false] rfl rfl (by kernel_rfl) (fun _ _ _ h => h) (Or.inl ⟨by rfl, ?_⟩) ?_ ?_
  rotate_left
  · intro w'
    go_simp
    with_reducible rfl
  rotate_left
  · simp only [Act.put, List.setIfInBounds_toArray, List.set_cons_zero, List.set_cons_succ, i64_w, i32_w]
    rfl
  refine pure_ (i := 11) (N := some 17) (v := ?_) (a' := ?_) #[true, true, true, true, false, true, true, true, true, false, true, true, false, false, false, false, false, false, false, false] rfl rfl (by kernel_rfl) (fun _ _ _ h => h) (Or.inl ⟨by rfl, ?_⟩) ?_ ?_
  rotate_left
  · intro w'
    go_simp
    with_reducible rfl
  rotate_left
  · simp only [Act.put, List.setIfInBounds_toArray, List.set_cons_zero, List.set_cons_succ, i64_w, i32_w]
    rfl
  refine pure_ (i := 12) (N := some 18) (v := ?_) (a' := ?_) #[true, true, true, true, false, true, true, true, true, false, true, true, true, false, false, false, false, false, false, false] rfl rfl (by kernel_rfl) (fun _ _ _ h => h) (Or.inl ⟨by rfl, ?_⟩) ?_ ?_
  rotate_left
  · intro w'
    go_simp
    with_reducible rfl
  rotate_left
  · simp only [Act.put, List.setIfInBounds_toArray, List.set_cons_zero, List.set_cons_succ, i64_w, i32_w]
    rfl
  refine take_ (i := 4) (N := some 10) (v := ?_) (a' := ?_) #[true, true, true, true, true, true, true, true, true, false, true, true, true, false, false, false, false, false, false, false] rfl rfl (by kernel_rfl) (fun _ _ _ h => h) (Or.inl ⟨by rfl, ?_⟩) hHeld ?_ ?_
  rotate_left
  · rintro w' ⟨s0, s1, s2⟩
    go_simp
    with_reducible rfl
  rotate_left
  · simp only [Act.put, List.setIfInBounds_toArray, List.set_cons_zero, List.set_cons_succ, i64_w, i32_w]
    rfl
  refine take_ (i := 9) (N := some 15) (v := ?_) (a' := ?_) #[true, true, true, true, true, true, true, true, true, true, true, true, true, false, false, false, false, false, false, false] rfl rfl (by kernel_rfl) (fun _ _ _ h => h) (Or.inl ⟨by rfl, ?_⟩) hHeld ?_ ?_
  rotate_left
  · rintro w' ⟨s0, s1, s2⟩
    go_simp
    with_reducible rfl
  rotate_left
  · simp only [Act.put, List.setIfInBounds_toArray, List.set_cons_zero, List.set_cons_succ, i64_w, i32_w]
    rfl
  refine take_ (i := 13) (N := some 19) (v := ?_) (a' := ?_) #[true, true, true, true, true, true, true, true, true, true, true, true, true, true, false, false, false, false, false, false] rfl rfl (by kernel_rfl) (fun _ _ _ h => h) (Or.inl ⟨by rfl, ?_⟩) hHeld ?_ ?_
  rotate_left
  · rintro w' ⟨s0, s1, s2⟩
    go_simp
    with_reducible rfl
  rotate_left
  · simp only [Act.put, List.setIfInBounds_toArray, List.set_cons_zero, List.set_cons_succ, i64_w, i32_w]
    rfl
  refine pure_ (i := 14) (N := some 20) (v := ?_) (a' := ?_) #[true, true, true, true, true, true, true, true, true, true, true, true, true, true, true, false, false, false, false, false] rfl rfl (by kernel_rfl) (fun _ _ _ h => h) (Or.inl ⟨by rfl, ?_⟩) ?_ ?_
  rotate_left
  · intro w'
    go_simp
    with_reducible rfl
  rotate_left
  · simp only [Act.put, List.setIfInBounds_toArray, List.set_cons_zero, List.set_cons_succ, i64_w, i32_w]
    rfl
  refine one_ (i := 15) (N := some 21) #[true, true, true, true, true, true, true, true, true, true, true, true, true, true, true, true, false, false, false, false] rfl rfl (by kernel_rfl) (by decide) (fun K hK => ?_)
  refine value_ (w1 := ?_) (v := ?_) (by rfl) rfl ?_ ?_
  rotate_left 2
  · go_simp
    constructor
    · rfl
    · rfl
  refine hK.out _ _ ⟨(show (World.alloc W.drew _).cell? _ = _ from (World.cell?_alloc_some W.drew _ _ (by show (W.cell? _).isSome = true; rw [r1]; rfl)).trans r1), (show (World.alloc W.drew _).cell? _ = _ from (World.cell?_alloc_some W.drew _ _ (by show (W.cell? _).isSome = true; rw [r4]; rfl)).trans r4), (show (World.alloc W.drew _).cell? _ = _ from (World.cell?_alloc_some W.drew _ _ (by show (W.cell? _).isSome = true; rw [r5]; rfl)).trans r5)⟩ (fun hHeld => ?_)
  clear hK K
  refine norm_ (a' := ?_) ?_ ?_
  rotate_left
  · show Act.put _ (some 21) _ = _
    simp only [Act.put, List.setIfInBounds_toArray, List.set_cons_zero, List.set_cons_succ, i64_w, i32_w]
    rfl
  refine last_ (i := 16) (N := some 22) #[true, true, true, true, true, true, true, true, true, true, true, true, true, true, true, true, true, false, false, false] rfl rfl (by kernel_rfl) (by decide) (fun K hK => ?_)
  clear hHeld
  refine Kd.R_append_step kW (w0 := w0) (W := W.drew) w0.heap.size (by rfl) (.tmp 10) (.tmp 21) 22 36 (.agg #[.int .i64 0, .string ⟨#[]⟩, .int .i64 0, .int .i64 0]) 40 (by rfl) Tryd.underlying22 infoW rfl (by decide) (by decide) vw wd (⟨kind, ⟨#[]⟩, ln, cl⟩ : SW) [.int .i64 kind, .string ⟨#[]⟩, .int .i64 ln, .int .i64 cl] (fun k => k ≠ g ∧ k ≠ it ∧ some k ≠ vt.ownBlock) (fun _ => False) rfl rfl ?_ (fun _ h => h.elim) ?_ ?_ ?_ ?_ ?_ ?_
  · exact kW_mkM _ _ _ _
  · exact H.fresh
  · exact Kd.R_drew H.hw
  · exact below_drew H.bl
  · exact H.bl.size
  · omega
  intro v1 w1 HV1 hb1 hg1 hat1
  obtain ⟨A1_, n1_, rfl⟩ := Kd.R_slice HV1
  simp only [List.length_append, List.length_singleton] at HV1 hat1
  have H1 := H.appW (HV1) hb1 hg1 hat1
  have c1_ : w1.cell? ⟨g, 1, none⟩ = some vw := (blk_cell H1.rb 1).trans rfl
  have f1_ := blk_frozen H1.rb 1
  clear HV1 hb1 hg1 hat1
  refine hK.out _ _ ?_
  clear hK K
  refine norm_ (a' := ?_) ?_ ?_
  rotate_left
  · show Act.put _ (some 22) _ = _
    simp only [Act.put, List.setIfInBounds_toArray, List.set_cons_zero, List.set_cons_succ, i64_w, i32_w]
    rfl
  refine pure_ (i := 17) (N := some 23) (v := ?_) (a' := ?_) #[true, true, true, true, true, true, true, true, true, true, true, true, true, true, true, true, true, true, false, false] rfl rfl (by kernel_rfl) (fun _ _ _ h => h) (Or.inl ⟨by rfl, ?_⟩) ?_ ?_
  rotate_left
  · intro w'
    go_simp
    with_reducible rfl
  rotate_left
  · simp only [Act.put, List.setIfInBounds_toArray, List.set_cons_zero, List.set_cons_succ, i64_w, i32_w]
    rfl
  refine pure_ (i := 18) (N := some 24) (v := ?_) (a' := ?_) #[true, true, true, true, true, true, true, true, true, true, true, true, true, true, true, true, true, true, true, false] rfl rfl (by kernel_rfl) (fun _ _ _ h => h) (Or.inl ⟨by rfl, ?_⟩) ?_ ?_
  rotate_left
  · intro w'
    go_simp
    with_reducible rfl
  rotate_left
  · simp only [Act.put, List.setIfInBounds_toArray, List.set_cons_zero, List.set_cons_succ, i64_w, i32_w]
    rfl
  refine last_ (i := 19) (N := none) #[true, true, true, true, true, true, true, true, true, true, true, true, true, true, true, true, true, true, true, true] rfl rfl (by kernel_rfl) (by decide) (fun K hK => ?_)
  refine skip_ (w1 := ?_) (by rfl) rfl ?_ ?_
  rotate_left
  · go_simp
    rfl
  refine hK.out _ _ ?_
  clear hK K
  refine done_ (by kernel_rfl) ?_
  have H2 := Aside0.mk (H1.set 1 (.slice A1_ (wd.length + 1) n1_))
  clear c1_ f1_ hHeld r1 r4 r5 H H1
  generalize w1.setCell ⟨g, 1, none⟩ (.slice A1_ (wd.length + 1) n1_) = W2 at *
  have d3 : W2.cell? ⟨g, 3, none⟩ = some vt := (blk_cell H2.out.rb 3).trans rfl
  have e3 := blk_frozen H2.out.rb 3
  have d0 : W2.cell? ⟨g, 0, none⟩ = some vf := (blk_cell H2.out.rb 0).trans rfl
  have e0 := blk_frozen H2.out.rb 0
  go_wp2
  have H3 := ((H2.out.set 3 (.slice none 0 0)).set 0 (.func (.func q) #[] #[])).noT
  go_end0
  exact ⟨rfl, _, by simpa using H3⟩
theorem conv_run {W : World} {A : Option Addr} {tx : List Int} (c : Nat) (h : Kd.C (Kd.int .i32) W A tx.length tx) : (convert 43 9 (.slice A tx.length c)).run Tryd.prog W = .ok (.string (runesBytes tx)) W := by
  cases A with
  | none =>
    have : tx = [] := by
      cases tx with
      | nil => rfl
      | cons x r => obtain ⟨ad, h1, _⟩ := h.2.2 (by simp); cases h1
    subst this
    exact run_convert_runes_nil W _ _ 21 _ _ Tryd.underlying43 Tryd.underlying21 Tryd.underlying9
  | some a =>
    have := run_convert_runes W 43 9 21 a tx.length c tx (Nat.le_refl _) Tryd.underlying43 Tryd.underlying21 Tryd.underlying9 (fun j hj => by
      obtain ⟨ad, e, hc⟩ := Kd.at_int h (j : Int) (by omega) (by omega)
      cases e
      simpa [rd] using hc)
    rwa [List.take_length] at this
/-- the last word's text is set -/
theorem SB.setText {w0 W : World} {g it : Nat} {io : Obj} {cs : Array Value} {vt : Value} {wl : List SW} {x : SW} {tx : List Int} {gw cw : Nat} (h : SB w0 W g it io cs (.slice (some ⟨gw, 0, none⟩) (wl.length + 1) cw) vt (wl ++ [x]) tx) (s : ByteArray) :
    SB w0 (W.setCell ⟨gw, wl.length * 4 + 1, none⟩ (.string s)) g it io cs (.slice (some ⟨gw, 0, none⟩) (wl.length + 1) cw) vt (wl ++ [⟨x.f0, s, x.f2, x.f3⟩]) tx ∧ W.cell? ⟨gw, wl.length * 4 + 1, none⟩ = some (.string x.f1) ∧ W.frozen? ⟨gw, wl.length * 4 + 1, none⟩ = false := by
  have h0 := h.hw
  have hgw := h.hw.1 gw (by simp [Value.ownBlock])
  obtain ⟨_, hn, hC⟩ := Kd.R_reads' h0
  obtain ⟨ad, c, e, hcl, hK, hcells⟩ := Kd.C_get hC z36 (wl.length : Int) (by omega) (by omega)
  injection e with e
  subst e
  have hx : ((wl ++ [x]).getD ((wl.length : Int)).toNat z36) = x := by simp
  rw [hx] at hK
  have hc := k36_open hK
  subst hc
  have hcc : ∀ j u, ([.int .i64 x.f0, .string x.f1, .int .i64 x.f2, .int .i64 x.f3] : List Value)[j]? = some u → W.cell? ⟨gw, ((wl.length : Int)).toNat * kW.sz + j, none⟩ = some u := fun j u hu => by
    have := hcells j u hu
    rwa [add_plain] at this
  obtain ⟨hR, hG⟩ := Kd.R_seg (okp := fun _ => False) h0 (wl.length : Int) (by omega) (by omega) (seg := [.string s]) (j := 1) rfl hcc (by show 1 + 1 ≤ 4; omega) (x' := (⟨x.f0, s, x.f2, x.f3⟩ : SW)) (kW_mkM _ _ _ _) (fun _ h => h.elim)
  have e1 : ((wl.length : Int)).toNat * kW.sz + 1 = wl.length * 4 + 1 := by rw [Int.toNat_natCast]; rfl
  rw [e1] at hR hG
  have e2 : (wl ++ [x]).set ((wl.length : Int)).toNat (⟨x.f0, s, x.f2, x.f3⟩ : SW) = wl ++ [⟨x.f0, s, x.f2, x.f3⟩] := by rw [Int.toNat_natCast, List.set_append_right _ _ (Nat.le_refl _)]; simp
  rw [e2] at hR
  have hcell := hcc 1 (.string x.f1) rfl
  rw [e1] at hcell
  have hb := Kd.R_base h0 gw (by simp [Value.ownBlock])
  refine ⟨⟨(Below.heap_setCell W ⟨gw, wl.length * 4 + 1, none⟩ (.string s) g (Ne.symm hgw.1)).trans h.rb, (Below.heap_setCell W ⟨gw, wl.length * 4 + 1, none⟩ (.string s) it (Ne.symm hgw.2.1)).trans h.ib, h.bl.setCell hb _, hR, ?_, h.hg, h.hi, h.ne⟩, hcell, ?_⟩
  · exact Kd.R_far (p := ⟨gw, wl.length * 4 + 1, none⟩) h.ht (fun k hk e => hk.2.2 (by rw [e]; simp [Value.ownBlock])) _
  · obtain ⟨cells, hcx⟩ := own_typed h0.2.choose_spec.1 gw (by simp [Value.ownBlock])
    exact blk_frozen hcx _
theorem R_head {α : Type} {d : Kd α} {e : Nat} {W : World} {base : Nat} {ok : Nat → Prop} {v : Value} {xs : List α} (h : d.R e W base ok v xs) (hs : 0 < d.sz) (hx : 0 < xs.length) : ∃ g c, v = .slice (some ⟨g, 0, none⟩) xs.length c := by
  obtain ⟨A, c, rfl, _, _⟩ := Kd.R_reads h
  obtain ⟨_, inner, ho, hr⟩ := h
  rcases ho.2 with ⟨hv, hi⟩ | ⟨g, cap, cur, hv, _⟩
  · omega
  · injection hv with h1 h2 h3
    subst h1
    exact ⟨g, c, rfl⟩
set_option maxRecDepth 100000 in
set_option maxHeartbeats 3200000 in
theorem end_calls (w0 W : World) (g it : Nat) (io : Obj) (vf vg vw vt : Value) (wl : List SW) (x : SW) (tx : List Int) (ln cl : Int) (H : SB w0 W g it io #[vf, vw, vg, vt, .int .i64 ln, .int .i64 cl] vw vt (wl ++ [x]) tx) (hwl : wl.length ≤ 100000) :
    Calls Tryd.prog 44 #[.pointer (some ⟨g, 0, none⟩)] W fun e W' => e = .returned (.tuple #[]) ∧ SB w0 W' g it io #[fnV .btw, vw, vg, vt, .int .i64 ln, .int .i64 cl] vw vt (wl ++ [⟨x.f0, runesBytes tx, x.f2, x.f3⟩]) tx := by
  obtain ⟨At, ct, rfl, hct, hCt⟩ := Kd.R_reads H.ht
  obtain ⟨gw, cw, rfl⟩ : ∃ gw cw, vw = .slice (some ⟨gw, 0, none⟩) (wl.length + 1) cw := by
    have := R_head H.hw (by decide) (by simp)
    simpa using this
  have hcv : (convert 43 9 (.slice At tx.length ct)).run Tryd.prog W.drew = .ok (.string (runesBytes tx)) W.drew := conv_run ct (Kd.C_drew hCt)
  have r1 : W.cell? ⟨g, 1, none⟩ = some (.slice (some ⟨gw, 0, none⟩) (wl.length + 1) cw) := (blk_cell H.rb 1).trans rfl
  have r3 : W.cell? ⟨g, 3, none⟩ = some (.slice At tx.length ct) := (blk_cell H.rb 3).trans rfl
  obtain ⟨H1, q1, q2⟩ := H.drew.setText (runesBytes tx)
  have b0 : 0 ≤ (wl.length : Int) := by omega
  have b1 : (wl.length : Int) < (wl.length : Int) + 1 := by omega
  have hwr : wrap64 (wl.length : Int) = (wl.length : Int) := by unfold wrap64; omega
  go_enter Tryd.func44, Tryd.ntmps44
  go_wp2
  refine start_ (n := 18) (S := fun w' => w'.cell? ⟨g, 1, none⟩ = some (.slice (some ⟨gw, 0, none⟩) (wl.length + 1) cw) ∧ w'.cell? ⟨g, 3, none⟩ = some (.slice At tx.length ct)) (ds := [17]) #[false, false, false, false, false, false, false, false, false, false, false, false, false, false, false, false, false, false] (by kernel_rfl) rfl rfl ⟨r1, r3⟩ (fun hHeld => ?_)
  refine pure_ (i := 0) (N := some 2) (v := ?_) (a' := ?_) #[true, false, false, false, false, false, false, false, false, false, false, false, false, false, false, false, false, false] rfl rfl (by kernel_rfl) (fun _ _ _ h => h) (Or.inl ⟨by rfl, ?_⟩) ?_ ?_
  rotate_left
  · intro w'
    go_simp
    with_reducible rfl
  rotate_left
  · simp only [Act.put, List.setIfInBounds_toArray, List.set_cons_zero, List.set_cons_succ, i64_w, i32_w]
    rfl
  refine pure_ (i := 1) (N := some 3) (v := ?_) (a' := ?_) #[true, true, false, false, false, false, false, false, false, false, false, false, false, false, false, false, false, false] rfl rfl (by kernel_rfl) (fun _ _ _ h => h) (Or.inl ⟨by rfl, ?_⟩) ?_ ?_
  rotate_left
  · intro w'
    go_simp
    with_reducible rfl
  rotate_left
  · simp only [Act.put, List.setIfInBounds_toArray, List.set_cons_zero, List.set_cons_succ, i64_w, i32_w]
    rfl
  refine pure_ (i := 2) (N := some 4) (v := ?_) (a' := ?_) #[true, true, true, false, false, false, false, false, false, false, false, false, false, false, false, false, false, false] rfl rfl (by kernel_rfl) (fun _ _ _ h => h) (Or.inl ⟨by rfl, ?_⟩) ?_ ?_
  rotate_left
  · intro w'
    go_simp
    with_reducible rfl
  rotate_left
  · simp only [Act.put, List.setIfInBounds_toArray, List.set_cons_zero, List.set_cons_succ, i64_w, i32_w]
    rfl
  refine pure_ (i := 4) (N := some 6) (v := ?_) (a' := ?_) #[true, true, true, false, true, false, false, false, false, false, false, false, false, false, false, false, false, false] rfl rfl (by kernel_rfl) (fun _ _ _ h => h) (Or.inl ⟨by rfl, ?_⟩) ?_ ?_
  rotate_left
  · intro w'
    go_simp
    with_reducible rfl
  rotate_left
  · simp only [Act.put, List.setIfInBounds_toArray, List.set_cons_zero, List.set_cons_succ, i64_w, i32_w]
    rfl
  refine pure_ (i := 5) (N := some 7) (v := ?_) (a' := ?_) #[true, true, true, false, true, true, false, false, false, false, false, false, false, false, false, false, false, false] rfl rfl (by kernel_rfl) (fun _ _ _ h => h) (Or.inl ⟨by rfl, ?_⟩) ?_ ?_
  rotate_left
  · intro w'
    go_simp
    with_reducible rfl
  rotate_left
  · simp only [Act.put, List.setIfInBounds_toArray, List.set_cons_zero, List.set_cons_succ, i64_w, i32_w]
    rfl
  refine pure_ (i := 6) (N := some 8) (v := ?_) (a' := ?_) #[true, true, true, false, true, true, true, false, false, false, false, false, false, false, false, false, false, false] rfl rfl (by kernel_rfl) (fun _ _ _ h => h) (Or.inl ⟨by rfl, ?_⟩) ?_ ?_
  rotate_left
  · intro w'
    go_simp
    with_reducible rfl
  rotate_left
  · simp only [Act.put, List.setIfInBounds_toArray, List.set_cons_zero, List.set_cons_succ, i64_w, i32_w]
    rfl
  refine pure_ (i := 10) (N := some 12) (v := ?_) (a' := ?_) #[true, true, true, false, true, true, true, false, false, false, true, false, false, false, false, false, false, false] rfl rfl (by kernel_rfl) (fun _ _ _ h => h) (Or.inl ⟨by rfl, ?_⟩) ?_ ?_
  rotate_left
  · intro w'
    go_simp
    with_reducible rfl
  rotate_left
  · simp only [Act.put, List.setIfInBounds_toArray, List.set_cons_zero, List.set_cons_succ, i64_w, i32_w]
    rfl
  refine pure_ (i := 11) (N := some 13) (v := ?_) (a' := ?_) #[true, true, true, false, true, true, true, false, false, false, true, true, false, false, false, false, false, false] rfl rfl (by kernel_rfl) (fun _ _ _ h => h) (Or.inl ⟨by rfl, ?_⟩) ?_ ?_
  rotate_left
  · intro w'
    go_simp
    with_reducible rfl
  rotate_left
  · simp only [Act.put, List.setIfInBounds_toArray, List.set_cons_zero, List.set_cons_succ, i64_w, i32_w]
    rfl
  refine pure_ (i := 12) (N := some 14) (v := ?_) (a' := ?_) #[true, true, true, false, true, true, true, false, false, false, true, true, true, false, false, false, false, false] rfl rfl (by kernel_rfl) (fun _ _ _ h => h) (Or.inl ⟨by rfl, ?_⟩) ?_ ?_
  rotate_left
  · intro w'
    go_simp
    with_reducible rfl
  rotate_left
  · simp only [Act.put, List.setIfInBounds_toArray, List.set_cons_zero, List.set_cons_succ, i64_w, i32_w]
    rfl
  refine take_ (i := 3) (N := some 5) (v := ?_) (a' := ?_) #[true, true, true, true, true, true, true, false, false, false, true, true, true, false, false, false, false, false] rfl rfl (by kernel_rfl) (fun _ _ _ h => h) (Or.inl ⟨by rfl, ?_⟩) hHeld ?_ ?_
  rotate_left
  · rintro w' ⟨s0, s1⟩
    go_simp
    with_reducible rfl
  rotate_left
  · simp only [Act.put, List.setIfInBounds_toArray, List.set_cons_zero, List.set_cons_succ, i64_w, i32_w]
    rfl
  refine take_ (i := 7) (N := some 9) (v := ?_) (a' := ?_) #[true, true, true, true, true, true, true, true, false, false, true, true, true, false, false, false, false, false] rfl rfl (by kernel_rfl) (fun _ _ _ h => h) (Or.inl ⟨by rfl, ?_⟩) hHeld ?_ ?_
  rotate_left
  · rintro w' ⟨s0, s1⟩
    go_simp
    with_reducible rfl
  rotate_left
  · simp only [Act.put, List.setIfInBounds_toArray, List.set_cons_zero, List.set_cons_succ, i64_w, i32_w]
    rfl
  refine pure_ (i := 8) (N := some 10) (v := ?_) (a' := ?_) #[true, true, true, true, true, true, true, true, true, false, true, true, true, false, false, false, false, false] rfl rfl (by kernel_rfl) (fun _ _ _ h => h) (Or.inl ⟨by rfl, ?_⟩) ?_ ?_
  rotate_left
  · intro w'
    go_simp
    with_reducible rfl
  rotate_left
  · simp only [Act.put, List.setIfInBounds_toArray, List.set_cons_zero, List.set_cons_succ, i64_w, i32_w]
    rfl
  refine pure_ (i := 9) (N := some 11) (v := ?_) (a' := ?_) #[true, true, true, true, true, true, true, true, true, true, true, true, true, false, false, false, false, false] rfl rfl (by kernel_rfl) (fun _ _ _ h => h) (Or.inl ⟨by rfl, ?_⟩) ?_ ?_
  rotate_left
  · intro w'
    go_simp
    with_reducible rfl
  rotate_left
  · simp only [Act.put, List.setIfInBounds_toArray, List.set_cons_zero, List.set_cons_succ, i64_w, i32_w]
    rfl
  refine take_ (i := 13) (N := some 15) (v := ?_) (a' := ?_) #[true, true, true, true, true, true, true, true, true, true, true, true, true, true, false, false, false, false] rfl rfl (by kernel_rfl) (fun _ _ _ h => h) (Or.inl ⟨by rfl, ?_⟩) hHeld ?_ ?_
  rotate_left
  · rintro w' ⟨s0, s1⟩
    go_simp
    with_reducible rfl
  rotate_left
  · simp only [Act.put, List.setIfInBounds_toArray, List.set_cons_zero, List.set_cons_succ, i64_w, i32_w]
    rfl
  refine one_ (i := 14) (N := some 16) #[true, true, true, true, true, true, true, true, true, true, true, true, true, true, true, false, false, false] rfl rfl (by kernel_rfl) (by decide) (fun K hK => ?_)
  refine value_ (w1 := W.drew) (v := .string (runesBytes tx)) (by rfl) rfl ?_ ?_
  · have hcv_ := hcv
    go_simp
  refine hK.out _ _ ⟨r1, r3⟩ (fun hHeld => ?_)
  clear hK K
  refine norm_ (a' := ?_) ?_ ?_
  rotate_left
  · show Act.put _ (some 16) _ = _
    simp only [Act.put, List.setIfInBounds_toArray, List.set_cons_zero, List.set_cons_succ, i64_w, i32_w]
    rfl
  refine pure_ (i := 15) (N := some 17) (v := ?_) (a' := ?_) #[true, true, true, true, true, true, true, true, true, true, true, true, true, true, true, true, false, false] rfl rfl (by kernel_rfl) (fun _ _ _ h => h) (Or.inl ⟨by rfl, ?_⟩) ?_ ?_
  rotate_left
  · intro w'
    go_simp
    with_reducible rfl
  rotate_left
  · simp only [Act.put, List.setIfInBounds_toArray, List.set_cons_zero, List.set_cons_succ, i64_w, i32_w]
    rfl
  refine pure_ (i := 16) (N := some 18) (v := ?_) (a' := ?_) #[true, true, true, true, true, true, true, true, true, true, true, true, true, true, true, true, true, false] rfl rfl (by kernel_rfl) (fun _ _ _ h => h) (Or.inl ⟨by rfl, ?_⟩) ?_ ?_
  rotate_left
  · intro w'
    go_simp
    with_reducible rfl
  rotate_left
  · simp only [Act.put, List.setIfInBounds_toArray, List.set_cons_zero, List.set_cons_succ, i64_w, i32_w]
    rfl
  refine last_ (i := 17) (N := none) #[true, true, true, true, true, true, true, true, true, true, true, true, true, true, true, true, true, true] rfl rfl (by kernel_rfl) (by decide) (fun K hK => ?_)
  refine skip_ (w1 := ?_) (by rfl) rfl ?_ ?_
  rotate_left
  · go_simp
    rfl
  refine hK.out _ _ ?_
  clear hK K
  refine done_ (by kernel_rfl) ?_
  have H2 : Aside0 (SB w0 (W.setCell ⟨gw, wl.length * 4 + 1, none⟩ (.string (runesBytes tx))).drew g it io #[vf, .slice (some ⟨gw, 0, none⟩) (wl.length + 1) cw, vg, .slice At tx.length ct, .int .i64 ln, .int .i64 cl] (.slice (some ⟨gw, 0, none⟩) (wl.length + 1) cw) (.slice At tx.length ct) (wl ++ [⟨x.f0, runesBytes tx, x.f2, x.f3⟩]) tx) := ⟨H1⟩
  clear hHeld q1 q2 H1 r1 r3 hcv hwr H hCt
  generalize (W.setCell ⟨gw, wl.length * 4 + 1, none⟩ (.string (runesBytes tx))).drew = W2 at *
  have d0 : W2.cell? ⟨g, 0, none⟩ = some vf := (blk_cell H2.out.rb 0).trans rfl
  have e0 := blk_frozen H2.out.rb 0
  go_wp2
  have H3 := H2.out.set 0 (fnV .btw)
  rw [show fnV .btw = Value.func (.func 20) #[] #[] from rfl] at H3 ⊢
  go_end0
  exact ⟨rfl, by simpa using H3⟩
end Go.Proofs.YtcpalnmodbbklaaDoor.P
