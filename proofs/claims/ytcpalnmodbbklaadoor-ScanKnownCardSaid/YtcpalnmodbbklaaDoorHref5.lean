import Derived.Test.YtcpalnmodbbklaaDoorHref4
import Derived.Outline
import Derived.IntWalk
/- The reference's reader: a word. -/
namespace Go.Proofs.YtcpalnmodbbklaaDoor.P
set_option linter.unusedVariables false
set_option linter.unusedSimpArgs false
open Go.RowKit Go.Proofs.YtcpalnmodbbklaaDoorW.PrintWords Go.Proofs.YtcpalnmodbbklaaDoorW.PrintLast Go.Proofs.YtcpalnmodbbklaaDoorW.PrintMore

/-- a word: its kind, its text, an error; and where the reader stands then -/
def wordR (s : ByteArray) (K p : Nat) (ln cl : Int) : (Int × ByteArray × Int) × Nat × Int × Int :=
  if smallB (rcv s p) = true then
    (if rendsB (rcv s (plainR s 1 K p ln cl).1) = true then ((1, s.extract p (plainR s 1 K p ln cl).1, 0), plainR s 1 K p ln cl) else ((1, ⟨#[]⟩, 4), plainR s 1 K p ln cl))
  else if digitB (rcv s p) = true then
    (if rendsB (rcv s (plainR s 2 K p ln cl).1) = true then ((2, s.extract p (plainR s 2 K p ln cl).1, 0), plainR s 2 K p ln cl) else ((2, ⟨#[]⟩, 4), plainR s 2 K p ln cl))
  else if signB (rcv s p) = true then ((4, s.extract p (p + 1), 0), p + wdt s p, lnv s p ln, clv s p cl)
  else if rcv s p = 34 then
    ((3, (quotedR s K (p + wdt s p) (lnv s p ln) (clv s p cl) ⟨#[]⟩).1.1, (quotedR s K (p + wdt s p) (lnv s p ln) (clv s p cl) ⟨#[]⟩).1.2), (quotedR s K (p + wdt s p) (lnv s p ln) (clv s p cl) ⟨#[]⟩).2)
  else ((0, ⟨#[]⟩, 4), p, ln, cl)
def WdPost (w0 W : World) (g : Nat) (s : ByteArray) (ln cl : Int) (r : (Int × ByteArray × Int) × Nat × Int × Int) (e : Ending) (W' : World) : Prop :=
  e = .returned (.tuple #[.agg #[.int .i64 r.1.1, .string r.1.2.1, .int .i64 ln, .int .i64 cl], .int .i64 r.1.2.2]) ∧ RP w0 W' g s r.2.1 r.2.2.1 r.2.2.2 ∧ Oth g W W'
/-- the reader, and the two places of a word -/
structure WS (w0 W0 W : World) (g : Nat) (s : ByteArray) (p : Nat) (ln cl : Int) (b4 b6 : Nat) (k : Int) (t : ByteArray) (l0 c0 : Int) : Prop where
  rp : RP w0 W g s p ln cl
  ot : Oth g W0 W
  q4 : W.heap[b4]? = some (.cells #[.int .i64 0, .string ⟨#[]⟩, .int .i64 0, .int .i64 0] 36 (0, 0))
  q6 : W.heap[b6]? = some (.cells #[.int .i64 k, .string t, .int .i64 l0, .int .i64 c0] 36 (0, 0))
  g4 : b4 ≠ g
  g6 : b6 ≠ g
  n46 : b4 ≠ b6
  i4 : W0.heap.size ≤ b4
  i6 : W0.heap.size ≤ b6
  i0 : w0.heap.size ≤ W0.heap.size
theorem Oth.blk {g b : Nat} {W W' : World} {o : Obj} (h : Oth g W W') (hb : W.heap[b]? = some o) (hne : b ≠ g) : W'.heap[b]? = some o := (h.2 b (Array.getElem?_eq_some_iff.1 hb).1 hne).trans hb
section
variable {w0 W0 W W' : World} {g : Nat} {s : ByteArray} {p : Nat} {ln cl : Int} {b4 b6 : Nat} {k : Int} {t : ByteArray} {l0 c0 : Int}
theorem WS.below (h : WS w0 W0 W g s p ln cl b4 b6 k t l0 c0) (hb : Below W.heap.size W W') : WS w0 W0 W' g s p ln cl b4 b6 k t l0 c0 :=
  ⟨h.rp.below hb, h.ot.below hb, (hb.block b4 (blk_lt h.q4)).trans h.q4, (hb.block b6 (blk_lt h.q6)).trans h.q6, h.g4, h.g6, h.n46, h.i4, h.i6, h.i0⟩
theorem WS.oth {p' : Nat} {ln' cl' : Int} (h : WS w0 W0 W g s p ln cl b4 b6 k t l0 c0) (hr : RP w0 W' g s p' ln' cl') (ho : Oth g W W') : WS w0 W0 W' g s p' ln' cl' b4 b6 k t l0 c0 :=
  ⟨hr, h.ot.trans ho, ho.blk h.q4 h.g4, ho.blk h.q6 h.g6, h.g4, h.g6, h.n46, h.i4, h.i6, h.i0⟩
theorem WS.put (h : WS w0 W0 W g s p ln cl b4 b6 k t l0 c0) {i : Nat} {v : Value} {k' : Int} {t' : ByteArray} (hv : (#[.int .i64 k, .string t, .int .i64 l0, .int .i64 c0] : Array Value).setIfInBounds i v = #[.int .i64 k', .string t', .int .i64 l0, .int .i64 c0]) : WS w0 W0 (W.setCell ⟨b6, i, none⟩ v) g s p ln cl b4 b6 k' t' l0 c0 := by
  refine ⟨⟨⟨(Below.heap_setCell W ⟨b6, i, none⟩ v g (Ne.symm h.g6)).trans h.rp.rb, h.rp.bl.setCell (Nat.le_trans h.i0 h.i6) _, h.rp.hg, h.rp.tb⟩, h.rp.toPl⟩, ?_, (Below.heap_setCell W ⟨b6, i, none⟩ v b4 h.n46).trans h.q4, ?_, h.g4, h.g6, h.n46, h.i4, h.i6, h.i0⟩
  · refine ⟨by have := h.ot.1; simpa using this, fun k hk0 hk => (?_ : _ = _).trans (h.ot.2 k hk0 hk)⟩
    have hlt := h.i6
    exact Below.heap_setCell W ⟨b6, i, none⟩ v k (fun e => by subst e; omega)
  · rw [← hv]; exact blk_set h.q6 i v
theorem Oth.far {b : Nat} (h : Oth g W0 W) (hb : W0.heap.size ≤ b) (i : Nat) (v : Value) : Oth g W0 (W.setCell ⟨b, i, none⟩ v) :=
  ⟨by have := h.1; simpa using this, fun k hk0 hk => (Below.heap_setCell W ⟨b, i, none⟩ v k (fun e => by subst e; omega)).trans (h.2 k hk0 hk)⟩
theorem RP.far {b : Nat} (h : RP w0 W g s p ln cl) (hb : b ≠ g) (hi : w0.heap.size ≤ b) (i : Nat) (v : Value) : RP w0 (W.setCell ⟨b, i, none⟩ v) g s p ln cl :=
  ⟨⟨(Below.heap_setCell W ⟨b, i, none⟩ v g (Ne.symm hb)).trans h.rb, h.bl.setCell hi _, h.hg, h.tb⟩, h.toPl⟩
def put4 (W : World) (b : Nat) (v0 v1 v2 v3 : Value) : World := (((W.setCell ⟨b, 0, none⟩ v0).setCell ⟨b, 1, none⟩ v1).setCell ⟨b, 2, none⟩ v2).setCell ⟨b, 3, none⟩ v3
structure WF (w0 W0 W : World) (g : Nat) (s : ByteArray) (p : Nat) (ln cl : Int) (b4 : Nat) (v0 v1 v2 v3 : Value) : Prop where
  rp : RP w0 W g s p ln cl
  ot : Oth g W0 W
  q4 : W.heap[b4]? = some (.cells #[v0, v1, v2, v3] 36 (0, 0))
theorem WS.fin (h : WS w0 W0 W g s p ln cl b4 b6 k t l0 c0) (v0 v1 v2 v3 : Value) : WF w0 W0 (put4 W b4 v0 v1 v2 v3) g s p ln cl b4 v0 v1 v2 v3 := by
  have hi := Nat.le_trans h.i0 h.i4
  refine ⟨(((h.rp.far h.g4 hi _ _).far h.g4 hi _ _).far h.g4 hi _ _).far h.g4 hi _ _, (((h.ot.far h.i4 _ _).far h.i4 _ _).far h.i4 _ _).far h.i4 _ _, ?_⟩
  unfold put4
  simpa using blk_set (blk_set (blk_set (blk_set h.q4 0 v0) 1 v1) 2 v2) 3 v3
end
set_option maxRecDepth 100000 in
set_option maxHeartbeats 6400000 in
theorem word_calls (w0 W : World) (g : Nat) (s : ByteArray) (p : Nat) (ln cl : Int) (K : Nat) (hK : s.size - p < K) (hp : p < s.size) (H : RP w0 W g s p ln cl) :
    Calls Tryd.prog 26 #[.pointer (some ⟨g, 0, none⟩), .int .i64 (rcv s p)] W (WdPost w0 W g s ln cl (wordR s K p ln cl)) := by
  have HH := Aside0.mk (H.below ((Below.refl W.heap.size W).alloc (Nat.le_refl _) (.cells #[.int .i64 0, .string ⟨#[]⟩, .int .i64 0, .int .i64 0] 36)))
  have OO := Aside0.mk ((Oth.refl g W).below ((Below.refl W.heap.size W).alloc (Nat.le_refl _) (.cells #[.int .i64 0, .string ⟨#[]⟩, .int .i64 0, .int .i64 0] 36)))
  have HK := Aside0.mk hK
  have HP := Aside0.mk hp
  have HG := Aside0.mk H.lt
  have HZ := Aside0.mk H.bl.size
  clear H hK hp
  go_enter Tryd.func26, Tryd.ntmps26
  go_wp2_with fail
  have hb4 : W.heap.size < (W.alloc (.cells #[.int .i64 0, .string ⟨#[]⟩, .int .i64 0, .int .i64 0] 36)).heap.size := by simp
  have B4 : Aside0 ((W.alloc (.cells #[.int .i64 0, .string ⟨#[]⟩, .int .i64 0, .int .i64 0] 36)).heap[W.heap.size]? = some (.cells #[.int .i64 0, .string ⟨#[]⟩, .int .i64 0, .int .i64 0] 36 (0, 0))) := ⟨heap_alloc_new W _⟩
  have hg4 : W.heap.size ≠ g := fun e => by
    have := HG.out
    omega
  have hsz : W.heap.size ≤ (W.alloc (.cells #[.int .i64 0, .string ⟨#[]⟩, .int .i64 0, .int .i64 0] 36)).heap.size := by simp
  obtain ⟨b4, hbb⟩ : ∃ b, W.heap.size = b := ⟨_, rfl⟩
  have HI4 : Aside0 (W.heap.size ≤ b4) := ⟨by omega⟩
  rw [hbb] at B4 hb4 hg4 ⊢
  generalize W.alloc (.cells #[.int .i64 0, .string ⟨#[]⟩, .int .i64 0, .int .i64 0] 36) = W1 at *
  clear hbb
  have r2 : W1.cell? ⟨g, 2, none⟩ = some (.int .i64 ln) := (blk_cell HH.out.rb 2).trans rfl
  have r3 : W1.cell? ⟨g, 3, none⟩ = some (.int .i64 cl) := (blk_cell HH.out.rb 3).trans rfl
  go_wp2_with fail
  refine start_ (n := 11) (S := fun w' => w'.cell? ⟨g, 2, none⟩ = some (.int .i64 ln) ∧ w'.cell? ⟨g, 3, none⟩ = some (.int .i64 cl)) (ds := [10]) #[false, false, false, false, false, false, false, false, false, false, false] (by kernel_rfl) rfl rfl ⟨r2, r3⟩ (fun hHeld => ?_)
  refine pure_ (i := 0) (N := some 11) (v := ?_) (a' := ?_) #[true, false, false, false, false, false, false, false, false, false, false] rfl rfl (by kernel_rfl) (fun _ _ _ h => h) (Or.inl ⟨by rfl, ?_⟩) ?_ ?_
  rotate_left
  · intro w'
    go_simp
    with_reducible rfl
  rotate_left
  · simp only [Act.put, List.setIfInBounds_toArray, List.set_cons_zero, List.set_cons_succ, i64_w, i32_w]
    rfl
  refine pure_ (i := 1) (N := some 12) (v := ?_) (a' := ?_) #[true, true, false, false, false, false, false, false, false, false, false] rfl rfl (by kernel_rfl) (fun _ _ _ h => h) (Or.inl ⟨by rfl, ?_⟩) ?_ ?_
  rotate_left
  · intro w'
    go_simp
    with_reducible rfl
  rotate_left
  · simp only [Act.put, List.setIfInBounds_toArray, List.set_cons_zero, List.set_cons_succ, i64_w, i32_w]
    rfl
  refine pure_ (i := 2) (N := some 13) (v := ?_) (a' := ?_) #[true, true, true, false, false, false, false, false, false, false, false] rfl rfl (by kernel_rfl) (fun _ _ _ h => h) (Or.inl ⟨by rfl, ?_⟩) ?_ ?_
  rotate_left
  · intro w'
    go_simp
    with_reducible rfl
  rotate_left
  · simp only [Act.put, List.setIfInBounds_toArray, List.set_cons_zero, List.set_cons_succ, i64_w, i32_w]
    rfl
  refine pure_ (i := 4) (N := some 15) (v := ?_) (a' := ?_) #[true, true, true, false, true, false, false, false, false, false, false] rfl rfl (by kernel_rfl) (fun _ _ _ h => h) (Or.inl ⟨by rfl, ?_⟩) ?_ ?_
  rotate_left
  · intro w'
    go_simp
    with_reducible rfl
  rotate_left
  · simp only [Act.put, List.setIfInBounds_toArray, List.set_cons_zero, List.set_cons_succ, i64_w, i32_w]
    rfl
  refine pure_ (i := 5) (N := some 16) (v := ?_) (a' := ?_) #[true, true, true, false, true, true, false, false, false, false, false] rfl rfl (by kernel_rfl) (fun _ _ _ h => h) (Or.inl ⟨by rfl, ?_⟩) ?_ ?_
  rotate_left
  · intro w'
    go_simp
    with_reducible rfl
  rotate_left
  · simp only [Act.put, List.setIfInBounds_toArray, List.set_cons_zero, List.set_cons_succ, i64_w, i32_w]
    rfl
  refine pure_ (i := 6) (N := some 17) (v := ?_) (a' := ?_) #[true, true, true, false, true, true, true, false, false, false, false] rfl rfl (by kernel_rfl) (fun _ _ _ h => h) (Or.inl ⟨by rfl, ?_⟩) ?_ ?_
  rotate_left
  · intro w'
    go_simp
    with_reducible rfl
  rotate_left
  · simp only [Act.put, List.setIfInBounds_toArray, List.set_cons_zero, List.set_cons_succ, i64_w, i32_w]
    rfl
  refine take_ (i := 3) (N := some 14) (v := ?_) (a' := ?_) #[true, true, true, true, true, true, true, false, false, false, false] rfl rfl (by kernel_rfl) (fun _ _ _ h => h) (Or.inl ⟨by rfl, ?_⟩) hHeld ?_ ?_
  rotate_left
  · rintro w' ⟨s0, s1⟩
    go_simp
    with_reducible rfl
  rotate_left
  · simp only [Act.put, List.setIfInBounds_toArray, List.set_cons_zero, List.set_cons_succ, i64_w, i32_w]
    rfl
  refine take_ (i := 7) (N := some 18) (v := ?_) (a' := ?_) #[true, true, true, true, true, true, true, true, false, false, false] rfl rfl (by kernel_rfl) (fun _ _ _ h => h) (Or.inl ⟨by rfl, ?_⟩) hHeld ?_ ?_
  rotate_left
  · rintro w' ⟨s0, s1⟩
    go_simp
    with_reducible rfl
  rotate_left
  · simp only [Act.put, List.setIfInBounds_toArray, List.set_cons_zero, List.set_cons_succ, i64_w, i32_w]
    rfl
  refine pure_ (i := 8) (N := some 19) (v := ?_) (a' := ?_) #[true, true, true, true, true, true, true, true, true, false, false] rfl rfl (by kernel_rfl) (fun _ _ _ h => h) (Or.inl ⟨by rfl, ?_⟩) ?_ ?_
  rotate_left
  · intro w'
    go_simp
    with_reducible rfl
  rotate_left
  · simp only [Act.put, List.setIfInBounds_toArray, List.set_cons_zero, List.set_cons_succ, i64_w, i32_w]
    rfl
  refine one_ (i := 9) (N := some 6) #[true, true, true, true, true, true, true, true, true, true, false] rfl rfl (by kernel_rfl) (by decide) (fun K hK => ?_)
  refine value_ (w1 := ?_) (v := ?_) (by rfl) rfl ?_ ?_
  rotate_left 2
  · go_simp
    constructor
    · rfl
    · rfl
  refine hK.out _ _ ⟨(pw_cell_below (below_alloc (Below.refl _ _) _) r2), (pw_cell_below (below_alloc (Below.refl _ _) _) r3)⟩ (fun hHeld => ?_)
  clear hK K
  refine norm_ (a' := ?_) ?_ ?_
  rotate_left
  · show Act.put _ (some 6) _ = _
    simp only [Act.put, List.setIfInBounds_toArray, List.set_cons_zero, List.set_cons_succ, i64_w, i32_w]
    rfl
  refine last_ (i := 10) (N := none) #[true, true, true, true, true, true, true, true, true, true, true] rfl rfl (by kernel_rfl) (by decide) (fun K hK => ?_)
  refine skip_ (w1 := ?_) (by rfl) rfl ?_ ?_
  rotate_left
  · go_simp
    rfl
  refine hK.out _ _ ?_
  clear hK K
  refine done_ (by kernel_rfl) ?_
  clear hHeld r2 r3
  obtain ⟨b6, hb6⟩ : ∃ b, W1.heap.size = b := ⟨_, rfl⟩
  have hg6 : b6 ≠ g := fun e => by
    have := HH.out.lt
    omega
  have h46 : b4 ≠ b6 := by omega
  have S1 : Aside0 (WS w0 W (W1.alloc (.cells #[.int .i64 0, .string ⟨#[]⟩, .int .i64 ln, .int .i64 cl] 36)).drew g s p ln cl b4 b6 0 ⟨#[]⟩ ln cl) := ⟨by
    have hb := below_drew (below_alloc (Below.refl W1.heap.size W1) (.cells #[.int .i64 0, .string ⟨#[]⟩, .int .i64 ln, .int .i64 cl] 36))
    refine ⟨HH.out.below hb, OO.out.below hb, (hb.block b4 hb4).trans B4.out, ?_, hg4, hg6, h46, HI4.out, by rw [← hb6]; exact hsz, HZ.out⟩
    · rw [← hb6]; exact heap_alloc_new W1 _⟩
  rw [hb6]
  generalize (W1.alloc (.cells #[.int .i64 0, .string ⟨#[]⟩, .int .i64 ln, .int .i64 cl] 36)).drew = W2 at *
  clear HH OO B4 hb4 hg4 hg6 h46 hb6 hsz HI4 HZ HG
  have c60 : W2.cell? ⟨b6, 0, none⟩ = some (.int .i64 0) := (blk_cell S1.out.q6 0).trans rfl
  have e6 := blk_frozen S1.out.q6 0
  have HEQ : Aside0 (wordR s K p ln cl = if smallB (rcv s p) = true then
    (if rendsB (rcv s (plainR s 1 K p ln cl).1) = true then ((1, s.extract p (plainR s 1 K p ln cl).1, 0), plainR s 1 K p ln cl) else ((1, ⟨#[]⟩, 4), plainR s 1 K p ln cl))
  else if digitB (rcv s p) = true then
    (if rendsB (rcv s (plainR s 2 K p ln cl).1) = true then ((2, s.extract p (plainR s 2 K p ln cl).1, 0), plainR s 2 K p ln cl) else ((2, ⟨#[]⟩, 4), plainR s 2 K p ln cl))
  else if signB (rcv s p) = true then ((4, s.extract p (p + 1), 0), p + wdt s p, lnv s p ln, clv s p cl)
  else if rcv s p = 34 then
    ((3, (quotedR s K (p + wdt s p) (lnv s p ln) (clv s p cl) ⟨#[]⟩).1.1, (quotedR s K (p + wdt s p) (lnv s p ln) (clv s p cl) ⟨#[]⟩).1.2), (quotedR s K (p + wdt s p) (lnv s p ln) (clv s p cl) ⟨#[]⟩).2)
  else ((0, ⟨#[]⟩, 4), p, ln, cl)) := ⟨rfl⟩
  have HS := Aside0.mk (rsmall_f (rcv s p))
  go_wp2_with fail
  refine (drayageref04_small.calls _ _ _ HS.out).mono ?_
  rintro e W3 ⟨rfl, hd⟩
  have S3 := Aside0.mk (S1.out.below hd.below)
  clear hd S1 c60 e6
  have c60 : W3.cell? ⟨b6, 0, none⟩ = some (.int .i64 0) := (blk_cell S3.out.q6 0).trans rfl
  have e6 := blk_frozen S3.out.q6 0
  cases hs : smallB (rcv s p) with
  | true =>
    have HX : Aside0 (wordR s K p ln cl = (if rendsB (rcv s (plainR s 1 K p ln cl).1) = true then ((1, s.extract p (plainR s 1 K p ln cl).1, 0), plainR s 1 K p ln cl) else ((1, ⟨#[]⟩, 4), plainR s 1 K p ln cl))) := ⟨by rw [HEQ.out, if_pos hs]⟩
    clear HEQ HS hs hHeld
    have S4 := Aside0.mk (S3.out.put (i := 0) (v := .int .i64 1) (k' := 1) (t' := ⟨#[]⟩) rfl)
    go_wp2_with fail
    generalize W3.setCell ⟨b6, 0, none⟩ (.int .i64 1) = W4 at *
    obtain ⟨RES, hRES⟩ : ∃ r, plainR s 1 K p ln cl = r := ⟨_, rfl⟩
    have HPC : Aside0 (Calls Tryd.prog 50 #[.pointer (some ⟨g, 0, none⟩), .int .i64 1] W4 (PlPost w0 W4 g s p RES)) := ⟨by rw [← hRES]; exact plain_calls w0 W4 g s p ln cl 1 (by omega) K HK.out S4.out.rp⟩
    rw [hRES] at HX
    clear hRES
    refine HPC.out.mono ?_
    rintro e W5 ⟨rfl, h5, hpp, o5⟩
    have S5 := Aside0.mk (S4.out.oth h5 o5)
    clear h5 o5 hpp HPC
    have c61 : W5.cell? ⟨b6, 1, none⟩ = some (.string ⟨#[]⟩) := (blk_cell S5.out.q6 1).trans rfl
    have e61 := blk_frozen S5.out.q6 1
    have c60 : W5.cell? ⟨b6, 0, none⟩ = some (.int .i64 1) := (blk_cell S5.out.q6 0).trans rfl
    have c62 : W5.cell? ⟨b6, 2, none⟩ = some (.int .i64 ln) := (blk_cell S5.out.q6 2).trans rfl
    have c63 : W5.cell? ⟨b6, 3, none⟩ = some (.int .i64 cl) := (blk_cell S5.out.q6 3).trans rfl
    have d40 : W5.cell? ⟨b4, 0, none⟩ = some (.int .i64 0) := (blk_cell S5.out.q4 0).trans rfl
    have d41 : W5.cell? ⟨b4, 1, none⟩ = some (.string ⟨#[]⟩) := (blk_cell S5.out.q4 1).trans rfl
    have d42 : W5.cell? ⟨b4, 2, none⟩ = some (.int .i64 0) := (blk_cell S5.out.q4 2).trans rfl
    have d43 : W5.cell? ⟨b4, 3, none⟩ = some (.int .i64 0) := (blk_cell S5.out.q4 3).trans rfl
    have e40 := blk_frozen S5.out.q4 0
    have e41 := blk_frozen S5.out.q4 1
    have e42 := blk_frozen S5.out.q4 2
    have e43 := blk_frozen S5.out.q4 3
    have h46 := S5.out.n46
    have h64 := Ne.symm h46
    cases hen : rendsB (rcv s RES.1) with
    | true =>
      have HY : Aside0 (wordR s K p ln cl = ((1, s.extract p RES.1, 0), RES)) := ⟨by rw [HX.out, hen]; rfl⟩
      have S6 := Aside0.mk (S5.out.put (i := 1) (v := .string (s.extract p RES.1)) (k' := 1) (t' := s.extract p RES.1) rfl)
      clear hen HX
      go_wp2_with fail
      have F := S6.out.fin (.int .i64 1) (.string (s.extract p RES.1)) (.int .i64 ln) (.int .i64 cl)
      unfold put4 at F
      have F := Aside0.mk F
      rw [HY.out]
      generalize ((((W5.setCell ⟨b6, 1, none⟩ (.string (s.extract p RES.1))).setCell ⟨b4, 0, none⟩ (.int .i64 1)).setCell ⟨b4, 1, none⟩ (.string (s.extract p RES.1))).setCell ⟨b4, 2, none⟩ (.int .i64 ln)).setCell ⟨b4, 3, none⟩ (.int .i64 cl) = W9 at *
      clear d40 d41 d42 d43 e40 e41 e42 e43
      have z0 : W9.cell? ⟨b4, 0, none⟩ = some (.int .i64 1) := (blk_cell F.out.q4 0).trans rfl
      have z1 : W9.cell? ⟨b4, 1, none⟩ = some (.string (s.extract p RES.1)) := (blk_cell F.out.q4 1).trans rfl
      have z2 : W9.cell? ⟨b4, 2, none⟩ = some (.int .i64 ln) := (blk_cell F.out.q4 2).trans rfl
      have z3 : W9.cell? ⟨b4, 3, none⟩ = some (.int .i64 cl) := (blk_cell F.out.q4 3).trans rfl
      refine bodyPost_ret (v := .tuple #[.agg #[.int .i64 1, .string (s.extract p RES.1), .int .i64 ln, .int .i64 cl], .int .i64 0]) (by simp [results, Tryd.results26, go_sem, z0, z1, z2, z3]) rfl ⟨rfl, F.out.rp, F.out.ot⟩
    | false =>
      have HY : Aside0 (wordR s K p ln cl = ((1, ⟨#[]⟩, 4), RES)) := ⟨by rw [HX.out, hen]; rfl⟩
      clear hen HX
      go_wp2_with fail
      have F := S5.out.fin (.int .i64 1) (.string ⟨#[]⟩) (.int .i64 ln) (.int .i64 cl)
      unfold put4 at F
      have F := Aside0.mk F
      rw [HY.out]
      generalize (((W5.setCell ⟨b4, 0, none⟩ (.int .i64 1)).setCell ⟨b4, 1, none⟩ (.string ⟨#[]⟩)).setCell ⟨b4, 2, none⟩ (.int .i64 ln)).setCell ⟨b4, 3, none⟩ (.int .i64 cl) = W9 at *
      clear d40 d41 d42 d43 e40 e41 e42 e43
      have z0 : W9.cell? ⟨b4, 0, none⟩ = some (.int .i64 1) := (blk_cell F.out.q4 0).trans rfl
      have z1 : W9.cell? ⟨b4, 1, none⟩ = some (.string ⟨#[]⟩) := (blk_cell F.out.q4 1).trans rfl
      have z2 : W9.cell? ⟨b4, 2, none⟩ = some (.int .i64 ln) := (blk_cell F.out.q4 2).trans rfl
      have z3 : W9.cell? ⟨b4, 3, none⟩ = some (.int .i64 cl) := (blk_cell F.out.q4 3).trans rfl
      refine bodyPost_ret (v := .tuple #[.agg #[.int .i64 1, .string ⟨#[]⟩, .int .i64 ln, .int .i64 cl], .int .i64 4]) (by simp [results, Tryd.results26, go_sem, z0, z1, z2, z3]) rfl ⟨rfl, F.out.rp, F.out.ot⟩
  | false =>
    have HD := Aside0.mk (rdigit_f (rcv s p))
    go_wp2_with fail
    refine (drayageref04_digit.calls _ _ _ HD.out).mono ?_
    rintro e W3d ⟨rfl, hd⟩
    have S3d := Aside0.mk (S3.out.below hd.below)
    clear hd S3 c60 e6
    have c60 : W3d.cell? ⟨b6, 0, none⟩ = some (.int .i64 0) := (blk_cell S3d.out.q6 0).trans rfl
    have e6 := blk_frozen S3d.out.q6 0
    cases hd2 : digitB (rcv s p) with
    | true =>
      have HX : Aside0 (wordR s K p ln cl = (if rendsB (rcv s (plainR s 2 K p ln cl).1) = true then ((2, s.extract p (plainR s 2 K p ln cl).1, 0), plainR s 2 K p ln cl) else ((2, ⟨#[]⟩, 4), plainR s 2 K p ln cl))) := ⟨by rw [HEQ.out, if_neg (by rw [hs]; simp), if_pos hd2]⟩
      clear HEQ HS hs hHeld hd2 HD
      have S4 := Aside0.mk (S3d.out.put (i := 0) (v := .int .i64 2) (k' := 2) (t' := ⟨#[]⟩) rfl)
      go_wp2_with fail
      generalize W3d.setCell ⟨b6, 0, none⟩ (.int .i64 2) = W4 at *
      obtain ⟨RES, hRES⟩ : ∃ r, plainR s 2 K p ln cl = r := ⟨_, rfl⟩
      have HPC : Aside0 (Calls Tryd.prog 50 #[.pointer (some ⟨g, 0, none⟩), .int .i64 2] W4 (PlPost w0 W4 g s p RES)) := ⟨by rw [← hRES]; exact plain_calls w0 W4 g s p ln cl 2 (by omega) K HK.out S4.out.rp⟩
      rw [hRES] at HX
      clear hRES
      refine HPC.out.mono ?_
      rintro e W5 ⟨rfl, h5, hpp, o5⟩
      have S5 := Aside0.mk (S4.out.oth h5 o5)
      clear h5 o5 hpp HPC
      have c61 : W5.cell? ⟨b6, 1, none⟩ = some (.string ⟨#[]⟩) := (blk_cell S5.out.q6 1).trans rfl
      have e61 := blk_frozen S5.out.q6 1
      have c60 : W5.cell? ⟨b6, 0, none⟩ = some (.int .i64 2) := (blk_cell S5.out.q6 0).trans rfl
      have c62 : W5.cell? ⟨b6, 2, none⟩ = some (.int .i64 ln) := (blk_cell S5.out.q6 2).trans rfl
      have c63 : W5.cell? ⟨b6, 3, none⟩ = some (.int .i64 cl) := (blk_cell S5.out.q6 3).trans rfl
      have d40 : W5.cell? ⟨b4, 0, none⟩ = some (.int .i64 0) := (blk_cell S5.out.q4 0).trans rfl
      have d41 : W5.cell? ⟨b4, 1, none⟩ = some (.string ⟨#[]⟩) := (blk_cell S5.out.q4 1).trans rfl
      have d42 : W5.cell? ⟨b4, 2, none⟩ = some (.int .i64 0) := (blk_cell S5.out.q4 2).trans rfl
      have d43 : W5.cell? ⟨b4, 3, none⟩ = some (.int .i64 0) := (blk_cell S5.out.q4 3).trans rfl
      have e40 := blk_frozen S5.out.q4 0
      have e41 := blk_frozen S5.out.q4 1
      have e42 := blk_frozen S5.out.q4 2
      have e43 := blk_frozen S5.out.q4 3
      have h46 := S5.out.n46
      have h64 := Ne.symm h46
      cases hen : rendsB (rcv s RES.1) with
      | true =>
        have HY : Aside0 (wordR s K p ln cl = ((2, s.extract p RES.1, 0), RES)) := ⟨by rw [HX.out, hen]; rfl⟩
        have S6 := Aside0.mk (S5.out.put (i := 1) (v := .string (s.extract p RES.1)) (k' := 2) (t' := s.extract p RES.1) rfl)
        clear hen HX
        go_wp2_with fail
        have F := S6.out.fin (.int .i64 2) (.string (s.extract p RES.1)) (.int .i64 ln) (.int .i64 cl)
        unfold put4 at F
        have F := Aside0.mk F
        rw [HY.out]
        generalize ((((W5.setCell ⟨b6, 1, none⟩ (.string (s.extract p RES.1))).setCell ⟨b4, 0, none⟩ (.int .i64 2)).setCell ⟨b4, 1, none⟩ (.string (s.extract p RES.1))).setCell ⟨b4, 2, none⟩ (.int .i64 ln)).setCell ⟨b4, 3, none⟩ (.int .i64 cl) = W9 at *
        clear d40 d41 d42 d43 e40 e41 e42 e43
        have z0 : W9.cell? ⟨b4, 0, none⟩ = some (.int .i64 2) := (blk_cell F.out.q4 0).trans rfl
        have z1 : W9.cell? ⟨b4, 1, none⟩ = some (.string (s.extract p RES.1)) := (blk_cell F.out.q4 1).trans rfl
        have z2 : W9.cell? ⟨b4, 2, none⟩ = some (.int .i64 ln) := (blk_cell F.out.q4 2).trans rfl
        have z3 : W9.cell? ⟨b4, 3, none⟩ = some (.int .i64 cl) := (blk_cell F.out.q4 3).trans rfl
        refine bodyPost_ret (v := .tuple #[.agg #[.int .i64 2, .string (s.extract p RES.1), .int .i64 ln, .int .i64 cl], .int .i64 0]) (by simp [results, Tryd.results26, go_sem, z0, z1, z2, z3]) rfl ⟨rfl, F.out.rp, F.out.ot⟩
      | false =>
        have HY : Aside0 (wordR s K p ln cl = ((2, ⟨#[]⟩, 4), RES)) := ⟨by rw [HX.out, hen]; rfl⟩
        clear hen HX
        go_wp2_with fail
        have F := S5.out.fin (.int .i64 2) (.string ⟨#[]⟩) (.int .i64 ln) (.int .i64 cl)
        unfold put4 at F
        have F := Aside0.mk F
        rw [HY.out]
        generalize (((W5.setCell ⟨b4, 0, none⟩ (.int .i64 2)).setCell ⟨b4, 1, none⟩ (.string ⟨#[]⟩)).setCell ⟨b4, 2, none⟩ (.int .i64 ln)).setCell ⟨b4, 3, none⟩ (.int .i64 cl) = W9 at *
        clear d40 d41 d42 d43 e40 e41 e42 e43
        have z0 : W9.cell? ⟨b4, 0, none⟩ = some (.int .i64 2) := (blk_cell F.out.q4 0).trans rfl
        have z1 : W9.cell? ⟨b4, 1, none⟩ = some (.string ⟨#[]⟩) := (blk_cell F.out.q4 1).trans rfl
        have z2 : W9.cell? ⟨b4, 2, none⟩ = some (.int .i64 ln) := (blk_cell F.out.q4 2).trans rfl
        have z3 : W9.cell? ⟨b4, 3, none⟩ = some (.int .i64 cl) := (blk_cell F.out.q4 3).trans rfl
        refine bodyPost_ret (v := .tuple #[.agg #[.int .i64 2, .string ⟨#[]⟩, .int .i64 ln, .int .i64 cl], .int .i64 4]) (by simp [results, Tryd.results26, go_sem, z0, z1, z2, z3]) rfl ⟨rfl, F.out.rp, F.out.ot⟩
    | false =>
      have HG := Aside0.mk (rsign_f (rcv s p))
      go_wp2_with fail
      refine (drayageref04_sign.calls _ _ _ HG.out).mono ?_
      rintro e W3e ⟨rfl, hd⟩
      have S3e := Aside0.mk (S3d.out.below hd.below)
      clear hd S3d c60 e6
      cases hsg : signB (rcv s p) with
      | true =>
        have HX : Aside0 (wordR s K p ln cl = ((4, s.extract p (p + 1), 0), p + wdt s p, lnv s p ln, clv s p cl)) := ⟨by rw [HEQ.out, if_neg (by rw [hs]; simp), if_neg (by rw [hd2]; simp), if_pos hsg]⟩
        clear HEQ HS HD HG hs hd2 hsg hHeld
        have c60 : W3e.cell? ⟨b6, 0, none⟩ = some (.int .i64 0) := (blk_cell S3e.out.q6 0).trans rfl
        have e6 := blk_frozen S3e.out.q6 0
        have S4 := Aside0.mk (S3e.out.put (i := 0) (v := .int .i64 4) (k' := 4) (t' := ⟨#[]⟩) rfl)
        have hpp := HP.out
        have hzz := S3e.out.rp.z
        have w1 : IntKind.i64.wrap ((p : Int) + 1) = (p : Int) + 1 := IntWalk.i64_in _ (by omega)
        have w2 : (0 : Int) ≤ (p : Int) + 1 := by omega
        have w3 : ((p : Int) + 1).toNat = p + 1 := by omega
        have w4 : (p : Int) + 1 ≤ (s.size : Int) := by omega
        have w5 : (p : Int) ≤ (p : Int) + 1 := by omega
        have w6 : (0 : Int) ≤ (p : Int) := by omega
        go_wp2_with fail
        generalize W3e.setCell ⟨b6, 0, none⟩ (.int .i64 4) = W4 at *
        have r0 : W4.cell? ⟨g, 0, none⟩ = some (.string s) := (blk_cell S4.out.rp.rb 0).trans rfl
        have r1 : W4.cell? ⟨g, 1, none⟩ = some (.int .i64 (p : Int)) := (blk_cell S4.out.rp.rb 1).trans rfl
        have c61 : W4.cell? ⟨b6, 1, none⟩ = some (.string ⟨#[]⟩) := (blk_cell S4.out.q6 1).trans rfl
        have e61 := blk_frozen S4.out.q6 1
        refine start_ (n := 16) (S := fun w' => w'.cell? ⟨g, 0, none⟩ = some (.string s) ∧ w'.cell? ⟨g, 1, none⟩ = some (.int .i64 (p : Int))) (ds := [15]) #[false, false, false, false, false, false, false, false, false, false, false, false, false, false, false, false] (by kernel_rfl) rfl rfl ⟨r0, r1⟩ (fun hHeld => ?_)
        refine pure_ (i := 0) (N := some 33) (v := ?_) (a' := ?_) #[true, false, false, false, false, false, false, false, false, false, false, false, false, false, false, false] rfl rfl (by kernel_rfl) (fun _ _ _ h => h) (Or.inl ⟨by rfl, ?_⟩) ?_ ?_
        rotate_left
        · intro w'
          go_simp
          with_reducible rfl
        rotate_left
        · simp only [Act.put, List.setIfInBounds_toArray, List.set_cons_zero, List.set_cons_succ, i64_w, i32_w]
          rfl
        refine pure_ (i := 1) (N := some 34) (v := ?_) (a' := ?_) #[true, true, false, false, false, false, false, false, false, false, false, false, false, false, false, false] rfl rfl (by kernel_rfl) (fun _ _ _ h => h) (Or.inl ⟨by rfl, ?_⟩) ?_ ?_
        rotate_left
        · intro w'
          go_simp
          with_reducible rfl
        rotate_left
        · simp only [Act.put, List.setIfInBounds_toArray, List.set_cons_zero, List.set_cons_succ, i64_w, i32_w]
          rfl
        refine pure_ (i := 2) (N := some 35) (v := ?_) (a' := ?_) #[true, true, true, false, false, false, false, false, false, false, false, false, false, false, false, false] rfl rfl (by kernel_rfl) (fun _ _ _ h => h) (Or.inl ⟨by rfl, ?_⟩) ?_ ?_
        rotate_left
        · intro w'
          go_simp
          with_reducible rfl
        rotate_left
        · simp only [Act.put, List.setIfInBounds_toArray, List.set_cons_zero, List.set_cons_succ, i64_w, i32_w]
          rfl
        refine pure_ (i := 4) (N := some 37) (v := ?_) (a' := ?_) #[true, true, true, false, true, false, false, false, false, false, false, false, false, false, false, false] rfl rfl (by kernel_rfl) (fun _ _ _ h => h) (Or.inl ⟨by rfl, ?_⟩) ?_ ?_
        rotate_left
        · intro w'
          go_simp
          with_reducible rfl
        rotate_left
        · simp only [Act.put, List.setIfInBounds_toArray, List.set_cons_zero, List.set_cons_succ, i64_w, i32_w]
          rfl
        refine pure_ (i := 5) (N := some 38) (v := ?_) (a' := ?_) #[true, true, true, false, true, true, false, false, false, false, false, false, false, false, false, false] rfl rfl (by kernel_rfl) (fun _ _ _ h => h) (Or.inl ⟨by rfl, ?_⟩) ?_ ?_
        rotate_left
        · intro w'
          go_simp
          with_reducible rfl
        rotate_left
        · simp only [Act.put, List.setIfInBounds_toArray, List.set_cons_zero, List.set_cons_succ, i64_w, i32_w]
          rfl
        refine pure_ (i := 6) (N := some 39) (v := ?_) (a' := ?_) #[true, true, true, false, true, true, true, false, false, false, false, false, false, false, false, false] rfl rfl (by kernel_rfl) (fun _ _ _ h => h) (Or.inl ⟨by rfl, ?_⟩) ?_ ?_
        rotate_left
        · intro w'
          go_simp
          with_reducible rfl
        rotate_left
        · simp only [Act.put, List.setIfInBounds_toArray, List.set_cons_zero, List.set_cons_succ, i64_w, i32_w]
          rfl
        refine pure_ (i := 8) (N := some 41) (v := ?_) (a' := ?_) #[true, true, true, false, true, true, true, false, true, false, false, false, false, false, false, false] rfl rfl (by kernel_rfl) (fun _ _ _ h => h) (Or.inl ⟨by rfl, ?_⟩) ?_ ?_
        rotate_left
        · intro w'
          go_simp
          with_reducible rfl
        rotate_left
        · simp only [Act.put, List.setIfInBounds_toArray, List.set_cons_zero, List.set_cons_succ, i64_w, i32_w]
          rfl
        refine pure_ (i := 9) (N := some 42) (v := ?_) (a' := ?_) #[true, true, true, false, true, true, true, false, true, true, false, false, false, false, false, false] rfl rfl (by kernel_rfl) (fun _ _ _ h => h) (Or.inl ⟨by rfl, ?_⟩) ?_ ?_
        rotate_left
        · intro w'
          go_simp
          with_reducible rfl
        rotate_left
        · simp only [Act.put, List.setIfInBounds_toArray, List.set_cons_zero, List.set_cons_succ, i64_w, i32_w]
          rfl
        refine pure_ (i := 10) (N := some 43) (v := ?_) (a' := ?_) #[true, true, true, false, true, true, true, false, true, true, true, false, false, false, false, false] rfl rfl (by kernel_rfl) (fun _ _ _ h => h) (Or.inl ⟨by rfl, ?_⟩) ?_ ?_
        rotate_left
        · intro w'
          go_simp
          with_reducible rfl
        rotate_left
        · simp only [Act.put, List.setIfInBounds_toArray, List.set_cons_zero, List.set_cons_succ, i64_w, i32_w]
          rfl
        refine take_ (i := 3) (N := some 36) (v := ?_) (a' := ?_) #[true, true, true, true, true, true, true, false, true, true, true, false, false, false, false, false] rfl rfl (by kernel_rfl) (fun _ _ _ h => h) (Or.inl ⟨by rfl, ?_⟩) hHeld ?_ ?_
        rotate_left
        · rintro w' ⟨s0, s1⟩
          go_simp
          with_reducible rfl
        rotate_left
        · simp only [Act.put, List.setIfInBounds_toArray, List.set_cons_zero, List.set_cons_succ, i64_w, i32_w]
          rfl
        refine take_ (i := 7) (N := some 40) (v := ?_) (a' := ?_) #[true, true, true, true, true, true, true, true, true, true, true, false, false, false, false, false] rfl rfl (by kernel_rfl) (fun _ _ _ h => h) (Or.inl ⟨by rfl, ?_⟩) hHeld ?_ ?_
        rotate_left
        · rintro w' ⟨s0, s1⟩
          go_simp
          with_reducible rfl
        rotate_left
        · simp only [Act.put, List.setIfInBounds_toArray, List.set_cons_zero, List.set_cons_succ, i64_w, i32_w]
          rfl
        refine take_ (i := 11) (N := some 44) (v := ?_) (a' := ?_) #[true, true, true, true, true, true, true, true, true, true, true, true, false, false, false, false] rfl rfl (by kernel_rfl) (fun _ _ _ h => h) (Or.inl ⟨by rfl, ?_⟩) hHeld ?_ ?_
        rotate_left
        · rintro w' ⟨s0, s1⟩
          go_simp
          with_reducible rfl
        rotate_left
        · simp only [Act.put, List.setIfInBounds_toArray, List.set_cons_zero, List.set_cons_succ, i64_w, i32_w]
          rfl
        refine pure_ (i := 12) (N := some 45) (v := ?_) (a' := ?_) #[true, true, true, true, true, true, true, true, true, true, true, true, true, false, false, false] rfl rfl (by kernel_rfl) (fun _ _ _ h => h) (Or.inl ⟨by rfl, ?_⟩) ?_ ?_
        rotate_left
        · intro w'
          go_simp
          with_reducible rfl
        rotate_left
        · simp only [Act.put, List.setIfInBounds_toArray, List.set_cons_zero, List.set_cons_succ, i64_w, i32_w]
          rfl
        refine pure_ (i := 13) (N := some 46) (v := ?_) (a' := ?_) #[true, true, true, true, true, true, true, true, true, true, true, true, true, true, false, false] rfl rfl (by kernel_rfl) (fun _ _ _ h => h) (Or.inl ⟨by rfl, ?_⟩) ?_ ?_
        rotate_left
        · intro w'
          go_simp
          with_reducible rfl
        rotate_left
        · simp only [Act.put, List.setIfInBounds_toArray, List.set_cons_zero, List.set_cons_succ, i64_w, i32_w]
          rfl
        refine pure_ (i := 14) (N := some 47) (v := ?_) (a' := ?_) #[true, true, true, true, true, true, true, true, true, true, true, true, true, true, true, false] rfl rfl (by kernel_rfl) (fun _ _ _ h => h) (Or.inl ⟨by rfl, ?_⟩) ?_ ?_
        rotate_left
        · intro w'
          go_simp
          with_reducible rfl
        rotate_left
        · simp only [Act.put, List.setIfInBounds_toArray, List.set_cons_zero, List.set_cons_succ, i64_w, i32_w]
          rfl
        refine last_ (i := 15) (N := none) #[true, true, true, true, true, true, true, true, true, true, true, true, true, true, true, true] rfl rfl (by kernel_rfl) (by decide) (fun K hK => ?_)
        refine skip_ (w1 := ?_) (by rfl) rfl ?_ ?_
        rotate_left
        · go_simp
          rfl
        refine hK.out _ _ ?_
        clear hK K
        refine done_ (by kernel_rfl) ?_
        have S5 := Aside0.mk ((S4.out.put (i := 1) (v := .string (s.extract p (p + 1))) (k' := 4) (t' := s.extract p (p + 1)) rfl).below (below_drew (Below.refl _ _)))
        clear hHeld r0 r1 c61 e61 c60 e6 w1 w2 w3 w4 w5 w6
        generalize (W4.setCell ⟨b6, 1, none⟩ (.string (s.extract p (p + 1)))).drew = W5 at *
        go_wp2_with fail
        refine (on_at S5.out.rp HP.out).mono ?_
        rintro e W6 ⟨rfl, h6, o6⟩
        have S6 := Aside0.mk (S5.out.oth h6 o6)
        clear h6 o6
        have HY := HX
        have c60 : W6.cell? ⟨b6, 0, none⟩ = some (.int .i64 4) := (blk_cell S6.out.q6 0).trans rfl
        have c61 : W6.cell? ⟨b6, 1, none⟩ = some (.string (s.extract p (p + 1))) := (blk_cell S6.out.q6 1).trans rfl
        have c62 : W6.cell? ⟨b6, 2, none⟩ = some (.int .i64 ln) := (blk_cell S6.out.q6 2).trans rfl
        have c63 : W6.cell? ⟨b6, 3, none⟩ = some (.int .i64 cl) := (blk_cell S6.out.q6 3).trans rfl
        have d40 : W6.cell? ⟨b4, 0, none⟩ = some (.int .i64 0) := (blk_cell S6.out.q4 0).trans rfl
        have d41 : W6.cell? ⟨b4, 1, none⟩ = some (.string ⟨#[]⟩) := (blk_cell S6.out.q4 1).trans rfl
        have d42 : W6.cell? ⟨b4, 2, none⟩ = some (.int .i64 0) := (blk_cell S6.out.q4 2).trans rfl
        have d43 : W6.cell? ⟨b4, 3, none⟩ = some (.int .i64 0) := (blk_cell S6.out.q4 3).trans rfl
        have e40 := blk_frozen S6.out.q4 0
        have e41 := blk_frozen S6.out.q4 1
        have e42 := blk_frozen S6.out.q4 2
        have e43 := blk_frozen S6.out.q4 3
        have h46 := S6.out.n46
        have h64 := Ne.symm h46
        go_wp2_with fail
        have F := S6.out.fin (.int .i64 4) (.string (s.extract p (p + 1))) (.int .i64 ln) (.int .i64 cl)
        unfold put4 at F
        have F := Aside0.mk F
        rw [HY.out]
        generalize (((W6.setCell ⟨b4, 0, none⟩ (.int .i64 4)).setCell ⟨b4, 1, none⟩ (.string (s.extract p (p + 1)))).setCell ⟨b4, 2, none⟩ (.int .i64 ln)).setCell ⟨b4, 3, none⟩ (.int .i64 cl) = W9 at *
        clear d40 d41 d42 d43 e40 e41 e42 e43
        have z0 : W9.cell? ⟨b4, 0, none⟩ = some (.int .i64 4) := (blk_cell F.out.q4 0).trans rfl
        have z1 : W9.cell? ⟨b4, 1, none⟩ = some (.string (s.extract p (p + 1))) := (blk_cell F.out.q4 1).trans rfl
        have z2 : W9.cell? ⟨b4, 2, none⟩ = some (.int .i64 ln) := (blk_cell F.out.q4 2).trans rfl
        have z3 : W9.cell? ⟨b4, 3, none⟩ = some (.int .i64 cl) := (blk_cell F.out.q4 3).trans rfl
        refine bodyPost_ret (v := .tuple #[.agg #[.int .i64 4, .string (s.extract p (p + 1)), .int .i64 ln, .int .i64 cl], .int .i64 0]) (by simp [results, Tryd.results26, go_sem, z0, z1, z2, z3]) rfl ⟨rfl, F.out.rp, F.out.ot⟩
      | false =>
        by_cases h34 : rcv s p = 34
        · have HX : Aside0 (wordR s K p ln cl = ((3, (quotedR s K (p + wdt s p) (lnv s p ln) (clv s p cl) ⟨#[]⟩).1.1, (quotedR s K (p + wdt s p) (lnv s p ln) (clv s p cl) ⟨#[]⟩).1.2), (quotedR s K (p + wdt s p) (lnv s p ln) (clv s p cl) ⟨#[]⟩).2)) := ⟨by rw [HEQ.out, if_neg (by rw [hs]; simp), if_neg (by rw [hd2]; simp), if_neg (by rw [hsg]; simp), if_pos h34]⟩
          have q1 : ((rcv s p : Int) == 34) = true := by rw [h34]; rfl
          clear HEQ HS HD HG hs hd2 hsg hHeld h34
          have c60 : W3e.cell? ⟨b6, 0, none⟩ = some (.int .i64 0) := (blk_cell S3e.out.q6 0).trans rfl
          have e6 := blk_frozen S3e.out.q6 0
          have S4 := Aside0.mk (S3e.out.put (i := 0) (v := .int .i64 3) (k' := 3) (t' := ⟨#[]⟩) rfl)
          go_wp2_with fail
          generalize W3e.setCell ⟨b6, 0, none⟩ (.int .i64 3) = W4 at *
          refine (on_at S4.out.rp HP.out).mono ?_
          rintro e W5 ⟨rfl, h5, o5⟩
          have S5 := Aside0.mk (S4.out.oth h5 o5)
          clear h5 o5 c60 e6 q1
          obtain ⟨RES, hRES⟩ : ∃ r, quotedR s K (p + wdt s p) (lnv s p ln) (clv s p cl) ⟨#[]⟩ = r := ⟨_, rfl⟩
          have HQ : Aside0 (Calls Tryd.prog 49 #[.pointer (some ⟨g, 0, none⟩)] W5 (QuPost w0 W5 g s RES)) := ⟨by rw [← hRES]; exact quoted_rcalls w0 W5 g s (p + wdt s p) (lnv s p ln) (clv s p cl) K (by have := HK.out; omega) S5.out.rp⟩
          rw [hRES] at HX
          clear hRES
          go_wp2_with fail
          refine HQ.out.mono ?_
          rintro e W6 ⟨rfl, h6, o6⟩
          have S6 := Aside0.mk (S5.out.oth h6 o6)
          clear h6 o6 HQ
          have c61' : W6.cell? ⟨b6, 1, none⟩ = some (.string ⟨#[]⟩) := (blk_cell S6.out.q6 1).trans rfl
          have e61 := blk_frozen S6.out.q6 1
          have HY := HX
          have S7 := Aside0.mk (S6.out.put (i := 1) (v := .string RES.1.1) (k' := 3) (t' := RES.1.1) rfl)
          have c60 : W6.cell? ⟨b6, 0, none⟩ = some (.int .i64 3) := (blk_cell S6.out.q6 0).trans rfl
          have c61 : W6.cell? ⟨b6, 1, none⟩ = some (.string ⟨#[]⟩) := (blk_cell S6.out.q6 1).trans rfl
          have c62 : W6.cell? ⟨b6, 2, none⟩ = some (.int .i64 ln) := (blk_cell S6.out.q6 2).trans rfl
          have c63 : W6.cell? ⟨b6, 3, none⟩ = some (.int .i64 cl) := (blk_cell S6.out.q6 3).trans rfl
          have d40 : W6.cell? ⟨b4, 0, none⟩ = some (.int .i64 0) := (blk_cell S6.out.q4 0).trans rfl
          have d41 : W6.cell? ⟨b4, 1, none⟩ = some (.string ⟨#[]⟩) := (blk_cell S6.out.q4 1).trans rfl
          have d42 : W6.cell? ⟨b4, 2, none⟩ = some (.int .i64 0) := (blk_cell S6.out.q4 2).trans rfl
          have d43 : W6.cell? ⟨b4, 3, none⟩ = some (.int .i64 0) := (blk_cell S6.out.q4 3).trans rfl
          have e40 := blk_frozen S6.out.q4 0
          have e41 := blk_frozen S6.out.q4 1
          have e42 := blk_frozen S6.out.q4 2
          have e43 := blk_frozen S6.out.q4 3
          have h46 := S6.out.n46
          have h64 := Ne.symm h46
          go_wp2_with fail
          have F := S7.out.fin (.int .i64 3) (.string RES.1.1) (.int .i64 ln) (.int .i64 cl)
          unfold put4 at F
          have F := Aside0.mk F
          rw [HY.out]
          generalize ((((W6.setCell ⟨b6, 1, none⟩ (.string RES.1.1)).setCell ⟨b4, 0, none⟩ (.int .i64 3)).setCell ⟨b4, 1, none⟩ (.string RES.1.1)).setCell ⟨b4, 2, none⟩ (.int .i64 ln)).setCell ⟨b4, 3, none⟩ (.int .i64 cl) = W9 at *
          clear d40 d41 d42 d43 e40 e41 e42 e43
          have z0 : W9.cell? ⟨b4, 0, none⟩ = some (.int .i64 3) := (blk_cell F.out.q4 0).trans rfl
          have z1 : W9.cell? ⟨b4, 1, none⟩ = some (.string RES.1.1) := (blk_cell F.out.q4 1).trans rfl
          have z2 : W9.cell? ⟨b4, 2, none⟩ = some (.int .i64 ln) := (blk_cell F.out.q4 2).trans rfl
          have z3 : W9.cell? ⟨b4, 3, none⟩ = some (.int .i64 cl) := (blk_cell F.out.q4 3).trans rfl
          refine bodyPost_ret (v := .tuple #[.agg #[.int .i64 3, .string RES.1.1, .int .i64 ln, .int .i64 cl], .int .i64 RES.1.2]) (by simp [results, Tryd.results26, go_sem, z0, z1, z2, z3]) rfl ⟨rfl, F.out.rp, F.out.ot⟩
        · have HY : Aside0 (wordR s K p ln cl = ((0, ⟨#[]⟩, 4), p, ln, cl)) := ⟨by rw [HEQ.out, if_neg (by rw [hs]; simp), if_neg (by rw [hd2]; simp), if_neg (by rw [hsg]; simp), if_neg h34]⟩
          have q1 : ((rcv s p : Int) == 34) = false := by rw [beq_eq_false_iff_ne]; exact h34
          clear HEQ HS HD HG hs hd2 hsg hHeld h34
          have c60 : W3e.cell? ⟨b6, 0, none⟩ = some (.int .i64 0) := (blk_cell S3e.out.q6 0).trans rfl
          have c61 : W3e.cell? ⟨b6, 1, none⟩ = some (.string ⟨#[]⟩) := (blk_cell S3e.out.q6 1).trans rfl
          have c62 : W3e.cell? ⟨b6, 2, none⟩ = some (.int .i64 ln) := (blk_cell S3e.out.q6 2).trans rfl
          have c63 : W3e.cell? ⟨b6, 3, none⟩ = some (.int .i64 cl) := (blk_cell S3e.out.q6 3).trans rfl
          have d40 : W3e.cell? ⟨b4, 0, none⟩ = some (.int .i64 0) := (blk_cell S3e.out.q4 0).trans rfl
          have d41 : W3e.cell? ⟨b4, 1, none⟩ = some (.string ⟨#[]⟩) := (blk_cell S3e.out.q4 1).trans rfl
          have d42 : W3e.cell? ⟨b4, 2, none⟩ = some (.int .i64 0) := (blk_cell S3e.out.q4 2).trans rfl
          have d43 : W3e.cell? ⟨b4, 3, none⟩ = some (.int .i64 0) := (blk_cell S3e.out.q4 3).trans rfl
          have e40 := blk_frozen S3e.out.q4 0
          have e41 := blk_frozen S3e.out.q4 1
          have e42 := blk_frozen S3e.out.q4 2
          have e43 := blk_frozen S3e.out.q4 3
          have h46 := S3e.out.n46
          have h64 := Ne.symm h46
          go_wp2_with fail
          have F := S3e.out.fin (.int .i64 0) (.string ⟨#[]⟩) (.int .i64 ln) (.int .i64 cl)
          unfold put4 at F
          have F := Aside0.mk F
          rw [HY.out]
          generalize (((W3e.setCell ⟨b4, 0, none⟩ (.int .i64 0)).setCell ⟨b4, 1, none⟩ (.string ⟨#[]⟩)).setCell ⟨b4, 2, none⟩ (.int .i64 ln)).setCell ⟨b4, 3, none⟩ (.int .i64 cl) = W9 at *
          clear d40 d41 d42 d43 e40 e41 e42 e43
          have z0 : W9.cell? ⟨b4, 0, none⟩ = some (.int .i64 0) := (blk_cell F.out.q4 0).trans rfl
          have z1 : W9.cell? ⟨b4, 1, none⟩ = some (.string ⟨#[]⟩) := (blk_cell F.out.q4 1).trans rfl
          have z2 : W9.cell? ⟨b4, 2, none⟩ = some (.int .i64 ln) := (blk_cell F.out.q4 2).trans rfl
          have z3 : W9.cell? ⟨b4, 3, none⟩ = some (.int .i64 cl) := (blk_cell F.out.q4 3).trans rfl
          refine bodyPost_ret (v := .tuple #[.agg #[.int .i64 0, .string ⟨#[]⟩, .int .i64 ln, .int .i64 cl], .int .i64 4]) (by simp [results, Tryd.results26, go_sem, z0, z1, z2, z3]) rfl ⟨rfl, F.out.rp, F.out.ot⟩
end Go.Proofs.YtcpalnmodbbklaaDoor.P
