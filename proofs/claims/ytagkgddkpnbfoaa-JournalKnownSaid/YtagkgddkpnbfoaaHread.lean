import Derived.Test.YtagkgddkpnbfoaaHfirst
namespace Go.Proofs.Ytagkgddkpnbfoaa.P
set_option linter.unusedVariables false
set_option linter.unusedSimpArgs false
open Go.RowKit Go.Proofs.YtagkgddkpnbfoaaW.PrintWords Go.Proofs.YtagkgddkpnbfoaaW.PrintLast Go.Proofs.YtagkgddkpnbfoaaW.PrintMore

theorem firstOk_size {b : List Int} (h : firstOk b = true) : 8 ≤ fN b ∧ fN b ≤ b.length ∧ 8 ≤ b.length ∧ gT b 0 = (fN b : Int) := by
 simp only [firstOk, fHead, Bool.and_eq_true, decide_eq_true_eq] at h
 unfold fN
 omega
theorem firstF_ok {b : List Int} (h : firstOk b = true) : firstF b = (recOf (fMid b), gT b 0, true) := by
 simp only [firstOk, Bool.and_eq_true] at h
 unfold firstF
 rw [h.1, h.2.1, h.2.2]
 rfl
theorem firstF_no {b : List Int} : (firstF b).2.2 = firstOk b := by
 unfold firstF firstOk
 cases fHead b <;> cases fSum b <;> rfl
def readAll (b : List Int) : List S25 × Nat :=
 if h : firstOk b = true then
  have : (b.drop (fN b)).length < b.length := by have := firstOk_size h; rw [List.length_drop]; omega
  (recOf (fMid b) :: (readAll (b.drop (fN b))).1, fN b + (readAll (b.drop (fN b))).2)
 else ([], 0)
termination_by b.length
decreasing_by all_goals exact this
theorem readAll_yes {b : List Int} (h : firstOk b = true) : readAll b = (recOf (fMid b) :: (readAll (b.drop (fN b))).1, fN b + (readAll (b.drop (fN b))).2) := by
 rw [readAll, dif_pos h]
theorem readAll_no {b : List Int} (h : firstOk b = false) : readAll b = ([], 0) := by
 rw [readAll, dif_neg (by rw [h]; simp)]
theorem readAll_count (b : List Int) : 8 * (readAll b).1.length ≤ (readAll b).2 ∧ (readAll b).2 ≤ b.length := by
 induction hn : b.length using Nat.strongRecOn generalizing b with
 | _ n ih =>
  cases h : firstOk b with
  | false => rw [readAll_no h]; exact ⟨by simp, by simp⟩
  | true =>
   have hs := firstOk_size h
   have := ih (b.drop (fN b)).length (by rw [List.length_drop]; omega) (b.drop (fN b)) rfl
   rw [readAll_yes h]
   rw [List.length_drop] at this
   simp only [List.length_cons]
   omega
def bytesOk (b : List Int) : Bool := b.all (fun x => decide (0 ≤ x) && decide (x ≤ 255)) && decide (b.length ≤ 1099511627776)
def journal_Read.f (b : List Int) : Option (List S25 × Int) := if bytesOk b = true then some ((readAll b).1, ((readAll b).2 : Int)) else none
theorem bytesOk_byte {b : List Int} (h : bytesOk b = true) : (∀ x ∈ b, isByte x) ∧ b.length ≤ 1099511627776 := by
 simp only [bytesOk, Bool.and_eq_true, List.all_eq_true, decide_eq_true_eq] at h
 exact ⟨fun x hx => h.1 x hx, h.2⟩

theorem cut_from (A : Option Addr) (c : Nat) (b : List Int) (lo : Nat) (h1 : lo ≤ b.length) (hc : b.length ≤ c) :
  ∃ A' : Option Addr, (∀ W : World, (Instr.slice 26 (.slice A b.length c) (some (.int .i64 (lo : Int))) none none).run Try.prog W = .ok (.slice A' (b.drop lo).length (c - lo)) W) ∧
   (∀ W, Kd.C (Kd.int .u8) W A b.length b → Kd.C (Kd.int .u8) W A' (b.drop lo).length (b.drop lo)) ∧ (b.drop lo).length ≤ c - lo := by
 obtain ⟨i, hi5, hs⟩ := info5_x
 obtain ⟨A', k1, k2, k3⟩ := print_cut_int (P := Try.prog) (k := .u8) 26 5 Try.underlying26 hi5 hs A c b (lo : Int) (by omega) (by omega) hc
 simp only [Int.toNat_natCast] at k1 k2 k3
 exact ⟨A', k1, fun W h => Kd.C_of_reads (d := (0 : Int)) (h1 := fun _ => rfl) (k2 W (Kd.reads_of_C (enc := Value.int .u8) (d := (0 : Int)) (h1 := fun _ => rfl) h)), k3⟩
theorem info25x : (Try.prog.info? 25).map (fun i => (i.zero, i.size, i.bytes)) = some (some (.agg #[.int .i64 0, .int .i64 0, .int .i64 0, .slice none 0 0, .slice none 0 0]), 5, 72) := by kernel_rfl

theorem first_at (A : Option Addr) (n c : Nat) (b : List Int) (w : World) (hn : n = b.length) (hr : Kd.C (Kd.int .u8) w A b.length b) (hc : n ≤ c) (hb : ∀ x ∈ b, isByte x) (hl : b.length ≤ 140737488355328) :
  Calls Try.prog 34 #[.slice A n c] w fun e w' => ∃ v3 v4 : Value, e = .returned (.tuple #[.agg #[.int .i64 (firstF b).1.f0, .int .i64 (firstF b).1.f1, .int .i64 (firstF b).1.f2, v3, v4], .int .i64 (firstF b).2.1, .bool (firstF b).2.2]) ∧
   Kd.R (Kd.int .i64) 3 w' w.heap.size (fun _ => True) v3 (firstF b).1.f3 ∧ Kd.R k49 49 w' w.heap.size (fun _ => True) v4 (firstF b).1.f4 ∧ Below w.heap.size w w' := by
 subst hn
 exact first_calls A c b w hr hc hb hl
theorem put5 {W : World} {g : Nat} {a0 a1 a2 a3 a4 : Value} (h : W.heap[g]? = some (.cells #[a0, a1, a2, a3, a4] 25 (0, 0))) (c0 c1 c2 v3 v4 : Value) :
  ∃ W', W' = (((((W.setCell ⟨g, 0, none⟩ c0).setCell ⟨g, 1, none⟩ c1).setCell ⟨g, 2, none⟩ c2).setCell ⟨g, 3, none⟩ v3).setCell ⟨g, 4, none⟩ v4) ∧ W'.heap[g]? = some (.cells #[c0, c1, c2, v3, v4] 25 (0, 0)) ∧ Only g W W' := by
 refine ⟨_, rfl, ?_, ((((Only.set W g 0 c0).trans (Only.set _ g 1 c1)).trans (Only.set _ g 2 c2)).trans (Only.set _ g 3 v3)).trans (Only.set _ g 4 v4)⟩
 have := blk_set (blk_set (blk_set (blk_set (blk_set h 0 c0) 1 c1) 2 c2) 3 v3) 4 v4
 simpa using this
set_option maxRecDepth 100000 in
set_option maxHeartbeats 3200000 in
theorem read_calls (A : Option Addr) (c : Nat) (b : List Int) (w : World) (hr : Kd.C (Kd.int .u8) w A b.length b) (hc : b.length ≤ c) (hb : ∀ x ∈ b, isByte x) (hl : b.length ≤ 1099511627776) :
  Calls Try.prog 19 #[.slice A b.length c] w fun e w' => ∃ v0 : Value, e = .returned (.tuple #[v0, .int .i64 ((readAll b).2 : Int)]) ∧ Kd.S k25 25 w' w.heap.size (fun _ => True) v0 (readAll b).1 ∧ Below w.heap.size w w' := by
 have hm := hr.2.1
 have HR := Aside0.mk hr
 have HX := Aside0.mk hb
 clear hr hb
 go_enter Try.func19, Try.ntmps19
 go_wp2_with fail
 refine (first_calls A c b _ HR.out hc HX.out (by omega)).mono ?_
 rintro e W1 ⟨v3, v4, rfl, H3, H4, hb1⟩
 obtain ⟨A3, c3, rfl⟩ := Kd.R_slice H3
 obtain ⟨A4, c4, rfl⟩ := Kd.R_slice H4
 replace H3 := Aside0.mk H3
 replace H4 := Aside0.mk H4
 replace hb1 := Aside0.mk hb1
 go_wp2_with fail
 go_loopw [2, 3, 4, 5, 6] (fun vL iw px pn pis W => ∃ (B : Nat) (n : Nat) (recs : List S25) (gx : Nat) (A3 : Option Addr) (c3 : Nat) (A4 : Option Addr) (c4 : Nat) (AL : Option Addr) (cL : Nat), n ≤ b.length ∧ vL = .slice AL recs.length cL ∧ iw = .int .i64 n ∧ px = .pointer (some ⟨gx, 0, none⟩) ∧
  pn = .int .i64 (firstF (b.drop n)).2.1 ∧ pis = .bool (firstF (b.drop n)).2.2 ∧ w.heap.size ≤ gx ∧
  Aside0 (W.heap[gx]? = some (.cells #[.int .i64 (firstF (b.drop n)).1.f0, .int .i64 (firstF (b.drop n)).1.f1, .int .i64 (firstF (b.drop n)).1.f2, .slice A3 (firstF (b.drop n)).1.f3.length c3, .slice A4 (firstF (b.drop n)).1.f4.length c4] 25 (0, 0))) ∧
  Aside0 (some gx ≠ (Value.slice AL recs.length cL).ownBlock) ∧ Aside0 (Kd.S k25 25 W w.heap.size (fun k => k < B) (Value.slice AL recs.length cL) recs) ∧
  Aside0 (Kd.R (Kd.int .i64) 3 W w.heap.size (fun k => B ≤ k ∧ some k ≠ (Value.slice AL recs.length cL).ownBlock) (.slice A3 (firstF (b.drop n)).1.f3.length c3) (firstF (b.drop n)).1.f3) ∧
  Aside0 (Kd.R k49 49 W w.heap.size (fun k => B ≤ k ∧ some k ≠ (Value.slice AL recs.length cL).ownBlock) (.slice A4 (firstF (b.drop n)).1.f4.length c4) (firstF (b.drop n)).1.f4) ∧
  Aside0 (Below w.heap.size w W) ∧
  Aside0 (recs ++ (readAll (b.drop n)).1 = (readAll b).1 ∧ n + (readAll (b.drop n)).2 = (readAll b).2)) (fun _ iw _ _ _ _ => b.length - (intOf iw).toNat)
 case atStart =>
  refine ⟨w.heap.size, 0, [], W1.heap.size, A3, c3, A4, c4, none, 0, Nat.zero_le _, rfl, rfl, rfl, rfl, rfl, hb1.out.size, ⟨heap_alloc_new W1 _⟩, ⟨by simp [Value.ownBlock]⟩, ⟨Kd.S_nil _ _ _ _ _⟩, ⟨Kd.R_alloc (Kd.R_mono (Kd.R_bound H3.out) (fun k hk => ⟨hk.2.1, by simp [Value.ownBlock]⟩)) _⟩, ⟨Kd.R_alloc (Kd.R_mono (Kd.R_bound H4.out) (fun k hk => ⟨hk.2.1, by simp [Value.ownBlock]⟩)) _⟩, ⟨below_alloc hb1.out _⟩, ⟨by simp⟩⟩
 case round =>
  obtain ⟨B, n, recs, gx, B3, d3, B4, d4, AL, cL, hn, rfl, rfl, rfl, rfl, rfl, hgx, HBX, HGO, HL, HA, HC, HB, HE⟩ := hrel
  clear H3 H4 hb1
  cases hok : firstOk (b.drop n) with
  | false =>
   have hF : (firstF (b.drop n)).2.2 = false := by rw [firstF_no, hok]
   have HF := Aside0.mk hF
   have hE2 : Aside0 (recs = (readAll b).1 ∧ n = (readAll b).2) := ⟨by have := HE.out; rw [readAll_no hok] at this; simpa using this⟩
   rw [hF]
   clear hok hF
   go_wp2_with fail
   go_ret2
   refine ⟨.slice AL recs.length cL, ?_, ?_, HB.out⟩
   ·show Ending.returned (.tuple #[.slice AL recs.length cL, .int .i64 (n : Int)]) = _
    rw [hE2.out.2]
   ·rw [← hE2.out.1]
    exact Kd.S_mono HL.out (fun _ _ => trivial)
  | true =>
   have hF : (firstF (b.drop n)).2.2 = true := by rw [firstF_no, hok]
   have hsz := firstOk_size hok
   have hg : (firstF (b.drop n)).2.1 = (fN (b.drop n) : Int) := by rw [firstF_ok hok]; exact hsz.2.2.2
   have hp : Aside0 ((firstF (b.drop n)).1 = recOf (fMid (b.drop n))) := ⟨by rw [firstF_ok hok]⟩
   rw [hg, hF]
   obtain ⟨hs1, hs2, hs3, _⟩ := hsz
   rw [List.length_drop] at hs2 hs3
   have hE2 : Aside0 ((recs ++ [(firstF (b.drop n)).1]) ++ (readAll (b.drop (n + fN (b.drop n)))).1 = (readAll b).1 ∧ (n + fN (b.drop n)) + (readAll (b.drop (n + fN (b.drop n)))).2 = (readAll b).2) := ⟨by
    have := HE.out
    rw [readAll_yes hok, List.drop_drop] at this
    rw [hp.out]
    refine ⟨by rw [← this.1]; simp, by rw [← this.2]; simp only; omega⟩⟩
   have hrl : recs.length ≤ b.length := by
    have h1 := congrArg List.length HE.out.1
    have h2 := readAll_count b
    rw [List.length_append] at h1
    omega
   generalize fN (b.drop n) = q at *
   obtain ⟨A', kA, CA, lA⟩ := cut_from A c b (n + q) (by omega) hc
   replace CA := Aside0.mk CA
   simp only [Int.natCast_add] at kA
   clear hok hg HE hF
   have x0 : wr.cell? ⟨gx, 0, none⟩ = some (.int .i64 (firstF (b.drop n)).1.f0) := (blk_cell HBX.out 0).trans rfl
   have x1 : wr.cell? ⟨gx, 1, none⟩ = some (.int .i64 (firstF (b.drop n)).1.f1) := (blk_cell HBX.out 1).trans rfl
   have x2 : wr.cell? ⟨gx, 2, none⟩ = some (.int .i64 (firstF (b.drop n)).1.f2) := (blk_cell HBX.out 2).trans rfl
   have x3 : wr.cell? ⟨gx, 3, none⟩ = some (.slice B3 (firstF (b.drop n)).1.f3.length d3) := (blk_cell HBX.out 3).trans rfl
   have x4 : wr.cell? ⟨gx, 4, none⟩ = some (.slice B4 (firstF (b.drop n)).1.f4.length d4) := (blk_cell HBX.out 4).trans rfl
   go_wp2_with (first | (at_builtin; refine Kd.S_append k25 (w0 := w) w.heap.size rfl (.tmp 22) (.tmp 24) 37 25 (.agg #[.int .i64 0, .int .i64 0, .int .i64 0, .slice none 0 0, .slice none 0 0]) 72 rfl Try.underlying37 info25x rfl (by decide) (by decide) _ recs (firstF (b.drop n)).1 [.int .i64 (firstF (b.drop n)).1.f0, .int .i64 (firstF (b.drop n)).1.f1, .int .i64 (firstF (b.drop n)).1.f2, .slice B3 (firstF (b.drop n)).1.f3.length d3, .slice B4 (firstF (b.drop n)).1.f4.length d4] (fun _ => True) (fun k => B ≤ k ∧ some k ≠ (Value.slice AL recs.length cL).ownBlock) rfl rfl (k25_mkM _ _ _ _ HA.out HC.out) (fun _ h => ⟨trivial, h.2⟩) (fun _ _ => trivial) (Kd.S_mono HL.out (fun k hk => ⟨trivial, fun h => Nat.lt_irrefl _ (Nat.lt_of_lt_of_le hk h.1)⟩)) HB.out HB.out.size ?hl ?_; (case hl => omega); intro v5 W5 HL5 HB5 hg5 hat5; obtain ⟨AL5, cL5, rfl⟩ := Kd.R_slice (Kd.S_R HL5); have HBX5 := Aside0.mk (blk_grown HBX.out hg5 HGO.out); have y0 : W5.cell? ⟨gx, 0, none⟩ = some (.int .i64 (firstF (b.drop n)).1.f0) := (blk_cell HBX5.out 0).trans rfl; have y1 : W5.cell? ⟨gx, 1, none⟩ = some (.int .i64 (firstF (b.drop n)).1.f1) := (blk_cell HBX5.out 1).trans rfl; have y2 : W5.cell? ⟨gx, 2, none⟩ = some (.int .i64 (firstF (b.drop n)).1.f2) := (blk_cell HBX5.out 2).trans rfl; have y3 : W5.cell? ⟨gx, 3, none⟩ = some (.slice B3 (firstF (b.drop n)).1.f3.length d3) := (blk_cell HBX5.out 3).trans rfl; have y4 : W5.cell? ⟨gx, 4, none⟩ = some (.slice B4 (firstF (b.drop n)).1.f4.length d4) := (blk_cell HBX5.out 4).trans rfl) | (go_at_call 34; fail))
   refine (first_at _ _ _ (b.drop (n + q)) _ (by rw [List.length_drop]) (CA.out _ (Kd.C_below HR.out (below_alloc HB5 _))) (by rw [List.length_drop] at lA; exact lA) (fun x hx => HX.out x (List.mem_of_mem_drop hx)) (by rw [List.length_drop]; omega)).mono ?_
   rintro e W6 ⟨v6, v7, rfl, H6, H7, hb6⟩
   obtain ⟨A6, c6, rfl⟩ := Kd.R_slice H6
   obtain ⟨A7, c7, rfl⟩ := Kd.R_slice H7
   have HL6 := Aside0.mk (Kd.S_below HL5 (below_then (below_alloc (Below.refl _ _) _) (by simp) hb6))
   have hbx6 := (hb6.block W5.heap.size (by simp)).trans (heap_alloc_new W5 _)
   have HB6 := Aside0.mk (below_then (below_alloc HB5 _) (below_alloc HB5 _).size hb6)
   have hown : ∀ k, (Value.slice AL5 (recs ++ [(firstF (b.drop n)).1]).length cL5).ownBlock = some k → k < W5.heap.size := Kd.S_lt HL5
   replace H6 := Aside0.mk (Kd.R_lower (base' := w.heap.size) (Kd.R_mono (Kd.R_bound H6) (fun k hk => (show (W5.heap.size ≤ k ∧ some k ≠ (Value.slice AL5 (recs ++ [(firstF (b.drop n)).1]).length cL5).ownBlock) ∧ k ≠ W5.heap.size from ⟨⟨by have := hk.2.1; simp at this; omega, fun e => by have := hown k e.symm; have := hk.2.1; simp at this; omega⟩, by have := hk.2.1; simp at this; omega⟩))) (by have := HB5.size; simp; omega))
   replace H7 := Aside0.mk (Kd.R_lower (base' := w.heap.size) (Kd.R_mono (Kd.R_bound H7) (fun k hk => (show (W5.heap.size ≤ k ∧ some k ≠ (Value.slice AL5 (recs ++ [(firstF (b.drop n)).1]).length cL5).ownBlock) ∧ k ≠ W5.heap.size from ⟨⟨by have := hk.2.1; simp at this; omega, fun e => by have := hown k e.symm; have := hk.2.1; simp at this; omega⟩, by have := hk.2.1; simp at this; omega⟩))) (by have := HB5.size; simp; omega))
   have HL7 := Aside0.mk (Kd.S_mono (Kd.S_bound HL5) (fun k hk => show k < W5.heap.size from hk.2.2.1))
   clear hown
   have z0 : W6.cell? ⟨W5.heap.size, 0, none⟩ = some (.int .i64 (firstF (b.drop n)).1.f0) := (blk_cell hbx6 0).trans rfl
   have z1 : W6.cell? ⟨W5.heap.size, 1, none⟩ = some (.int .i64 (firstF (b.drop n)).1.f1) := (blk_cell hbx6 1).trans rfl
   have z2 : W6.cell? ⟨W5.heap.size, 2, none⟩ = some (.int .i64 (firstF (b.drop n)).1.f2) := (blk_cell hbx6 2).trans rfl
   have z3 : W6.cell? ⟨W5.heap.size, 3, none⟩ = some (.slice B3 (firstF (b.drop n)).1.f3.length d3) := (blk_cell hbx6 3).trans rfl
   have z4 : W6.cell? ⟨W5.heap.size, 4, none⟩ = some (.slice B4 (firstF (b.drop n)).1.f4.length d4) := (blk_cell hbx6 4).trans rfl
   have f0 := blk_frozen hbx6 0
   have f1 := blk_frozen hbx6 1
   have f2 := blk_frozen hbx6 2
   have f3 := blk_frozen hbx6 3
   have f4 := blk_frozen hbx6 4
   replace hbx6 := Aside0.mk hbx6
   have hgo : some W5.heap.size ≠ (Value.slice AL5 (recs ++ [(firstF (b.drop n)).1]).length cL5).ownBlock := fun e => by have := Kd.S_lt HL5 _ e.symm; omega
   have hgo := Aside0.mk hgo
   have hL5 : (recs ++ [(firstF (b.drop n)).1]).length = recs.length + 1 := by simp
   obtain ⟨W9, hW9, hbx9, ho9⟩ := put5 hbx6.out (.int .i64 (firstF (b.drop (n + q))).1.f0) (.int .i64 (firstF (b.drop (n + q))).1.f1) (.int .i64 (firstF (b.drop (n + q))).1.f2) (.slice A6 (firstF (b.drop (n + q))).1.f3.length c6) (.slice A7 (firstF (b.drop (n + q))).1.f4.length c7)
   replace hbx9 := Aside0.mk hbx9
   replace ho9 := Aside0.mk ho9
   replace hW9 := Aside0.mk hW9
   go_wp2_with fail
   rw [← hW9.out]
   refine ⟨⟨W5.heap.size, n + q, recs ++ [(firstF (b.drop n)).1], W5.heap.size, A6, c6, A7, c7, AL5, cL5, by omega, by rw [hL5], by simp, rfl, rfl, rfl, HB5.size, hbx9, hgo, ⟨?_⟩, ⟨?_⟩, ⟨?_⟩, ⟨HB6.out.trans (ho9.out.below HB5.size)⟩, hE2⟩, ?_⟩
   ·exact Kd.S_step (Kd.S_below HL7.out (below_then (below_alloc (Below.refl _ _) _) (by simp) hb6)) (fun k hk _ => ho9.out.block k (Nat.ne_of_lt hk))
   ·exact Kd.R_mono (Kd.R_step H6.out (fun k hk _ => ho9.out.block k hk.2)) (fun _ hk => hk.1)
   ·exact Kd.R_mono (Kd.R_step H7.out (fun k hk _ => ho9.out.block k hk.2)) (fun _ hk => hk.1)
   ·simp [intOf]; omega

theorem journal_Read.calls (A0 : Option Addr) (c0 : Nat) (l0 : List Int) (r1 : List S25) (r2 : Int) (w : World) (hr0 : Kd.C (Kd.int .u8) w A0 l0.length l0) (hc0 : l0.length ≤ c0) (h : journal_Read.f l0 = some (r1, r2)) :
  Calls Try.prog 19 #[.slice A0 l0.length c0] w fun e w' => ∃ v0_ : Value, e = .returned (.tuple #[v0_, .int .i64 r2]) ∧ Kd.S k25 25 w' w.heap.size (fun _ => True) v0_ r1 ∧ Below w.heap.size w w' := by
 unfold journal_Read.f at h
 split at h
 ·rename_i hk
  obtain ⟨h1, h2⟩ := bytesOk_byte hk
  cases h
  exact read_calls A0 c0 l0 w hr0 hc0 h1 h2
 ·cases h
end Go.Proofs.Ytagkgddkpnbfoaa.P
