import Derived.Test.YtfnfjkddlnnolaaPf4
import Derived.Test.YtfnfjkddlnnolaaPureLabelOpposite
namespace Go.Proofs.Ytfnfjkddlnnolaa.P
open Go.RowKit Go.Proofs.YtfnfjkddlnnolaaW.PrintWords Go.Proofs.YtfnfjkddlnnolaaW.PrintLast Go.Proofs.YtfnfjkddlnnolaaW.PrintMore
attribute [local go_sem] max2_int min2_int max_two min_two max_three min_three max_four min_four   -- for this text's walks alone
set_option linter.unusedVariables false
set_option linter.unusedSimpArgs false
theorem bears_nilR (A0 : Option Addr) (c0 : Nat) (l0 : List S43) (r : Bool) (w : World) (hr0 : Kd.C k43 w A0 l0.length l0) (hc0 : l0.length ≤ c0) (h : label_Bears.f l0 [] = some r) :
  Calls Try.prog 20 #[.slice A0 l0.length c0, .slice none 0 0] w fun e w' => e = .returned (.bool r) ∧ Below w.heap.size w w' := label_Bears.calls A0 c0 l0 none 0 [] r w hr0 hc0 (Kd.C_nil _ _) (Nat.le_refl _) h
theorem bears_nilL (A0 : Option Addr) (c0 : Nat) (l0 : List S43) (r : Bool) (w : World) (hr0 : Kd.C k43 w A0 l0.length l0) (hc0 : l0.length ≤ c0) (h : label_Bears.f [] l0 = some r) :
  Calls Try.prog 20 #[.slice none 0 0, .slice A0 l0.length c0] w fun e w' => e = .returned (.bool r) ∧ Below w.heap.size w w' := label_Bears.calls none 0 [] A0 c0 l0 r w (Kd.C_nil _ _) (Nat.le_refl _) hr0 hc0 h
theorem drayagelaw03_LabelOpposite.j0.dead {y0 : _} {y1 : _} {y3 : _} {y4 : _} {y5 : _} {y6 : _} {y7 : _} {y8 : _} (h : drayagelaw03_LabelOpposite.j0 y0 y1 true y3 y4 y5 y6 y7 y8 = some true) : False := by cases y0 <;> simp [drayagelaw03_LabelOpposite.j0] at h
theorem drayagelaw03_LabelOpposite.j2.dead {y0 : _} {y1 : _} (h : drayagelaw03_LabelOpposite.j2 y0 y1 true = some true) : False := by cases y0 <;> simp [drayagelaw03_LabelOpposite.j2] at h
theorem drayagelaw03_LabelOpposite.j4.dead {y0 : _} {y1 : _} {y2 : _} (h : drayagelaw03_LabelOpposite.j4 y0 y1 y2 true = some true) : False := by cases y0 <;> simp [drayagelaw03_LabelOpposite.j4] at h
set_option maxHeartbeats 16000000 in
set_option maxRecDepth 100000 in
theorem drayagelaw03_LabelOpposite.calls (k : Nat) (A0 : Option Addr) (c0 : Nat) (l0 : List (S35)) (a1_0 : Int) (a1_1 : Int) (a1_2 : Int) (a2_0 : Int) (a2_1 : Int) (a2_2 : Int) (r : Bool) (w : World) (hr0 : Kd.C k35 w A0 l0.length l0) (hc0 : l0.length ≤ c0) (h : drayagelaw03_LabelOpposite.f k l0 a1_0 a1_1 a1_2 a2_0 a2_1 a2_2 = some r) :
  Calls Try.prog 4 #[.slice A0 l0.length c0, .agg #[.int .i64 a1_0, .int .i64 a1_1, .int .i64 a1_2], .agg #[.int .i64 a2_0, .int .i64 a2_1, .int .i64 a2_2]] w fun e w' => e = .returned (.bool r) ∧ Below w.heap.size w w' := by
 have hu35 := Try.underlying35
 have hu38 := Try.underlying38
 have hu43 := Try.underlying43
 have HR0 := Aside0.mk hr0
 have HC0 := Aside0.mk hc0
 clear hr0 hc0
 obtain rfl : r = true := by
  obtain ⟨k2, h2⟩ := Pure.LabelOpposite l0 a1_0 a1_1 a1_2 a2_0 a2_1 a2_2
  exact Option.some.inj ((at_rounds (drayagelaw03_LabelOpposite.mono l0 a1_0 a1_1 a1_2 a2_0 a2_1 a2_2) (Nat.le_max_left k k2) h).symm.trans (at_rounds (drayagelaw03_LabelOpposite.mono l0 a1_0 a1_1 a1_2 a2_0 a2_1 a2_2) (Nat.le_max_right k k2) h2))
 have HB := Aside0.mk (Below.refl w.heap.size w)
 have H : ((drayagelaw03_labels.f l0).bind fun t359 => ((drayagelaw03_term.f a1_0 a1_1 a1_2).bind fun bt362 => ((some (([0, 2, 1, 4, 3] : List Int) : List Int)).bind fun y367 => (if 0 ≤ bt362.1 then (if bt362.1 < (y367.length : Int) then ((label_Holds.f k (([(⟨bt362.1, bt362.2.1, bt362.2.2⟩ : S38)] : List (S38))) t359).bind fun t374 => ((label_Holds.f k (([(⟨rd y367 bt362.1, bt362.2.1, bt362.2.2⟩ : S38)] : List (S38))) t359).bind fun t378 => (if (t374 == t378) = true then (drayagelaw03_LabelOpposite.j0 k t359 true a2_0 a2_1 a2_2 bt362.1 bt362.2.1 bt362.2.2) else ((label_Holds.f k (([(⟨bt362.1, bt362.2.1, bt362.2.2⟩ : S38), (⟨rd y367 bt362.1, bt362.2.1, bt362.2.2⟩ : S38)] : List (S38))) t359).bind fun t382 => (if t382 = true then (drayagelaw03_LabelOpposite.j0 k t359 true a2_0 a2_1 a2_2 bt362.1 bt362.2.1 bt362.2.2) else ((label_Holds.f k ([] : List (S38)) t359).bind fun t383 => (drayagelaw03_LabelOpposite.j0 k t359 (!t383) a2_0 a2_1 a2_2 bt362.1 bt362.2.1 bt362.2.2))))))) else (none)) else (none))))) = some true := h
 clear h
 replace H := Option.bind_eq_some_iff.mp H
 obtain ⟨t359, A40, H⟩ := H
 try dsimp only at H
 have A4 := Aside0.mk A40
 clear A40
 replace H := Option.bind_eq_some_iff.mp H
 obtain ⟨⟨t362, t363, t364⟩, A50, H⟩ := H
 try dsimp only at H
 have A5 := Aside0.mk A50
 clear A50
 obtain ⟨y367, hy367⟩ : ∃ y_ : List Int, y_ = (([0, 2, 1, 4, 3] : List Int)) := ⟨_, rfl⟩
 replace H : (if 0 ≤ t362 then (if t362 < (y367.length : Int) then ((label_Holds.f k (([(⟨t362, t363, t364⟩ : S38)] : List (S38))) t359).bind fun t374 => ((label_Holds.f k (([(⟨rd y367 t362, t363, t364⟩ : S38)] : List (S38))) t359).bind fun t378 => (if (t374 == t378) = true then (drayagelaw03_LabelOpposite.j0 k t359 true a2_0 a2_1 a2_2 t362 t363 t364) else ((label_Holds.f k (([(⟨t362, t363, t364⟩ : S38), (⟨rd y367 t362, t363, t364⟩ : S38)] : List (S38))) t359).bind fun t382 => (if t382 = true then (drayagelaw03_LabelOpposite.j0 k t359 true a2_0 a2_1 a2_2 t362 t363 t364) else ((label_Holds.f k ([] : List (S38)) t359).bind fun t383 => (drayagelaw03_LabelOpposite.j0 k t359 (!t383) a2_0 a2_1 a2_2 t362 t363 t364))))))) else (none)) else (none)) = some true := by first | (rw [hy367]; with_reducible exact H) | (have H2_ := (Option.bind_some _ _).symm.trans H; rw [hy367]; with_reducible exact H2_) | (have H2_ := (Option.bind_some _ _).symm.trans H; with_reducible exact H2_) | with_reducible exact H | (rw [hy367]; exact H) | exact H
 have Ny367 := Aside0.mk hy367
 clear hy367
 by_cases c6 : 0 ≤ t362
 ·rw [if_pos c6] at H
  have c6b0 : decide (0 ≤ t362) = true := decide_eq_true c6
  clear c6
  by_cases c7 : t362 < (y367.length : Int)
  ·rw [if_pos c7] at H
   have c7b0 : decide (t362 < (y367.length : Int)) = true := decide_eq_true c7
   clear c7
   have HC8 := Aside0.mk H
   clear H
   go_enter Try.func4, Try.ntmps4
   go_upto_region 5 with (first | ((with_reducible refine gate_dst (N := 4) rfl ?_); (try (refine gate_guard (by rfl) ?_; dsimp only)); refine box_event ?hg (N := 4) ?hd (cs := #[.int .i64 a1_0, .int .i64 a1_1, .int .i64 a1_2]) (t := 35) ?hr ?_; (case hd => rfl); (case hg => rfl); (case hr => first | (go_simp; done) | (go_simp; rfl)); intro gb357 hg w9 hbox hb; have BK357 := Aside0.mk (hbox); have GW357 := Aside0.mk ((by rw [hg]; exact (below_size bw_) : w.heap.size ≤ gb357)); have GE357 := Aside0.mk ((by rw [hg]; exact (below_size bw_) : w.heap.size ≤ gb357)); replace HB := Aside0.mk (below_step bw_ hb); clear hb hbox hg) | ((with_reducible refine gate_dst (N := 5) rfl ?_); (try (refine gate_guard (by rfl) ?_; dsimp only)); refine box_event ?hg (N := 5) ?hd (cs := #[.int .i64 a2_0, .int .i64 a2_1, .int .i64 a2_2]) (t := 35) ?hr ?_; (case hd => rfl); (case hg => rfl); (case hr => first | (go_simp; done) | (go_simp; rfl)); intro gb358 hg w10 hbox hb; have BK358 := Aside0.mk (hbox); have GW358 := Aside0.mk ((by rw [hg]; exact (below_size (by repeat (first | (with_reducible first | exact HB.out | apply below_alloc | apply pw_below_drewN | apply below_drew1 | refine below_set ?_ GE357.out) | exact HB.out))) : w.heap.size ≤ gb358)); have GE358 := Aside0.mk ((by rw [hg]; exact (below_size (by repeat (first | (with_reducible first | exact HB.out | apply below_alloc | apply pw_below_drewN | apply below_drew1 | refine below_set ?_ GE357.out) | exact HB.out))) : w.heap.size ≤ gb358)); replace HB := Aside0.mk (below_step (by repeat (first | (with_reducible first | exact HB.out | apply below_alloc | apply pw_below_drewN | apply below_drew1 | refine below_set ?_ GE357.out) | exact HB.out)) hb); have NB357_358 := Aside0.mk ((by rw [hg]; exact Nat.ne_of_lt (blk_lt (g := gb357) (o := .cells #[.int .i64 a1_0, .int .i64 a1_1, .int .i64 a1_2] 35 (0, 0)) (by (with_reducible repeat (first | refine blk_drewN ?_ _ | refine blk_drew ?_ | refine blk_alloc ?_ _)); exact BK357.out)) : gb357 ≠ gb358)); have NB358_357 := Aside0.mk ((by rw [hg]; exact Nat.ne_of_gt (blk_lt (g := gb357) (o := .cells #[.int .i64 a1_0, .int .i64 a1_1, .int .i64 a1_2] 35 (0, 0)) (by (with_reducible repeat (first | refine blk_drewN ?_ _ | refine blk_drew ?_ | refine blk_alloc ?_ _)); exact BK357.out)) : gb358 ≠ gb357)); replace BK357 := Aside0.mk (blk_below (g := gb357) (o := .cells #[.int .i64 a1_0, .int .i64 a1_1, .int .i64 a1_2] 35 (0, 0)) (by (with_reducible repeat (first | refine blk_drewN ?_ _ | refine blk_drew ?_ | refine blk_alloc ?_ _)); exact BK357.out) hb); clear hb hbox hg) | ((with_reducible refine gate_callee (f := 17) rfl ?_); refine goesL_ (some 16) rfl rfl Try.func17 (by kernel_rfl) rfl #[.slice A0 l0.length c0] rfl ca_ ?_; (with_reducible refine (drayagelaw03_labels.calls _ _ l0 t359 _ ?side1 ?side2 A4.out).mono ?_); (case side1 => repeat (first | exact (Kd.C_below HR0.out HB.out) | (with_reducible refine Kd.C_alloc ?_ _) | (with_reducible refine Kd.C_drewN ?_ _) | (with_reducible refine Kd.C_drew ?_))); (case side2 => exact HC0.out); rintro e w11 ⟨v360, rfl, ho0, hb⟩; refine ⟨_, rfl, ?_⟩; have HO361 := Aside0.mk (Kd.R_lower ho0 (below_size (by repeat (first | (with_reducible first | exact HB.out | apply below_alloc | apply pw_below_drewN | apply below_drew1 | refine below_set ?_ GE357.out | refine below_set ?_ GE358.out) | exact HB.out)))); replace BK357 := Aside0.mk (blk_below (g := gb357) (o := .cells #[.int .i64 a1_0, .int .i64 a1_1, .int .i64 a1_2] 35 (0, 0)) (by (with_reducible repeat (first | refine blk_drewN ?_ _ | refine blk_drew ?_ | refine blk_alloc ?_ _)); exact BK357.out) hb); replace BK358 := Aside0.mk (blk_below (g := gb358) (o := .cells #[.int .i64 a2_0, .int .i64 a2_1, .int .i64 a2_2] 35 (0, 0)) (by (with_reducible repeat (first | refine blk_drewN ?_ _ | refine blk_drew ?_ | refine blk_alloc ?_ _)); exact BK358.out) hb); replace HB := Aside0.mk (below_step (by repeat (first | (with_reducible first | exact HB.out | apply below_alloc | apply pw_below_drewN | apply below_drew1 | refine below_set ?_ GE357.out | refine below_set ?_ GE358.out) | exact HB.out)) hb); (try clear hb); (try clear hb2); (try clear hk); (try clear hi); (try clear ho0); have hnb12 := NB357_358.out; have hnc12 := NB358_357.out; have hcz13_0 : w11.cell? ⟨gb357, 0, none⟩ = some (.int .i64 a1_0) := (blk_cell BK357.out 0).trans rfl; have hcz13_1 : w11.cell? ⟨gb357, 1, none⟩ = some (.int .i64 a1_1) := (blk_cell BK357.out 1).trans rfl; have hcz13_2 : w11.cell? ⟨gb357, 2, none⟩ = some (.int .i64 a1_2) := (blk_cell BK357.out 2).trans rfl; have hfz13_0 := blk_frozen BK357.out 0; have hfz13_1 := blk_frozen BK357.out 1; have hfz13_2 := blk_frozen BK357.out 2) | ((with_reducible refine gate_callee (f := 18) rfl ?_); refine goesL_ (some 18) rfl rfl Try.func18 (by kernel_rfl) rfl #[.agg #[.int .i64 a1_0, .int .i64 a1_1, .int .i64 a1_2]] rfl ca_ ?_; (with_reducible refine (drayagelaw03_term.calls a1_0 a1_1 a1_2 t362 t363 t364 _ A5.out).mono ?_); rintro e w14 ⟨rfl, hb⟩; refine ⟨_, rfl, ?_⟩; replace HO361 := Aside0.mk (Kd.R_below (ra_ HO361.out) hb); replace BK357 := Aside0.mk (blk_below (g := gb357) (o := .cells #[.int .i64 a1_0, .int .i64 a1_1, .int .i64 a1_2] 35 (0, 0)) (by (with_reducible repeat (first | refine blk_drewN ?_ _ | refine blk_drew ?_ | refine blk_alloc ?_ _)); exact BK357.out) hb); replace BK358 := Aside0.mk (blk_below (g := gb358) (o := .cells #[.int .i64 a2_0, .int .i64 a2_1, .int .i64 a2_2] 35 (0, 0)) (by (with_reducible repeat (first | refine blk_drewN ?_ _ | refine blk_drew ?_ | refine blk_alloc ?_ _)); exact BK358.out) hb); replace HB := Aside0.mk (below_step (by repeat (first | (with_reducible first | exact HB.out | apply below_alloc | apply pw_below_drewN | apply below_drew1 | refine below_set ?_ GE357.out | refine below_set ?_ GE358.out) | exact HB.out)) hb); (try clear hb); (try clear hb2); (try clear hk); (try clear hi)) | ((with_reducible refine gate_dst (N := 8) rfl ?_); (try (refine gate_guard (by rfl) ?_; dsimp only)); refine box_event ?hg (N := 8) ?hd (cs := #[.int .i64 0, .string (⟨#[]⟩ : ByteArray), .string (⟨#[]⟩ : ByteArray)]) (t := 38) ?hr ?_; (case hd => rfl); (case hg => rfl); (case hr => first | (go_simp; done) | (go_simp; rfl)); intro gb365 hg w15 hbox hb; replace HO361 := Aside0.mk (Kd.R_below (ra_ HO361.out) hb); have BK365 := Aside0.mk (hbox); have GW365 := Aside0.mk ((by rw [hg]; exact (below_size (by repeat (first | (with_reducible first | exact HB.out | apply below_alloc | apply pw_below_drewN | apply below_drew1 | refine below_set ?_ GE357.out | refine below_set ?_ GE358.out) | exact HB.out))) : w.heap.size ≤ gb365)); have GE365 := Aside0.mk ((by rw [hg]; exact (below_size (by repeat (first | (with_reducible first | exact HB.out | apply below_alloc | apply pw_below_drewN | apply below_drew1 | refine below_set ?_ GE357.out | refine below_set ?_ GE358.out) | exact HB.out))) : w.heap.size ≤ gb365)); replace HB := Aside0.mk (below_step (by repeat (first | (with_reducible first | exact HB.out | apply below_alloc | apply pw_below_drewN | apply below_drew1 | refine below_set ?_ GE357.out | refine below_set ?_ GE358.out) | exact HB.out)) hb); have NB357_365 := Aside0.mk ((by rw [hg]; exact Nat.ne_of_lt (blk_lt (g := gb357) (o := .cells #[.int .i64 a1_0, .int .i64 a1_1, .int .i64 a1_2] 35 (0, 0)) (by (with_reducible repeat (first | refine blk_drewN ?_ _ | refine blk_drew ?_ | refine blk_alloc ?_ _)); exact BK357.out)) : gb357 ≠ gb365)); have NB365_357 := Aside0.mk ((by rw [hg]; exact Nat.ne_of_gt (blk_lt (g := gb357) (o := .cells #[.int .i64 a1_0, .int .i64 a1_1, .int .i64 a1_2] 35 (0, 0)) (by (with_reducible repeat (first | refine blk_drewN ?_ _ | refine blk_drew ?_ | refine blk_alloc ?_ _)); exact BK357.out)) : gb365 ≠ gb357)); replace BK357 := Aside0.mk (blk_below (g := gb357) (o := .cells #[.int .i64 a1_0, .int .i64 a1_1, .int .i64 a1_2] 35 (0, 0)) (by (with_reducible repeat (first | refine blk_drewN ?_ _ | refine blk_drew ?_ | refine blk_alloc ?_ _)); exact BK357.out) hb); have NB358_365 := Aside0.mk ((by rw [hg]; exact Nat.ne_of_lt (blk_lt (g := gb358) (o := .cells #[.int .i64 a2_0, .int .i64 a2_1, .int .i64 a2_2] 35 (0, 0)) (by (with_reducible repeat (first | refine blk_drewN ?_ _ | refine blk_drew ?_ | refine blk_alloc ?_ _)); exact BK358.out)) : gb358 ≠ gb365)); have NB365_358 := Aside0.mk ((by rw [hg]; exact Nat.ne_of_gt (blk_lt (g := gb358) (o := .cells #[.int .i64 a2_0, .int .i64 a2_1, .int .i64 a2_2] 35 (0, 0)) (by (with_reducible repeat (first | refine blk_drewN ?_ _ | refine blk_drew ?_ | refine blk_alloc ?_ _)); exact BK358.out)) : gb365 ≠ gb358)); replace BK358 := Aside0.mk (blk_below (g := gb358) (o := .cells #[.int .i64 a2_0, .int .i64 a2_1, .int .i64 a2_2] 35 (0, 0)) (by (with_reducible repeat (first | refine blk_drewN ?_ _ | refine blk_drew ?_ | refine blk_alloc ?_ _)); exact BK358.out) hb); clear hb hbox hg; have hnb16 := NB365_357.out; have hnc16 := NB357_365.out; have hnb17 := NB365_358.out; have hnc17 := NB358_365.out; have hcz18_0 : w15.cell? ⟨gb365, 0, none⟩ = some (.int .i64 0) := (blk_cell BK365.out 0).trans rfl; have hcz18_1 : w15.cell? ⟨gb365, 1, none⟩ = some (.string (⟨#[]⟩ : ByteArray)) := (blk_cell BK365.out 1).trans rfl; have hcz18_2 : w15.cell? ⟨gb365, 2, none⟩ = some (.string (⟨#[]⟩ : ByteArray)) := (blk_cell BK365.out 2).trans rfl; have hfz18_0 := blk_frozen BK365.out 0; have hfz18_1 := blk_frozen BK365.out 1; have hfz18_2 := blk_frozen BK365.out 2) | ((with_reducible refine gate_dst (N := 9) rfl ?_); (try (refine gate_guard (by rfl) ?_; dsimp only)); refine box_event ?hg (N := 9) ?hd (cs := #[.int .i64 0, .string (⟨#[]⟩ : ByteArray), .string (⟨#[]⟩ : ByteArray)]) (t := 38) ?hr ?_; (case hd => rfl); (case hg => rfl); (case hr => first | (go_simp; done) | (go_simp; rfl)); intro gb366 hg w19 hbox hb; replace HO361 := Aside0.mk (Kd.R_below (by (with_reducible repeat (first | apply Kd.R_alloc | apply Kd.R_drewN | apply Kd.R_drew)); exact (Kd.R_mono (Kd.R_far (p := ⟨gb365, 2, none⟩) (Kd.R_far (p := ⟨gb365, 1, none⟩) (Kd.R_far (p := ⟨gb365, 0, none⟩) (Kd.R_types HO361.out BK365.out (by decide)) (fun _ hk => hk.2) (.int .i64 t362)) (fun _ hk => hk.2) (.string t363)) (fun _ hk => hk.2) (.string t364)) (fun _ h_ => h_.1))) hb); have BK366 := Aside0.mk (hbox); have GW366 := Aside0.mk ((by rw [hg]; exact (below_size (by repeat (first | (with_reducible first | exact HB.out | apply below_alloc | apply pw_below_drewN | apply below_drew1 | refine below_set ?_ GE357.out | refine below_set ?_ GE358.out | refine below_set ?_ GE365.out) | exact HB.out))) : w.heap.size ≤ gb366)); have GE366 := Aside0.mk ((by rw [hg]; exact (below_size (by repeat (first | (with_reducible first | exact HB.out | apply below_alloc | apply pw_below_drewN | apply below_drew1 | refine below_set ?_ GE357.out | refine below_set ?_ GE358.out | refine below_set ?_ GE365.out) | exact HB.out))) : w.heap.size ≤ gb366)); replace HB := Aside0.mk (below_step (by repeat (first | (with_reducible first | exact HB.out | apply below_alloc | apply pw_below_drewN | apply below_drew1 | refine below_set ?_ GE357.out | refine below_set ?_ GE358.out | refine below_set ?_ GE365.out) | exact HB.out)) hb); have NB357_366 := Aside0.mk ((by rw [hg]; exact Nat.ne_of_lt (blk_lt (g := gb357) (o := .cells #[.int .i64 a1_0, .int .i64 a1_1, .int .i64 a1_2] 35 (0, 0)) (by (with_reducible repeat (first | refine blk_drewN ?_ _ | refine blk_drew ?_ | refine blk_alloc ?_ _)); refine blk_far ?_ NB357_365.out _; (with_reducible repeat (first | refine blk_drewN ?_ _ | refine blk_drew ?_ | refine blk_alloc ?_ _)); refine blk_far ?_ NB357_365.out _; (with_reducible repeat (first | refine blk_drewN ?_ _ | refine blk_drew ?_ | refine blk_alloc ?_ _)); refine blk_far ?_ NB357_365.out _; (with_reducible repeat (first | refine blk_drewN ?_ _ | refine blk_drew ?_ | refine blk_alloc ?_ _)); exact BK357.out)) : gb357 ≠ gb366)); have NB366_357 := Aside0.mk ((by rw [hg]; exact Nat.ne_of_gt (blk_lt (g := gb357) (o := .cells #[.int .i64 a1_0, .int .i64 a1_1, .int .i64 a1_2] 35 (0, 0)) (by (with_reducible repeat (first | refine blk_drewN ?_ _ | refine blk_drew ?_ | refine blk_alloc ?_ _)); refine blk_far ?_ NB357_365.out _; (with_reducible repeat (first | refine blk_drewN ?_ _ | refine blk_drew ?_ | refine blk_alloc ?_ _)); refine blk_far ?_ NB357_365.out _; (with_reducible repeat (first | refine blk_drewN ?_ _ | refine blk_drew ?_ | refine blk_alloc ?_ _)); refine blk_far ?_ NB357_365.out _; (with_reducible repeat (first | refine blk_drewN ?_ _ | refine blk_drew ?_ | refine blk_alloc ?_ _)); exact BK357.out)) : gb366 ≠ gb357)); replace BK357 := Aside0.mk (blk_below (g := gb357) (o := .cells #[.int .i64 a1_0, .int .i64 a1_1, .int .i64 a1_2] 35 (0, 0)) (by (with_reducible repeat (first | refine blk_drewN ?_ _ | refine blk_drew ?_ | refine blk_alloc ?_ _)); refine blk_far ?_ NB357_365.out _; (with_reducible repeat (first | refine blk_drewN ?_ _ | refine blk_drew ?_ | refine blk_alloc ?_ _)); refine blk_far ?_ NB357_365.out _; (with_reducible repeat (first | refine blk_drewN ?_ _ | refine blk_drew ?_ | refine blk_alloc ?_ _)); refine blk_far ?_ NB357_365.out _; (with_reducible repeat (first | refine blk_drewN ?_ _ | refine blk_drew ?_ | refine blk_alloc ?_ _)); exact BK357.out) hb); have NB358_366 := Aside0.mk ((by rw [hg]; exact Nat.ne_of_lt (blk_lt (g := gb358) (o := .cells #[.int .i64 a2_0, .int .i64 a2_1, .int .i64 a2_2] 35 (0, 0)) (by (with_reducible repeat (first | refine blk_drewN ?_ _ | refine blk_drew ?_ | refine blk_alloc ?_ _)); refine blk_far ?_ NB358_365.out _; (with_reducible repeat (first | refine blk_drewN ?_ _ | refine blk_drew ?_ | refine blk_alloc ?_ _)); refine blk_far ?_ NB358_365.out _; (with_reducible repeat (first | refine blk_drewN ?_ _ | refine blk_drew ?_ | refine blk_alloc ?_ _)); refine blk_far ?_ NB358_365.out _; (with_reducible repeat (first | refine blk_drewN ?_ _ | refine blk_drew ?_ | refine blk_alloc ?_ _)); exact BK358.out)) : gb358 ≠ gb366)); have NB366_358 := Aside0.mk ((by rw [hg]; exact Nat.ne_of_gt (blk_lt (g := gb358) (o := .cells #[.int .i64 a2_0, .int .i64 a2_1, .int .i64 a2_2] 35 (0, 0)) (by (with_reducible repeat (first | refine blk_drewN ?_ _ | refine blk_drew ?_ | refine blk_alloc ?_ _)); refine blk_far ?_ NB358_365.out _; (with_reducible repeat (first | refine blk_drewN ?_ _ | refine blk_drew ?_ | refine blk_alloc ?_ _)); refine blk_far ?_ NB358_365.out _; (with_reducible repeat (first | refine blk_drewN ?_ _ | refine blk_drew ?_ | refine blk_alloc ?_ _)); refine blk_far ?_ NB358_365.out _; (with_reducible repeat (first | refine blk_drewN ?_ _ | refine blk_drew ?_ | refine blk_alloc ?_ _)); exact BK358.out)) : gb366 ≠ gb358)); replace BK358 := Aside0.mk (blk_below (g := gb358) (o := .cells #[.int .i64 a2_0, .int .i64 a2_1, .int .i64 a2_2] 35 (0, 0)) (by (with_reducible repeat (first | refine blk_drewN ?_ _ | refine blk_drew ?_ | refine blk_alloc ?_ _)); refine blk_far ?_ NB358_365.out _; (with_reducible repeat (first | refine blk_drewN ?_ _ | refine blk_drew ?_ | refine blk_alloc ?_ _)); refine blk_far ?_ NB358_365.out _; (with_reducible repeat (first | refine blk_drewN ?_ _ | refine blk_drew ?_ | refine blk_alloc ?_ _)); refine blk_far ?_ NB358_365.out _; (with_reducible repeat (first | refine blk_drewN ?_ _ | refine blk_drew ?_ | refine blk_alloc ?_ _)); exact BK358.out) hb); have NB365_366 := Aside0.mk ((by rw [hg]; exact Nat.ne_of_lt (blk_lt (g := gb365) (o := .cells #[.int .i64 t362, .string t363, .string t364] 38 (0, 0)) (by (with_reducible repeat (first | refine blk_drewN ?_ _ | refine blk_drew ?_ | refine blk_alloc ?_ _)); refine blk_put (cs := #[.int .i64 t362, .string t363, .string (⟨#[]⟩ : ByteArray)]) ?_ 2 _ rfl; (with_reducible repeat (first | refine blk_drewN ?_ _ | refine blk_drew ?_ | refine blk_alloc ?_ _)); refine blk_put (cs := #[.int .i64 t362, .string (⟨#[]⟩ : ByteArray), .string (⟨#[]⟩ : ByteArray)]) ?_ 1 _ rfl; (with_reducible repeat (first | refine blk_drewN ?_ _ | refine blk_drew ?_ | refine blk_alloc ?_ _)); refine blk_put (cs := #[.int .i64 0, .string (⟨#[]⟩ : ByteArray), .string (⟨#[]⟩ : ByteArray)]) ?_ 0 _ rfl; (with_reducible repeat (first | refine blk_drewN ?_ _ | refine blk_drew ?_ | refine blk_alloc ?_ _)); exact BK365.out)) : gb365 ≠ gb366)); have NB366_365 := Aside0.mk ((by rw [hg]; exact Nat.ne_of_gt (blk_lt (g := gb365) (o := .cells #[.int .i64 t362, .string t363, .string t364] 38 (0, 0)) (by (with_reducible repeat (first | refine blk_drewN ?_ _ | refine blk_drew ?_ | refine blk_alloc ?_ _)); refine blk_put (cs := #[.int .i64 t362, .string t363, .string (⟨#[]⟩ : ByteArray)]) ?_ 2 _ rfl; (with_reducible repeat (first | refine blk_drewN ?_ _ | refine blk_drew ?_ | refine blk_alloc ?_ _)); refine blk_put (cs := #[.int .i64 t362, .string (⟨#[]⟩ : ByteArray), .string (⟨#[]⟩ : ByteArray)]) ?_ 1 _ rfl; (with_reducible repeat (first | refine blk_drewN ?_ _ | refine blk_drew ?_ | refine blk_alloc ?_ _)); refine blk_put (cs := #[.int .i64 0, .string (⟨#[]⟩ : ByteArray), .string (⟨#[]⟩ : ByteArray)]) ?_ 0 _ rfl; (with_reducible repeat (first | refine blk_drewN ?_ _ | refine blk_drew ?_ | refine blk_alloc ?_ _)); exact BK365.out)) : gb366 ≠ gb365)); replace BK365 := Aside0.mk (blk_below (g := gb365) (o := .cells #[.int .i64 t362, .string t363, .string t364] 38 (0, 0)) (by (with_reducible repeat (first | refine blk_drewN ?_ _ | refine blk_drew ?_ | refine blk_alloc ?_ _)); refine blk_put (cs := #[.int .i64 t362, .string t363, .string (⟨#[]⟩ : ByteArray)]) ?_ 2 _ rfl; (with_reducible repeat (first | refine blk_drewN ?_ _ | refine blk_drew ?_ | refine blk_alloc ?_ _)); refine blk_put (cs := #[.int .i64 t362, .string (⟨#[]⟩ : ByteArray), .string (⟨#[]⟩ : ByteArray)]) ?_ 1 _ rfl; (with_reducible repeat (first | refine blk_drewN ?_ _ | refine blk_drew ?_ | refine blk_alloc ?_ _)); refine blk_put (cs := #[.int .i64 0, .string (⟨#[]⟩ : ByteArray), .string (⟨#[]⟩ : ByteArray)]) ?_ 0 _ rfl; (with_reducible repeat (first | refine blk_drewN ?_ _ | refine blk_drew ?_ | refine blk_alloc ?_ _)); exact BK365.out) hb); clear hb hbox hg; have hnb20 := NB366_357.out; have hnc20 := NB357_366.out; have hnb21 := NB366_358.out; have hnc21 := NB358_366.out; have hnb22 := NB366_365.out; have hnc22 := NB365_366.out; have hcz23_0 : w19.cell? ⟨gb366, 0, none⟩ = some (.int .i64 0) := (blk_cell BK366.out 0).trans rfl; have hcz23_1 : w19.cell? ⟨gb366, 1, none⟩ = some (.string (⟨#[]⟩ : ByteArray)) := (blk_cell BK366.out 1).trans rfl; have hcz23_2 : w19.cell? ⟨gb366, 2, none⟩ = some (.string (⟨#[]⟩ : ByteArray)) := (blk_cell BK366.out 2).trans rfl; have hfz23_0 := blk_frozen BK366.out 0; have hfz23_1 := blk_frozen BK366.out 1; have hfz23_2 := blk_frozen BK366.out 2) | ((with_reducible refine gate_dst (N := 20) rfl ?_); (try (refine gate_guard (by rfl) ?_; dsimp only)); refine Kd.R_lit (Kd.int .i64) _ 3 ?hg (N := 20) ?hd (xs := ([0, 2, 1, 4, 3] : List Int)) (inner := [.int .i64 0, .int .i64 2, .int .i64 1, .int .i64 4, .int .i64 3]) (ok := fun _ => True) (okp := fun _ => True) ?hr ?hp (fun _ hk => hk) trivial (Below.refl _ _) (Nat.le_refl _) (by simp) ?_; (case hd => rfl); (case hg => rfl); (case hr => first | (go_simp; done) | (go_simp; rfl)); (case hp => exact (Reps.one (show Kd.M (Kd.int .i64) _ _ _ 0 [.int .i64 0] from rfl) (Reps.one (show Kd.M (Kd.int .i64) _ _ _ 2 [.int .i64 2] from rfl) (Reps.one (show Kd.M (Kd.int .i64) _ _ _ 1 [.int .i64 1] from rfl) (Reps.one (show Kd.M (Kd.int .i64) _ _ _ 4 [.int .i64 4] from rfl) (Reps.one (show Kd.M (Kd.int .i64) _ _ _ 3 [.int .i64 3] from rfl) (Reps.none _ _))))))); intro v368 w24 ho25 hb hg_ hnew_; clear hg_ hnew_; (first | rw [← Ny367.out] at ho25 | (simp only [Int.reduceToNat] at ho25; rw [← Ny367.out] at ho25)); replace HO361 := Aside0.mk (Kd.R_below (by (with_reducible repeat (first | apply Kd.R_alloc | apply Kd.R_drewN | apply Kd.R_drew)); exact (Kd.R_mono (Kd.R_far (p := ⟨gb366, 2, none⟩) (Kd.R_far (p := ⟨gb366, 1, none⟩) (Kd.R_far (p := ⟨gb366, 0, none⟩) (Kd.R_types HO361.out BK366.out (by decide)) (fun _ hk => hk.2) (.int .i64 t362)) (fun _ hk => hk.2) (.string t363)) (fun _ hk => hk.2) (.string t364)) (fun _ h_ => h_.1))) hb); have HO369 := Aside0.mk (Kd.R_lower ho25 (below_size (by repeat (first | (with_reducible first | exact HB.out | apply below_alloc | apply pw_below_drewN | apply below_drew1 | refine below_set ?_ GE357.out | refine below_set ?_ GE358.out | refine below_set ?_ GE365.out | refine below_set ?_ GE366.out) | exact HB.out)))); replace BK357 := Aside0.mk (blk_below (g := gb357) (o := .cells #[.int .i64 a1_0, .int .i64 a1_1, .int .i64 a1_2] 35 (0, 0)) (by (with_reducible repeat (first | refine blk_drewN ?_ _ | refine blk_drew ?_ | refine blk_alloc ?_ _)); refine blk_far ?_ NB357_366.out _; (with_reducible repeat (first | refine blk_drewN ?_ _ | refine blk_drew ?_ | refine blk_alloc ?_ _)); refine blk_far ?_ NB357_366.out _; (with_reducible repeat (first | refine blk_drewN ?_ _ | refine blk_drew ?_ | refine blk_alloc ?_ _)); refine blk_far ?_ NB357_366.out _; (with_reducible repeat (first | refine blk_drewN ?_ _ | refine blk_drew ?_ | refine blk_alloc ?_ _)); exact BK357.out) hb); replace BK358 := Aside0.mk (blk_below (g := gb358) (o := .cells #[.int .i64 a2_0, .int .i64 a2_1, .int .i64 a2_2] 35 (0, 0)) (by (with_reducible repeat (first | refine blk_drewN ?_ _ | refine blk_drew ?_ | refine blk_alloc ?_ _)); refine blk_far ?_ NB358_366.out _; (with_reducible repeat (first | refine blk_drewN ?_ _ | refine blk_drew ?_ | refine blk_alloc ?_ _)); refine blk_far ?_ NB358_366.out _; (with_reducible repeat (first | refine blk_drewN ?_ _ | refine blk_drew ?_ | refine blk_alloc ?_ _)); refine blk_far ?_ NB358_366.out _; (with_reducible repeat (first | refine blk_drewN ?_ _ | refine blk_drew ?_ | refine blk_alloc ?_ _)); exact BK358.out) hb); replace BK365 := Aside0.mk (blk_below (g := gb365) (o := .cells #[.int .i64 t362, .string t363, .string t364] 38 (0, 0)) (by (with_reducible repeat (first | refine blk_drewN ?_ _ | refine blk_drew ?_ | refine blk_alloc ?_ _)); refine blk_far ?_ NB365_366.out _; (with_reducible repeat (first | refine blk_drewN ?_ _ | refine blk_drew ?_ | refine blk_alloc ?_ _)); refine blk_far ?_ NB365_366.out _; (with_reducible repeat (first | refine blk_drewN ?_ _ | refine blk_drew ?_ | refine blk_alloc ?_ _)); refine blk_far ?_ NB365_366.out _; (with_reducible repeat (first | refine blk_drewN ?_ _ | refine blk_drew ?_ | refine blk_alloc ?_ _)); exact BK365.out) hb); replace BK366 := Aside0.mk (blk_below (g := gb366) (o := .cells #[.int .i64 t362, .string t363, .string t364] 38 (0, 0)) (by (with_reducible repeat (first | refine blk_drewN ?_ _ | refine blk_drew ?_ | refine blk_alloc ?_ _)); refine blk_put (cs := #[.int .i64 t362, .string t363, .string (⟨#[]⟩ : ByteArray)]) ?_ 2 _ rfl; (with_reducible repeat (first | refine blk_drewN ?_ _ | refine blk_drew ?_ | refine blk_alloc ?_ _)); refine blk_put (cs := #[.int .i64 t362, .string (⟨#[]⟩ : ByteArray), .string (⟨#[]⟩ : ByteArray)]) ?_ 1 _ rfl; (with_reducible repeat (first | refine blk_drewN ?_ _ | refine blk_drew ?_ | refine blk_alloc ?_ _)); refine blk_put (cs := #[.int .i64 0, .string (⟨#[]⟩ : ByteArray), .string (⟨#[]⟩ : ByteArray)]) ?_ 0 _ rfl; (with_reducible repeat (first | refine blk_drewN ?_ _ | refine blk_drew ?_ | refine blk_alloc ?_ _)); exact BK366.out) hb); replace HB := Aside0.mk (below_step (by repeat (first | (with_reducible first | exact HB.out | apply below_alloc | apply pw_below_drewN | apply below_drew1 | refine below_set ?_ GE357.out | refine below_set ?_ GE358.out | refine below_set ?_ GE365.out | refine below_set ?_ GE366.out) | exact HB.out)) hb); clear hb ho25; have hcz26_0 : w24.cell? ⟨gb365, 0, none⟩ = some (.int .i64 t362) := (blk_cell BK365.out 0).trans rfl; have hcz26_1 : w24.cell? ⟨gb365, 1, none⟩ = some (.string t363) := (blk_cell BK365.out 1).trans rfl; have hcz26_2 : w24.cell? ⟨gb365, 2, none⟩ = some (.string t364) := (blk_cell BK365.out 2).trans rfl; have hfz26_0 := blk_frozen BK365.out 0; have hfz26_1 := blk_frozen BK365.out 1; have hfz26_2 := blk_frozen BK365.out 2; obtain ⟨Ao27, co27, eo27⟩ := Kd.R_slice HO369.out; subst eo27; have p370 : 0 ≤ (t362 : Int) := of_decide_eq_true (by first | (with_reducible assumption) | assumption); have q370 : t362 < (y367.length : Int) := of_decide_eq_true (by first | (with_reducible assumption) | assumption); obtain ⟨ad370, e370, hx370_0⟩ := Kd.at_int (Kd.R_reads' HO369.out).2.2 t362 p370 q370; cases e370; replace p370 := eq_true p370; replace q370 := eq_true q370; have hcz28_0 : w24.cell? ⟨gb366, 0, none⟩ = some (.int .i64 t362) := (blk_cell BK366.out 0).trans rfl; have hcz28_1 : w24.cell? ⟨gb366, 1, none⟩ = some (.string t363) := (blk_cell BK366.out 1).trans rfl; have hcz28_2 : w24.cell? ⟨gb366, 2, none⟩ = some (.string t364) := (blk_cell BK366.out 2).trans rfl; have hfz28_0 := blk_frozen BK366.out 0; have hfz28_1 := blk_frozen BK366.out 1; have hfz28_2 := blk_frozen BK366.out 2))
   (try simp only [Act.put, List.setIfInBounds_toArray, List.set_cons_zero, List.set_cons_succ])
   go_cut [46] (fun v46 wc => ∃ (kq : Nat) (x46_7 : Bool), v46 = .bool x46_7 ∧ Aside0 (drayagelaw03_LabelOpposite.j0 kq t359 x46_7 a2_0 a2_1 a2_2 t362 t363 t364 = some true) ∧ Aside0 (kq ≤ k) ∧ Aside0 (Kd.R k43 43 wc w.heap.size (fun _ => True) v360 t359) ∧ Aside0 (wc.heap[gb357]? = some (.cells #[.int .i64 a1_0, .int .i64 a1_1, .int .i64 a1_2] 35 (0, 0))) ∧ Aside0 (wc.heap[gb358]? = some (.cells #[.int .i64 a2_0, .int .i64 a2_1, .int .i64 a2_2] 35 (0, 0))) ∧ Aside0 (wc.heap[gb365]? = some (.cells #[.int .i64 t362, .string t363, .string t364] 38 (0, 0))) ∧ Aside0 (wc.heap[gb366]? = some (.cells #[.int .i64 (rd y367 t362), .string t363, .string t364] 38 (0, 0))) ∧ Aside0 (Below w.heap.size w wc))
   case first =>
    have H := HC8.out
    clear HC8
    obtain ⟨y371, hy371⟩ : ∃ y_ : List (S38), y_ = (([(⟨t362, t363, t364⟩ : S38)] : List (S38))) := ⟨_, rfl⟩
    replace H : ((label_Holds.f k y371 t359).bind fun t374 => ((label_Holds.f k (([(⟨rd y367 t362, t363, t364⟩ : S38)] : List (S38))) t359).bind fun t378 => (if (t374 == t378) = true then (drayagelaw03_LabelOpposite.j0 k t359 true a2_0 a2_1 a2_2 t362 t363 t364) else ((label_Holds.f k (([(⟨t362, t363, t364⟩ : S38), (⟨rd y367 t362, t363, t364⟩ : S38)] : List (S38))) t359).bind fun t382 => (if t382 = true then (drayagelaw03_LabelOpposite.j0 k t359 true a2_0 a2_1 a2_2 t362 t363 t364) else ((label_Holds.f k ([] : List (S38)) t359).bind fun t383 => (drayagelaw03_LabelOpposite.j0 k t359 (!t383) a2_0 a2_1 a2_2 t362 t363 t364))))))) = some true := by first | (rw [hy371]; with_reducible exact H) | (have H2_ := (Option.bind_some _ _).symm.trans H; rw [hy371]; with_reducible exact H2_) | (have H2_ := (Option.bind_some _ _).symm.trans H; with_reducible exact H2_) | with_reducible exact H | (rw [hy371]; exact H) | exact H
    have Ny371 := Aside0.mk hy371
    clear hy371
    replace H := Option.bind_eq_some_iff.mp H
    obtain ⟨t374, A290, H⟩ := H
    try dsimp only at H
    have A29 := Aside0.mk A290
    clear A290
    obtain ⟨y375, hy375⟩ : ∃ y_ : List (S38), y_ = (([(⟨rd y367 t362, t363, t364⟩ : S38)] : List (S38))) := ⟨_, rfl⟩
    replace H : ((label_Holds.f k y375 t359).bind fun t378 => (if (t374 == t378) = true then (drayagelaw03_LabelOpposite.j0 k t359 true a2_0 a2_1 a2_2 t362 t363 t364) else ((label_Holds.f k (([(⟨t362, t363, t364⟩ : S38), (⟨rd y367 t362, t363, t364⟩ : S38)] : List (S38))) t359).bind fun t382 => (if t382 = true then (drayagelaw03_LabelOpposite.j0 k t359 true a2_0 a2_1 a2_2 t362 t363 t364) else ((label_Holds.f k ([] : List (S38)) t359).bind fun t383 => (drayagelaw03_LabelOpposite.j0 k t359 (!t383) a2_0 a2_1 a2_2 t362 t363 t364)))))) = some true := by first | (rw [hy375]; with_reducible exact H) | (have H2_ := (Option.bind_some _ _).symm.trans H; rw [hy375]; with_reducible exact H2_) | (have H2_ := (Option.bind_some _ _).symm.trans H; with_reducible exact H2_) | with_reducible exact H | (rw [hy375]; exact H) | exact H
    have Ny375 := Aside0.mk hy375
    clear hy375
    replace H := Option.bind_eq_some_iff.mp H
    obtain ⟨t378, A300, H⟩ := H
    try dsimp only at H
    have A30 := Aside0.mk A300
    clear A300
    by_cases c31 : (t374 == t378) = true
    ·rw [if_pos c31] at H
     exact (drayagelaw03_LabelOpposite.j0.dead H).elim
    ·rw [if_neg c31] at H
     have c31b0 : (t374 == t378) = false := by simpa using c31
     (try (have c31b1 : decide (t374 = t378) = false := by simpa using c31))
     (try (have c31b2 : (t374 == t378) = false := by simpa using c31))
     (try (have c31b3 : ¬ (t374 = t378) := by simpa using c31))
     clear c31
     (first | rw [c31b0] | (simp only [i64_w, i32_w]; rw [c31b0]) | skip)
     obtain ⟨y379, hy379⟩ : ∃ y_ : List (S38), y_ = (([(⟨t362, t363, t364⟩ : S38), (⟨rd y367 t362, t363, t364⟩ : S38)] : List (S38))) := ⟨_, rfl⟩
     replace H : ((label_Holds.f k y379 t359).bind fun t382 => (if t382 = true then (drayagelaw03_LabelOpposite.j0 k t359 true a2_0 a2_1 a2_2 t362 t363 t364) else ((label_Holds.f k ([] : List (S38)) t359).bind fun t383 => (drayagelaw03_LabelOpposite.j0 k t359 (!t383) a2_0 a2_1 a2_2 t362 t363 t364)))) = some true := by first | (rw [hy379]; with_reducible exact H) | (have H2_ := (Option.bind_some _ _).symm.trans H; rw [hy379]; with_reducible exact H2_) | (have H2_ := (Option.bind_some _ _).symm.trans H; with_reducible exact H2_) | with_reducible exact H | (rw [hy379]; exact H) | exact H
     have Ny379 := Aside0.mk hy379
     clear hy379
     replace H := Option.bind_eq_some_iff.mp H
     obtain ⟨t382, A440, H⟩ := H
     try dsimp only at H
     have A44 := Aside0.mk A440
     clear A440
     by_cases c45 : t382 = true
     ·subst c45
      have H1 : (drayagelaw03_LabelOpposite.j0 k t359 true a2_0 a2_1 a2_2 t362 t363 t364) = some true := by rw [if_pos rfl] at H; exact H
      have H := H1; exact (drayagelaw03_LabelOpposite.j0.dead H).elim
     ·replace c45 := Bool.eq_false_iff.mpr c45
      subst c45
      have H1 : ((label_Holds.f k ([] : List (S38)) t359).bind fun t383 => (drayagelaw03_LabelOpposite.j0 k t359 (!t383) a2_0 a2_1 a2_2 t362 t363 t364)) = some true := by rw [if_neg (show ¬ (false = true) by decide)] at H; exact H
      clear H
      have H := H1
      clear H1
      replace H := Option.bind_eq_some_iff.mp H
      obtain ⟨t383, A620, H⟩ := H
      try dsimp only at H
      have A62 := Aside0.mk A620
      clear A620
      have H' := Aside0.mk H
      clear H
      obtain ⟨Ao63, co63, eo63⟩ := Kd.R_slice HO361.out
      subst eo63
      try go_wp2
      have n0_ : Aside0 (Kd.R k43 43 (w24.setCell ⟨gb366, 0, none⟩ (.int .i64 (rd y367 t362))) w.heap.size (fun _ => True) (.slice Ao63 t359.length co63) t359) := ⟨by (with_reducible repeat (first | apply Kd.R_alloc | apply Kd.R_drewN | apply Kd.R_drew)); exact Kd.R_mono (Kd.R_far (p := ⟨gb366, 0, none⟩) (Kd.R_types HO361.out BK366.out (by decide)) (fun _ hk => hk.2) (.int .i64 (rd y367 t362))) (fun _ hk => trivial)⟩
      have n1_ : Aside0 (Kd.R (Kd.int .i64) 3 (w24.setCell ⟨gb366, 0, none⟩ (.int .i64 (rd y367 t362))) w.heap.size (fun _ => True) (.slice (some ad370) y367.length co27) y367) := ⟨by (with_reducible repeat (first | apply Kd.R_alloc | apply Kd.R_drewN | apply Kd.R_drew)); exact Kd.R_mono (Kd.R_far (p := ⟨gb366, 0, none⟩) (Kd.R_types HO369.out BK366.out (by decide)) (fun _ hk => hk.2) (.int .i64 (rd y367 t362))) (fun _ hk => trivial)⟩
      have n2_ : Aside0 ((w24.setCell ⟨gb366, 0, none⟩ (.int .i64 (rd y367 t362))).heap[gb357]? = some (.cells #[.int .i64 a1_0, .int .i64 a1_1, .int .i64 a1_2] 35 (0, 0))) := ⟨by (with_reducible repeat (first | refine blk_drewN ?_ _ | refine blk_drew ?_ | refine blk_alloc ?_ _)); refine blk_far ?_ NB357_366.out _; (with_reducible repeat (first | refine blk_drewN ?_ _ | refine blk_drew ?_ | refine blk_alloc ?_ _)); exact BK357.out⟩
      have n3_ : Aside0 ((w24.setCell ⟨gb366, 0, none⟩ (.int .i64 (rd y367 t362))).heap[gb358]? = some (.cells #[.int .i64 a2_0, .int .i64 a2_1, .int .i64 a2_2] 35 (0, 0))) := ⟨by (with_reducible repeat (first | refine blk_drewN ?_ _ | refine blk_drew ?_ | refine blk_alloc ?_ _)); refine blk_far ?_ NB358_366.out _; (with_reducible repeat (first | refine blk_drewN ?_ _ | refine blk_drew ?_ | refine blk_alloc ?_ _)); exact BK358.out⟩
      have n4_ : Aside0 ((w24.setCell ⟨gb366, 0, none⟩ (.int .i64 (rd y367 t362))).heap[gb365]? = some (.cells #[.int .i64 t362, .string t363, .string t364] 38 (0, 0))) := ⟨by (with_reducible repeat (first | refine blk_drewN ?_ _ | refine blk_drew ?_ | refine blk_alloc ?_ _)); refine blk_far ?_ NB365_366.out _; (with_reducible repeat (first | refine blk_drewN ?_ _ | refine blk_drew ?_ | refine blk_alloc ?_ _)); exact BK365.out⟩
      have n5_ : Aside0 ((w24.setCell ⟨gb366, 0, none⟩ (.int .i64 (rd y367 t362))).heap[gb366]? = some (.cells #[.int .i64 (rd y367 t362), .string t363, .string t364] 38 (0, 0))) := ⟨by (with_reducible repeat (first | refine blk_drewN ?_ _ | refine blk_drew ?_ | refine blk_alloc ?_ _)); refine blk_put (cs := #[.int .i64 t362, .string t363, .string t364]) ?_ 0 _ rfl; (with_reducible repeat (first | refine blk_drewN ?_ _ | refine blk_drew ?_ | refine blk_alloc ?_ _)); exact BK366.out⟩
      have n6_ : Aside0 (Below w.heap.size w (w24.setCell ⟨gb366, 0, none⟩ (.int .i64 (rd y367 t362)))) := ⟨by repeat (first | (with_reducible first | exact HB.out | apply below_alloc | apply pw_below_drewN | apply below_drew1 | refine below_set ?_ GE357.out | refine below_set ?_ GE358.out | refine below_set ?_ GE365.out | refine below_set ?_ GE366.out) | exact HB.out)⟩
      (try clear HO361)
      (try clear HO369)
      (try clear BK357)
      (try clear BK358)
      (try clear BK365)
      (try clear BK366)
      (try clear HB)
      generalize (w24.setCell ⟨gb366, 0, none⟩ (.int .i64 (rd y367 t362))) = w64 at n0_ n1_ n2_ n3_ n4_ n5_ n6_ ⊢
      have HO361 := n0_
      have HO369 := n1_
      have BK357 := n2_
      have BK358 := n3_
      have BK365 := n4_
      have BK366 := n5_
      have HB := n6_
      clear n0_ n1_ n2_ n3_ n4_ n5_ n6_
      replace HO361 := Aside0.mk (Kd.R_drew HO361.out)
      replace HO369 := Aside0.mk (Kd.R_drew HO369.out)
      replace BK357 := Aside0.mk (blk_drew BK357.out)
      replace BK358 := Aside0.mk (blk_drew BK358.out)
      replace BK365 := Aside0.mk (blk_drew BK365.out)
      replace BK366 := Aside0.mk (blk_drew BK366.out)
      replace HB := Aside0.mk (below_drew1 HB.out)
      refine start_ (n := 21) (S := fun w' => w'.cell? ⟨gb365, 0, none⟩ = some (.int .i64 t362) ∧ w'.cell? ⟨gb365, 1, none⟩ = some (.string t363) ∧ w'.cell? ⟨gb365, 2, none⟩ = some (.string t364) ∧ w'.cell? ⟨gb366, 0, none⟩ = some (.int .i64 (rd y367 t362)) ∧ w'.cell? ⟨gb366, 1, none⟩ = some (.string t363) ∧ w'.cell? ⟨gb366, 2, none⟩ = some (.string t364)) (ds := []) #[false, false, false, false, false, false, false, false, false, false, false, false, false, false, false, false, false, false, false, false, false] (by kernel_rfl) rfl rfl ⟨(blk_cell BK365.out 0).trans rfl, (blk_cell BK365.out 1).trans rfl, (blk_cell BK365.out 2).trans rfl, (blk_cell BK366.out 0).trans rfl, (blk_cell BK366.out 1).trans rfl, (blk_cell BK366.out 2).trans rfl⟩ (fun hHeld => ?_); refine with_tabW drayagelaw03_LabelOpposite.tab5 drayagelaw03_LabelOpposite.bits5 (fun HT_ HW_ => ?_)
      generalize w64.drew = w65 at HO361 HO369 BK357 BK358 BK365 BK366 HB hHeld ⊢
      refine pureS_ (i := 2) (N := some 28) (v := ?_) (a' := ?_) rfl rfl (any_of HT_.out (by kernel_rfl)) (fun _ _ _ h => h) (Or.inl ⟨by rfl, ?_⟩) ?_ ?_
      rotate_left; (· intro w'; go_simp; with_reducible rfl); rotate_left; (· simp only [Act.put, List.setIfInBounds_toArray, List.set_cons_zero, List.set_cons_succ, i64_w, i32_w]; rfl)
      refine pureS_ (i := 6) (N := some 32) (v := ?_) (a' := ?_) rfl rfl (any_of HT_.out (by kernel_rfl)) (fun _ _ _ h => h) (Or.inl ⟨by rfl, ?_⟩) ?_ ?_
      rotate_left; (· intro w'; go_simp; with_reducible rfl); rotate_left; (· simp only [Act.put, List.setIfInBounds_toArray, List.set_cons_zero, List.set_cons_succ, i64_w, i32_w]; rfl)
      refine takeS_ (i := 0) (N := some 26) (v := ?_) (a' := ?_) rfl rfl (take_ofW HT_.out HW_.out (by kernel_rfl)) (fun _ _ _ h => h) (Or.inl ⟨by rfl, ?_⟩) hHeld ?_ ?_
      rotate_left; (· rintro w' ⟨s0, s1, s2, s3, s4, s5⟩; go_simp; with_reducible rfl); rotate_left; (· simp only [Act.put, List.setIfInBounds_toArray, List.set_cons_zero, List.set_cons_succ, i64_w, i32_w]; rfl)
      refine takeS_ (i := 4) (N := some 30) (v := ?_) (a' := ?_) rfl rfl (take_ofW HT_.out HW_.out (by kernel_rfl)) (fun _ _ _ h => h) (Or.inl ⟨by rfl, ?_⟩) hHeld ?_ ?_
      rotate_left; (· rintro w' ⟨s0, s1, s2, s3, s4, s5⟩; go_simp; with_reducible rfl); rotate_left; (· simp only [Act.put, List.setIfInBounds_toArray, List.set_cons_zero, List.set_cons_succ, i64_w, i32_w]; rfl)
      refine join_ (σ := Value × Value) 14 #[true, true, true, true, true, true, true, false, false, false, false, false, false, false, false, false, false, false, false, false, false] (fun s_ => [(27, s_.1), (29, .bool t374), (31, s_.2)]) (fun s_ w' => (w'.cell? ⟨gb365, 0, none⟩ = some (.int .i64 t362) ∧ w'.cell? ⟨gb365, 1, none⟩ = some (.string t363) ∧ w'.cell? ⟨gb365, 2, none⟩ = some (.string t364) ∧ w'.cell? ⟨gb366, 0, none⟩ = some (.int .i64 (rd y367 t362)) ∧ w'.cell? ⟨gb366, 1, none⟩ = some (.string t363) ∧ w'.cell? ⟨gb366, 2, none⟩ = some (.string t364)) ∧ (Kd.R k43 43 w' w.heap.size (fun _ => True) (.slice Ao63 t359.length co63) t359) ∧ (Kd.R (Kd.int .i64) 3 w' w.heap.size (fun _ => True) (.slice (some ad370) y367.length co27) y367) ∧ (Kd.R k38 38 w' w.heap.size (fun k_ => some k_ ≠ (s_.2 : Value).ownBlock ∧ k_ ≠ gb365 ∧ k_ ≠ gb366) s_.1 y371) ∧ (Kd.R k38 38 w' w.heap.size (fun k_ => some k_ ≠ (s_.1 : Value).ownBlock ∧ k_ ≠ gb365 ∧ k_ ≠ gb366) s_.2 y375) ∧ (w'.heap[gb357]? = some (.cells #[.int .i64 a1_0, .int .i64 a1_1, .int .i64 a1_2] 35 (0, 0))) ∧ (w'.heap[gb358]? = some (.cells #[.int .i64 a2_0, .int .i64 a2_1, .int .i64 a2_2] 35 (0, 0))) ∧ (w'.heap[gb365]? = some (.cells #[.int .i64 t362, .string t363, .string t364] 38 (0, 0))) ∧ (w'.heap[gb366]? = some (.cells #[.int .i64 (rd y367 t362), .string t363, .string t364] 38 (0, 0))) ∧ (Below w.heap.size w w')) ?_ ?_
      rotate_left
      ·intro hCont
       refine two_ (i := 1) (j := 5) (Ni := some 27) (Nj := some 31) #[true, true, true, false, true, false, true, false, false, false, false, false, false, false, false, false, false, false, false, false, false] #[true, false, true, false, true, true, true, false, false, false, false, false, false, false, false, false, false, false, false, false, false] rfl rfl rfl rfl (two_of HT_.out (by kernel_rfl)) (by decide) (by decide) (fun K hK => ?_) (fun K hK => ?_)
       ·skip
        refine Kd.R_lit_step k38 _ 38 ?hg (N := 27) ?hd (xs := ([(⟨t362, t363, t364⟩ : S38)] : List (S38))) (inner := [.int .i64 t362, .string t363, .string t364]) (ok := fun _ => True) (okp := fun _ => True) ?hr ?hp (fun _ hk => hk) trivial (Below.refl _ _) (Nat.le_refl _) (by simp) ?_; (case hd => rfl); (case hg => rfl); (case hr => first | (go_simp; done) | (go_simp; rfl)); (case hp => exact (Reps.c3 (show Kd.M k38 _ _ _ (⟨t362, t363, t364⟩ : S38) [.int .i64 t362, .string t363, .string t364] from (k38_mkM _ _ _ (⟨t362, t363, t364⟩ : S38) )) (Reps.none _ _)))
        intro v372 w66 ho67 hb hg_ hnew_
        clear hg_ hnew_
        (first | rw [← Ny371.out] at ho67 | (simp only [Int.reduceToNat] at ho67; rw [← Ny371.out] at ho67))
        replace HO361 := Aside0.mk (Kd.R_below (ra_ HO361.out) hb)
        replace HO369 := Aside0.mk (Kd.R_below (ra_ HO369.out) hb)
        have HO373 := Aside0.mk (Kd.R_lower (Kd.R_newB (Kd.R_newB ho67 (g := gb365) (o := .cells #[.int .i64 t362, .string t363, .string t364] 38 (0, 0)) (by (with_reducible repeat (first | refine blk_drewN ?_ _ | refine blk_drew ?_ | refine blk_alloc ?_ _)); exact BK365.out)) (g := gb366) (o := .cells #[.int .i64 (rd y367 t362), .string t363, .string t364] 38 (0, 0)) (by (with_reducible repeat (first | refine blk_drewN ?_ _ | refine blk_drew ?_ | refine blk_alloc ?_ _)); exact BK366.out)) (below_size (by repeat (first | (with_reducible first | exact HB.out | apply below_alloc | apply pw_below_drewN | apply below_drew1 | refine below_set ?_ GE357.out | refine below_set ?_ GE358.out | refine below_set ?_ GE365.out | refine below_set ?_ GE366.out) | exact HB.out))))
        replace BK357 := Aside0.mk (blk_below (g := gb357) (o := .cells #[.int .i64 a1_0, .int .i64 a1_1, .int .i64 a1_2] 35 (0, 0)) (by (with_reducible repeat (first | refine blk_drewN ?_ _ | refine blk_drew ?_ | refine blk_alloc ?_ _)); exact BK357.out) hb)
        replace BK358 := Aside0.mk (blk_below (g := gb358) (o := .cells #[.int .i64 a2_0, .int .i64 a2_1, .int .i64 a2_2] 35 (0, 0)) (by (with_reducible repeat (first | refine blk_drewN ?_ _ | refine blk_drew ?_ | refine blk_alloc ?_ _)); exact BK358.out) hb)
        replace BK365 := Aside0.mk (blk_below (g := gb365) (o := .cells #[.int .i64 t362, .string t363, .string t364] 38 (0, 0)) (by (with_reducible repeat (first | refine blk_drewN ?_ _ | refine blk_drew ?_ | refine blk_alloc ?_ _)); exact BK365.out) hb)
        replace BK366 := Aside0.mk (blk_below (g := gb366) (o := .cells #[.int .i64 (rd y367 t362), .string t363, .string t364] 38 (0, 0)) (by (with_reducible repeat (first | refine blk_drewN ?_ _ | refine blk_drew ?_ | refine blk_alloc ?_ _)); exact BK366.out) hb)
        replace HB := Aside0.mk (below_step (by repeat (first | (with_reducible first | exact HB.out | apply below_alloc | apply pw_below_drewN | apply below_drew1 | refine below_set ?_ GE357.out | refine below_set ?_ GE358.out | refine below_set ?_ GE365.out | refine below_set ?_ GE366.out) | exact HB.out)) hb)
        clear hb ho67
        obtain ⟨Ao68, co68, eo68⟩ := Kd.R_slice HO373.out
        (first | subst eo68 | (injection eo68 with f1_ f2_ f3_; have f4_ := f1_.symm; have f5_ := f3_.symm; clear f1_ f2_ f3_; subst f4_; subst f5_))
        refine hK.out _ _ ⟨(blk_cell BK365.out 0).trans rfl, (blk_cell BK365.out 1).trans rfl, (blk_cell BK365.out 2).trans rfl, (blk_cell BK366.out 0).trans rfl, (blk_cell BK366.out 1).trans rfl, (blk_cell BK366.out 2).trans rfl⟩ (fun hHeld => ?_)
        clear hK K
        refine norm_ (a' := ?_) ?_ ?_
        rotate_left
        ·show Act.put _ (some 27) _ = _
         simp only [Act.put, List.setIfInBounds_toArray, List.set_cons_zero, List.set_cons_succ, i64_w, i32_w]
         rfl
        refine two_ (i := 3) (j := 5) (Ni := some 29) (Nj := some 31) #[true, true, true, true, true, false, true, false, false, false, false, false, false, false, false, false, false, false, false, false, false] #[true, true, true, false, true, true, true, false, false, false, false, false, false, false, false, false, false, false, false, false, false] rfl rfl rfl rfl (two_of HT_.out (by kernel_rfl)) (by decide) (by decide) (fun K hK => ?_) (fun K hK => ?_)
        ·skip
         refine goes_ Try.func19 (by kernel_rfl) rfl #[.slice Ao68 y371.length co68, .slice Ao63 t359.length co63] (by rfl) rfl rfl ca_ ?_
         with_reducible refine (label_Holds.calls k _ _ y371 _ _ t359 t374 _ ?side1 ?side2 ?side3 ?side4 A29.out).mono ?_
         (case side1 => repeat (first | exact (Kd.R_reads' HO373.out).2.2 | (with_reducible refine Kd.C_alloc ?_ _) | (with_reducible refine Kd.C_drewN ?_ _) | (with_reducible refine Kd.C_drew ?_)))
         (case side2 => exact (Kd.R_reads' HO373.out).2.1)
         (case side3 => repeat (first | exact (Kd.R_reads' HO361.out).2.2 | (with_reducible refine Kd.C_alloc ?_ _) | (with_reducible refine Kd.C_drewN ?_ _) | (with_reducible refine Kd.C_drew ?_)))
         (case side4 => exact (Kd.R_reads' HO361.out).2.1)
         rintro e w69 ⟨rfl, hb⟩
         refine ⟨_, rfl, ?_⟩
         replace HO361 := Aside0.mk (Kd.R_below (ra_ HO361.out) hb)
         replace HO369 := Aside0.mk (Kd.R_below (ra_ HO369.out) hb)
         replace HO373 := Aside0.mk (Kd.R_below (ra_ HO373.out) hb)
         replace BK357 := Aside0.mk (blk_below (g := gb357) (o := .cells #[.int .i64 a1_0, .int .i64 a1_1, .int .i64 a1_2] 35 (0, 0)) (by (with_reducible repeat (first | refine blk_drewN ?_ _ | refine blk_drew ?_ | refine blk_alloc ?_ _)); exact BK357.out) hb)
         replace BK358 := Aside0.mk (blk_below (g := gb358) (o := .cells #[.int .i64 a2_0, .int .i64 a2_1, .int .i64 a2_2] 35 (0, 0)) (by (with_reducible repeat (first | refine blk_drewN ?_ _ | refine blk_drew ?_ | refine blk_alloc ?_ _)); exact BK358.out) hb)
         replace BK365 := Aside0.mk (blk_below (g := gb365) (o := .cells #[.int .i64 t362, .string t363, .string t364] 38 (0, 0)) (by (with_reducible repeat (first | refine blk_drewN ?_ _ | refine blk_drew ?_ | refine blk_alloc ?_ _)); exact BK365.out) hb)
         replace BK366 := Aside0.mk (blk_below (g := gb366) (o := .cells #[.int .i64 (rd y367 t362), .string t363, .string t364] 38 (0, 0)) (by (with_reducible repeat (first | refine blk_drewN ?_ _ | refine blk_drew ?_ | refine blk_alloc ?_ _)); exact BK366.out) hb)
         replace HB := Aside0.mk (below_step (by repeat (first | (with_reducible first | exact HB.out | apply below_alloc | apply pw_below_drewN | apply below_drew1 | refine below_set ?_ GE357.out | refine below_set ?_ GE358.out | refine below_set ?_ GE365.out | refine below_set ?_ GE366.out) | exact HB.out)) hb)
         (try clear hb)
         (try clear hb2)
         (try clear hk)
         (try clear hi)
         refine hK.out _ _ ⟨(blk_cell BK365.out 0).trans rfl, (blk_cell BK365.out 1).trans rfl, (blk_cell BK365.out 2).trans rfl, (blk_cell BK366.out 0).trans rfl, (blk_cell BK366.out 1).trans rfl, (blk_cell BK366.out 2).trans rfl⟩ (fun hHeld => ?_)
         clear hK K
         refine norm_ (a' := ?_) ?_ ?_
         rotate_left
         ·show Act.put _ (some 29) _ = _
          simp only [Act.put, List.setIfInBounds_toArray, List.set_cons_zero, List.set_cons_succ, i64_w, i32_w]
          rfl
         refine oneS_ (i := 5) (N := some 31) rfl rfl (one_of HT_.out (by kernel_rfl)) (by decide) (fun K hK => ?_)
         refine Kd.R_lit_step k38 _ 38 ?hg (N := 31) ?hd (xs := ([(⟨rd y367 t362, t363, t364⟩ : S38)] : List (S38))) (inner := [.int .i64 (rd y367 t362), .string t363, .string t364]) (ok := fun _ => True) (okp := fun _ => True) ?hr ?hp (fun _ hk => hk) trivial (Below.refl _ _) (Nat.le_refl _) (by simp) ?_; (case hd => rfl); (case hg => rfl); (case hr => first | (go_simp; done) | (go_simp; rfl)); (case hp => exact (Reps.c3 (show Kd.M k38 _ _ _ (⟨rd y367 t362, t363, t364⟩ : S38) [.int .i64 (rd y367 t362), .string t363, .string t364] from (k38_mkM _ _ _ (⟨rd y367 t362, t363, t364⟩ : S38) )) (Reps.none _ _)))
         intro v376 w70 ho71 hb hg_ hnew_
         clear hg_ hnew_
         (first | rw [← Ny375.out] at ho71 | (simp only [Int.reduceToNat] at ho71; rw [← Ny375.out] at ho71))
         replace HO361 := Aside0.mk (Kd.R_below (ra_ HO361.out) hb)
         replace HO369 := Aside0.mk (Kd.R_below (ra_ HO369.out) hb)
         have HO377 := Aside0.mk (Kd.R_lower (Kd.R_newB (Kd.R_newB (Kd.R_new' ho71 (Kd.R_lt (ra_ HO373.out))) (g := gb365) (o := .cells #[.int .i64 t362, .string t363, .string t364] 38 (0, 0)) (by (with_reducible repeat (first | refine blk_drewN ?_ _ | refine blk_drew ?_ | refine blk_alloc ?_ _)); exact BK365.out)) (g := gb366) (o := .cells #[.int .i64 (rd y367 t362), .string t363, .string t364] 38 (0, 0)) (by (with_reducible repeat (first | refine blk_drewN ?_ _ | refine blk_drew ?_ | refine blk_alloc ?_ _)); exact BK366.out)) (below_size (by repeat (first | (with_reducible first | exact HB.out | apply below_alloc | apply pw_below_drewN | apply below_drew1 | refine below_set ?_ GE357.out | refine below_set ?_ GE358.out | refine below_set ?_ GE365.out | refine below_set ?_ GE366.out) | exact HB.out))))
         replace HO373 := Aside0.mk (Kd.R_elder' (ra_ HO373.out) (Kd.R_base ho71) hb)
         replace BK357 := Aside0.mk (blk_below (g := gb357) (o := .cells #[.int .i64 a1_0, .int .i64 a1_1, .int .i64 a1_2] 35 (0, 0)) (by (with_reducible repeat (first | refine blk_drewN ?_ _ | refine blk_drew ?_ | refine blk_alloc ?_ _)); exact BK357.out) hb)
         replace BK358 := Aside0.mk (blk_below (g := gb358) (o := .cells #[.int .i64 a2_0, .int .i64 a2_1, .int .i64 a2_2] 35 (0, 0)) (by (with_reducible repeat (first | refine blk_drewN ?_ _ | refine blk_drew ?_ | refine blk_alloc ?_ _)); exact BK358.out) hb)
         replace BK365 := Aside0.mk (blk_below (g := gb365) (o := .cells #[.int .i64 t362, .string t363, .string t364] 38 (0, 0)) (by (with_reducible repeat (first | refine blk_drewN ?_ _ | refine blk_drew ?_ | refine blk_alloc ?_ _)); exact BK365.out) hb)
         replace BK366 := Aside0.mk (blk_below (g := gb366) (o := .cells #[.int .i64 (rd y367 t362), .string t363, .string t364] 38 (0, 0)) (by (with_reducible repeat (first | refine blk_drewN ?_ _ | refine blk_drew ?_ | refine blk_alloc ?_ _)); exact BK366.out) hb)
         replace HB := Aside0.mk (below_step (by repeat (first | (with_reducible first | exact HB.out | apply below_alloc | apply pw_below_drewN | apply below_drew1 | refine below_set ?_ GE357.out | refine below_set ?_ GE358.out | refine below_set ?_ GE365.out | refine below_set ?_ GE366.out) | exact HB.out)) hb)
         clear hb ho71
         refine hK.out _ _ ⟨(blk_cell BK365.out 0).trans rfl, (blk_cell BK365.out 1).trans rfl, (blk_cell BK365.out 2).trans rfl, (blk_cell BK366.out 0).trans rfl, (blk_cell BK366.out 1).trans rfl, (blk_cell BK366.out 2).trans rfl⟩ (fun hHeld => ?_)
         clear hK K
         refine norm_ (a' := ?_) ?_ ?_
         rotate_left
         ·show Act.put _ (some 31) _ = _
          simp only [Act.put, List.setIfInBounds_toArray, List.set_cons_zero, List.set_cons_succ, i64_w, i32_w]
          rfl
         exact norm_ (by simp only [putAll, Act.put, List.setIfInBounds_toArray, List.set_cons_zero, List.set_cons_succ]) (hCont (.slice Ao68 y371.length co68, v376) _ ⟨hHeld, (ra_ HO361.out), (ra_ HO369.out), (by (with_reducible repeat (first | apply Kd.R_alloc | apply Kd.R_drewN | apply Kd.R_drew)); exact Kd.R_mono HO373.out (fun _ hk => ⟨hk.2, ⟨hk.1.1.2, hk.1.2⟩⟩)), (by (with_reducible repeat (first | apply Kd.R_alloc | apply Kd.R_drewN | apply Kd.R_drew)); exact Kd.R_mono HO377.out (fun _ hk => ⟨hk.1.1.2, ⟨hk.1.2, hk.2⟩⟩)), (by (with_reducible repeat (first | refine blk_drewN ?_ _ | refine blk_drew ?_ | refine blk_alloc ?_ _)); exact BK357.out), (by (with_reducible repeat (first | refine blk_drewN ?_ _ | refine blk_drew ?_ | refine blk_alloc ?_ _)); exact BK358.out), (by (with_reducible repeat (first | refine blk_drewN ?_ _ | refine blk_drew ?_ | refine blk_alloc ?_ _)); exact BK365.out), (by (with_reducible repeat (first | refine blk_drewN ?_ _ | refine blk_drew ?_ | refine blk_alloc ?_ _)); exact BK366.out), (by repeat (first | (with_reducible first | exact HB.out | apply below_alloc | apply pw_below_drewN | apply below_drew1 | refine below_set ?_ GE357.out | refine below_set ?_ GE358.out | refine below_set ?_ GE365.out | refine below_set ?_ GE366.out) | exact HB.out))⟩)
        ·skip
         refine Kd.R_lit_step k38 _ 38 ?hg (N := 31) ?hd (xs := ([(⟨rd y367 t362, t363, t364⟩ : S38)] : List (S38))) (inner := [.int .i64 (rd y367 t362), .string t363, .string t364]) (ok := fun _ => True) (okp := fun _ => True) ?hr ?hp (fun _ hk => hk) trivial (Below.refl _ _) (Nat.le_refl _) (by simp) ?_; (case hd => rfl); (case hg => rfl); (case hr => first | (go_simp; done) | (go_simp; rfl)); (case hp => exact (Reps.c3 (show Kd.M k38 _ _ _ (⟨rd y367 t362, t363, t364⟩ : S38) [.int .i64 (rd y367 t362), .string t363, .string t364] from (k38_mkM _ _ _ (⟨rd y367 t362, t363, t364⟩ : S38) )) (Reps.none _ _)))
         intro v376 w68 ho69 hb hg_ hnew_
         clear hg_ hnew_
         (first | rw [← Ny375.out] at ho69 | (simp only [Int.reduceToNat] at ho69; rw [← Ny375.out] at ho69))
         replace HO361 := Aside0.mk (Kd.R_below (ra_ HO361.out) hb)
         replace HO369 := Aside0.mk (Kd.R_below (ra_ HO369.out) hb)
         have HO377 := Aside0.mk (Kd.R_lower (Kd.R_newB (Kd.R_newB (Kd.R_new' ho69 (Kd.R_lt (ra_ HO373.out))) (g := gb365) (o := .cells #[.int .i64 t362, .string t363, .string t364] 38 (0, 0)) (by (with_reducible repeat (first | refine blk_drewN ?_ _ | refine blk_drew ?_ | refine blk_alloc ?_ _)); exact BK365.out)) (g := gb366) (o := .cells #[.int .i64 (rd y367 t362), .string t363, .string t364] 38 (0, 0)) (by (with_reducible repeat (first | refine blk_drewN ?_ _ | refine blk_drew ?_ | refine blk_alloc ?_ _)); exact BK366.out)) (below_size (by repeat (first | (with_reducible first | exact HB.out | apply below_alloc | apply pw_below_drewN | apply below_drew1 | refine below_set ?_ GE357.out | refine below_set ?_ GE358.out | refine below_set ?_ GE365.out | refine below_set ?_ GE366.out) | exact HB.out))))
         replace HO373 := Aside0.mk (Kd.R_elder' (ra_ HO373.out) (Kd.R_base ho69) hb)
         replace BK357 := Aside0.mk (blk_below (g := gb357) (o := .cells #[.int .i64 a1_0, .int .i64 a1_1, .int .i64 a1_2] 35 (0, 0)) (by (with_reducible repeat (first | refine blk_drewN ?_ _ | refine blk_drew ?_ | refine blk_alloc ?_ _)); exact BK357.out) hb)
         replace BK358 := Aside0.mk (blk_below (g := gb358) (o := .cells #[.int .i64 a2_0, .int .i64 a2_1, .int .i64 a2_2] 35 (0, 0)) (by (with_reducible repeat (first | refine blk_drewN ?_ _ | refine blk_drew ?_ | refine blk_alloc ?_ _)); exact BK358.out) hb)
         replace BK365 := Aside0.mk (blk_below (g := gb365) (o := .cells #[.int .i64 t362, .string t363, .string t364] 38 (0, 0)) (by (with_reducible repeat (first | refine blk_drewN ?_ _ | refine blk_drew ?_ | refine blk_alloc ?_ _)); exact BK365.out) hb)
         replace BK366 := Aside0.mk (blk_below (g := gb366) (o := .cells #[.int .i64 (rd y367 t362), .string t363, .string t364] 38 (0, 0)) (by (with_reducible repeat (first | refine blk_drewN ?_ _ | refine blk_drew ?_ | refine blk_alloc ?_ _)); exact BK366.out) hb)
         replace HB := Aside0.mk (below_step (by repeat (first | (with_reducible first | exact HB.out | apply below_alloc | apply pw_below_drewN | apply below_drew1 | refine below_set ?_ GE357.out | refine below_set ?_ GE358.out | refine below_set ?_ GE365.out | refine below_set ?_ GE366.out) | exact HB.out)) hb)
         clear hb ho69
         obtain ⟨Ao70, co70, eo70⟩ := Kd.R_slice HO373.out
         (first | subst eo70 | (injection eo70 with f1_ f2_ f3_; have f4_ := f1_.symm; have f5_ := f3_.symm; clear f1_ f2_ f3_; subst f4_; subst f5_))
         refine hK.out _ _ ⟨(blk_cell BK365.out 0).trans rfl, (blk_cell BK365.out 1).trans rfl, (blk_cell BK365.out 2).trans rfl, (blk_cell BK366.out 0).trans rfl, (blk_cell BK366.out 1).trans rfl, (blk_cell BK366.out 2).trans rfl⟩ (fun hHeld => ?_)
         clear hK K
         refine norm_ (a' := ?_) ?_ ?_
         rotate_left
         ·show Act.put _ (some 31) _ = _
          simp only [Act.put, List.setIfInBounds_toArray, List.set_cons_zero, List.set_cons_succ, i64_w, i32_w]
          rfl
         refine oneS_ (i := 3) (N := some 29) rfl rfl (one_of HT_.out (by kernel_rfl)) (by decide) (fun K hK => ?_)
         refine goes_ Try.func19 (by kernel_rfl) rfl #[.slice Ao70 y371.length co70, .slice Ao63 t359.length co63] (by rfl) rfl rfl ca_ ?_
         with_reducible refine (label_Holds.calls k _ _ y371 _ _ t359 t374 _ ?side1 ?side2 ?side3 ?side4 A29.out).mono ?_
         (case side1 => repeat (first | exact (Kd.R_reads' HO373.out).2.2 | (with_reducible refine Kd.C_alloc ?_ _) | (with_reducible refine Kd.C_drewN ?_ _) | (with_reducible refine Kd.C_drew ?_)))
         (case side2 => exact (Kd.R_reads' HO373.out).2.1)
         (case side3 => repeat (first | exact (Kd.R_reads' HO361.out).2.2 | (with_reducible refine Kd.C_alloc ?_ _) | (with_reducible refine Kd.C_drewN ?_ _) | (with_reducible refine Kd.C_drew ?_)))
         (case side4 => exact (Kd.R_reads' HO361.out).2.1)
         rintro e w71 ⟨rfl, hb⟩
         refine ⟨_, rfl, ?_⟩
         replace HO361 := Aside0.mk (Kd.R_below (ra_ HO361.out) hb)
         replace HO369 := Aside0.mk (Kd.R_below (ra_ HO369.out) hb)
         replace HO373 := Aside0.mk (Kd.R_below (ra_ HO373.out) hb)
         replace HO377 := Aside0.mk (Kd.R_below (ra_ HO377.out) hb)
         replace BK357 := Aside0.mk (blk_below (g := gb357) (o := .cells #[.int .i64 a1_0, .int .i64 a1_1, .int .i64 a1_2] 35 (0, 0)) (by (with_reducible repeat (first | refine blk_drewN ?_ _ | refine blk_drew ?_ | refine blk_alloc ?_ _)); exact BK357.out) hb)
         replace BK358 := Aside0.mk (blk_below (g := gb358) (o := .cells #[.int .i64 a2_0, .int .i64 a2_1, .int .i64 a2_2] 35 (0, 0)) (by (with_reducible repeat (first | refine blk_drewN ?_ _ | refine blk_drew ?_ | refine blk_alloc ?_ _)); exact BK358.out) hb)
         replace BK365 := Aside0.mk (blk_below (g := gb365) (o := .cells #[.int .i64 t362, .string t363, .string t364] 38 (0, 0)) (by (with_reducible repeat (first | refine blk_drewN ?_ _ | refine blk_drew ?_ | refine blk_alloc ?_ _)); exact BK365.out) hb)
         replace BK366 := Aside0.mk (blk_below (g := gb366) (o := .cells #[.int .i64 (rd y367 t362), .string t363, .string t364] 38 (0, 0)) (by (with_reducible repeat (first | refine blk_drewN ?_ _ | refine blk_drew ?_ | refine blk_alloc ?_ _)); exact BK366.out) hb)
         replace HB := Aside0.mk (below_step (by repeat (first | (with_reducible first | exact HB.out | apply below_alloc | apply pw_below_drewN | apply below_drew1 | refine below_set ?_ GE357.out | refine below_set ?_ GE358.out | refine below_set ?_ GE365.out | refine below_set ?_ GE366.out) | exact HB.out)) hb)
         (try clear hb)
         (try clear hb2)
         (try clear hk)
         (try clear hi)
         refine hK.out _ _ ⟨(blk_cell BK365.out 0).trans rfl, (blk_cell BK365.out 1).trans rfl, (blk_cell BK365.out 2).trans rfl, (blk_cell BK366.out 0).trans rfl, (blk_cell BK366.out 1).trans rfl, (blk_cell BK366.out 2).trans rfl⟩ (fun hHeld => ?_)
         clear hK K
         refine norm_ (a' := ?_) ?_ ?_
         rotate_left
         ·show Act.put _ (some 29) _ = _
          simp only [Act.put, List.setIfInBounds_toArray, List.set_cons_zero, List.set_cons_succ, i64_w, i32_w]
          rfl
         exact norm_ (by simp only [putAll, Act.put, List.setIfInBounds_toArray, List.set_cons_zero, List.set_cons_succ]) (hCont (.slice Ao70 y371.length co70, v376) _ ⟨hHeld, (ra_ HO361.out), (ra_ HO369.out), (by (with_reducible repeat (first | apply Kd.R_alloc | apply Kd.R_drewN | apply Kd.R_drew)); exact Kd.R_mono HO373.out (fun _ hk => ⟨hk.2, ⟨hk.1.1.2, hk.1.2⟩⟩)), (by (with_reducible repeat (first | apply Kd.R_alloc | apply Kd.R_drewN | apply Kd.R_drew)); exact Kd.R_mono HO377.out (fun _ hk => ⟨hk.1.1.2, ⟨hk.1.2, hk.2⟩⟩)), (by (with_reducible repeat (first | refine blk_drewN ?_ _ | refine blk_drew ?_ | refine blk_alloc ?_ _)); exact BK357.out), (by (with_reducible repeat (first | refine blk_drewN ?_ _ | refine blk_drew ?_ | refine blk_alloc ?_ _)); exact BK358.out), (by (with_reducible repeat (first | refine blk_drewN ?_ _ | refine blk_drew ?_ | refine blk_alloc ?_ _)); exact BK365.out), (by (with_reducible repeat (first | refine blk_drewN ?_ _ | refine blk_drew ?_ | refine blk_alloc ?_ _)); exact BK366.out), (by repeat (first | (with_reducible first | exact HB.out | apply below_alloc | apply pw_below_drewN | apply below_drew1 | refine below_set ?_ GE357.out | refine below_set ?_ GE358.out | refine below_set ?_ GE365.out | refine below_set ?_ GE366.out) | exact HB.out))⟩)
       ·skip
        refine Kd.R_lit_step k38 _ 38 ?hg (N := 31) ?hd (xs := ([(⟨rd y367 t362, t363, t364⟩ : S38)] : List (S38))) (inner := [.int .i64 (rd y367 t362), .string t363, .string t364]) (ok := fun _ => True) (okp := fun _ => True) ?hr ?hp (fun _ hk => hk) trivial (Below.refl _ _) (Nat.le_refl _) (by simp) ?_; (case hd => rfl); (case hg => rfl); (case hr => first | (go_simp; done) | (go_simp; rfl)); (case hp => exact (Reps.c3 (show Kd.M k38 _ _ _ (⟨rd y367 t362, t363, t364⟩ : S38) [.int .i64 (rd y367 t362), .string t363, .string t364] from (k38_mkM _ _ _ (⟨rd y367 t362, t363, t364⟩ : S38) )) (Reps.none _ _)))
        intro v376 w66 ho67 hb hg_ hnew_
        clear hg_ hnew_
        (first | rw [← Ny375.out] at ho67 | (simp only [Int.reduceToNat] at ho67; rw [← Ny375.out] at ho67))
        replace HO361 := Aside0.mk (Kd.R_below (ra_ HO361.out) hb)
        replace HO369 := Aside0.mk (Kd.R_below (ra_ HO369.out) hb)
        have HO377 := Aside0.mk (Kd.R_lower (Kd.R_newB (Kd.R_newB ho67 (g := gb365) (o := .cells #[.int .i64 t362, .string t363, .string t364] 38 (0, 0)) (by (with_reducible repeat (first | refine blk_drewN ?_ _ | refine blk_drew ?_ | refine blk_alloc ?_ _)); exact BK365.out)) (g := gb366) (o := .cells #[.int .i64 (rd y367 t362), .string t363, .string t364] 38 (0, 0)) (by (with_reducible repeat (first | refine blk_drewN ?_ _ | refine blk_drew ?_ | refine blk_alloc ?_ _)); exact BK366.out)) (below_size (by repeat (first | (with_reducible first | exact HB.out | apply below_alloc | apply pw_below_drewN | apply below_drew1 | refine below_set ?_ GE357.out | refine below_set ?_ GE358.out | refine below_set ?_ GE365.out | refine below_set ?_ GE366.out) | exact HB.out))))
        replace BK357 := Aside0.mk (blk_below (g := gb357) (o := .cells #[.int .i64 a1_0, .int .i64 a1_1, .int .i64 a1_2] 35 (0, 0)) (by (with_reducible repeat (first | refine blk_drewN ?_ _ | refine blk_drew ?_ | refine blk_alloc ?_ _)); exact BK357.out) hb)
        replace BK358 := Aside0.mk (blk_below (g := gb358) (o := .cells #[.int .i64 a2_0, .int .i64 a2_1, .int .i64 a2_2] 35 (0, 0)) (by (with_reducible repeat (first | refine blk_drewN ?_ _ | refine blk_drew ?_ | refine blk_alloc ?_ _)); exact BK358.out) hb)
        replace BK365 := Aside0.mk (blk_below (g := gb365) (o := .cells #[.int .i64 t362, .string t363, .string t364] 38 (0, 0)) (by (with_reducible repeat (first | refine blk_drewN ?_ _ | refine blk_drew ?_ | refine blk_alloc ?_ _)); exact BK365.out) hb)
        replace BK366 := Aside0.mk (blk_below (g := gb366) (o := .cells #[.int .i64 (rd y367 t362), .string t363, .string t364] 38 (0, 0)) (by (with_reducible repeat (first | refine blk_drewN ?_ _ | refine blk_drew ?_ | refine blk_alloc ?_ _)); exact BK366.out) hb)
        replace HB := Aside0.mk (below_step (by repeat (first | (with_reducible first | exact HB.out | apply below_alloc | apply pw_below_drewN | apply below_drew1 | refine below_set ?_ GE357.out | refine below_set ?_ GE358.out | refine below_set ?_ GE365.out | refine below_set ?_ GE366.out) | exact HB.out)) hb)
        clear hb ho67
        refine hK.out _ _ ⟨(blk_cell BK365.out 0).trans rfl, (blk_cell BK365.out 1).trans rfl, (blk_cell BK365.out 2).trans rfl, (blk_cell BK366.out 0).trans rfl, (blk_cell BK366.out 1).trans rfl, (blk_cell BK366.out 2).trans rfl⟩ (fun hHeld => ?_)
        clear hK K
        refine norm_ (a' := ?_) ?_ ?_
        rotate_left
        ·show Act.put _ (some 31) _ = _
         simp only [Act.put, List.setIfInBounds_toArray, List.set_cons_zero, List.set_cons_succ, i64_w, i32_w]
         rfl
        refine oneS_ (i := 1) (N := some 27) rfl rfl (one_of HT_.out (by kernel_rfl)) (by decide) (fun K hK => ?_)
        refine Kd.R_lit_step k38 _ 38 ?hg (N := 27) ?hd (xs := ([(⟨t362, t363, t364⟩ : S38)] : List (S38))) (inner := [.int .i64 t362, .string t363, .string t364]) (ok := fun _ => True) (okp := fun _ => True) ?hr ?hp (fun _ hk => hk) trivial (Below.refl _ _) (Nat.le_refl _) (by simp) ?_; (case hd => rfl); (case hg => rfl); (case hr => first | (go_simp; done) | (go_simp; rfl)); (case hp => exact (Reps.c3 (show Kd.M k38 _ _ _ (⟨t362, t363, t364⟩ : S38) [.int .i64 t362, .string t363, .string t364] from (k38_mkM _ _ _ (⟨t362, t363, t364⟩ : S38) )) (Reps.none _ _)))
        intro v372 w68 ho69 hb hg_ hnew_
        clear hg_ hnew_
        (first | rw [← Ny371.out] at ho69 | (simp only [Int.reduceToNat] at ho69; rw [← Ny371.out] at ho69))
        replace HO361 := Aside0.mk (Kd.R_below (ra_ HO361.out) hb)
        replace HO369 := Aside0.mk (Kd.R_below (ra_ HO369.out) hb)
        have HO373 := Aside0.mk (Kd.R_lower (Kd.R_newB (Kd.R_newB (Kd.R_new' ho69 (Kd.R_lt (ra_ HO377.out))) (g := gb365) (o := .cells #[.int .i64 t362, .string t363, .string t364] 38 (0, 0)) (by (with_reducible repeat (first | refine blk_drewN ?_ _ | refine blk_drew ?_ | refine blk_alloc ?_ _)); exact BK365.out)) (g := gb366) (o := .cells #[.int .i64 (rd y367 t362), .string t363, .string t364] 38 (0, 0)) (by (with_reducible repeat (first | refine blk_drewN ?_ _ | refine blk_drew ?_ | refine blk_alloc ?_ _)); exact BK366.out)) (below_size (by repeat (first | (with_reducible first | exact HB.out | apply below_alloc | apply pw_below_drewN | apply below_drew1 | refine below_set ?_ GE357.out | refine below_set ?_ GE358.out | refine below_set ?_ GE365.out | refine below_set ?_ GE366.out) | exact HB.out))))
        replace HO377 := Aside0.mk (Kd.R_elder' (ra_ HO377.out) (Kd.R_base ho69) hb)
        replace BK357 := Aside0.mk (blk_below (g := gb357) (o := .cells #[.int .i64 a1_0, .int .i64 a1_1, .int .i64 a1_2] 35 (0, 0)) (by (with_reducible repeat (first | refine blk_drewN ?_ _ | refine blk_drew ?_ | refine blk_alloc ?_ _)); exact BK357.out) hb)
        replace BK358 := Aside0.mk (blk_below (g := gb358) (o := .cells #[.int .i64 a2_0, .int .i64 a2_1, .int .i64 a2_2] 35 (0, 0)) (by (with_reducible repeat (first | refine blk_drewN ?_ _ | refine blk_drew ?_ | refine blk_alloc ?_ _)); exact BK358.out) hb)
        replace BK365 := Aside0.mk (blk_below (g := gb365) (o := .cells #[.int .i64 t362, .string t363, .string t364] 38 (0, 0)) (by (with_reducible repeat (first | refine blk_drewN ?_ _ | refine blk_drew ?_ | refine blk_alloc ?_ _)); exact BK365.out) hb)
        replace BK366 := Aside0.mk (blk_below (g := gb366) (o := .cells #[.int .i64 (rd y367 t362), .string t363, .string t364] 38 (0, 0)) (by (with_reducible repeat (first | refine blk_drewN ?_ _ | refine blk_drew ?_ | refine blk_alloc ?_ _)); exact BK366.out) hb)
        replace HB := Aside0.mk (below_step (by repeat (first | (with_reducible first | exact HB.out | apply below_alloc | apply pw_below_drewN | apply below_drew1 | refine below_set ?_ GE357.out | refine below_set ?_ GE358.out | refine below_set ?_ GE365.out | refine below_set ?_ GE366.out) | exact HB.out)) hb)
        clear hb ho69
        obtain ⟨Ao70, co70, eo70⟩ := Kd.R_slice HO373.out
        (first | subst eo70 | (injection eo70 with f1_ f2_ f3_; have f4_ := f1_.symm; have f5_ := f3_.symm; clear f1_ f2_ f3_; subst f4_; subst f5_))
        refine hK.out _ _ ⟨(blk_cell BK365.out 0).trans rfl, (blk_cell BK365.out 1).trans rfl, (blk_cell BK365.out 2).trans rfl, (blk_cell BK366.out 0).trans rfl, (blk_cell BK366.out 1).trans rfl, (blk_cell BK366.out 2).trans rfl⟩ (fun hHeld => ?_)
        clear hK K
        refine norm_ (a' := ?_) ?_ ?_
        rotate_left
        ·show Act.put _ (some 27) _ = _
         simp only [Act.put, List.setIfInBounds_toArray, List.set_cons_zero, List.set_cons_succ, i64_w, i32_w]
         rfl
        refine oneS_ (i := 3) (N := some 29) rfl rfl (one_of HT_.out (by kernel_rfl)) (by decide) (fun K hK => ?_)
        refine goes_ Try.func19 (by kernel_rfl) rfl #[.slice Ao70 y371.length co70, .slice Ao63 t359.length co63] (by rfl) rfl rfl ca_ ?_
        with_reducible refine (label_Holds.calls k _ _ y371 _ _ t359 t374 _ ?side1 ?side2 ?side3 ?side4 A29.out).mono ?_
        (case side1 => repeat (first | exact (Kd.R_reads' HO373.out).2.2 | (with_reducible refine Kd.C_alloc ?_ _) | (with_reducible refine Kd.C_drewN ?_ _) | (with_reducible refine Kd.C_drew ?_)))
        (case side2 => exact (Kd.R_reads' HO373.out).2.1)
        (case side3 => repeat (first | exact (Kd.R_reads' HO361.out).2.2 | (with_reducible refine Kd.C_alloc ?_ _) | (with_reducible refine Kd.C_drewN ?_ _) | (with_reducible refine Kd.C_drew ?_)))
        (case side4 => exact (Kd.R_reads' HO361.out).2.1)
        rintro e w71 ⟨rfl, hb⟩
        refine ⟨_, rfl, ?_⟩
        replace HO361 := Aside0.mk (Kd.R_below (ra_ HO361.out) hb)
        replace HO369 := Aside0.mk (Kd.R_below (ra_ HO369.out) hb)
        replace HO377 := Aside0.mk (Kd.R_below (ra_ HO377.out) hb)
        replace HO373 := Aside0.mk (Kd.R_below (ra_ HO373.out) hb)
        replace BK357 := Aside0.mk (blk_below (g := gb357) (o := .cells #[.int .i64 a1_0, .int .i64 a1_1, .int .i64 a1_2] 35 (0, 0)) (by (with_reducible repeat (first | refine blk_drewN ?_ _ | refine blk_drew ?_ | refine blk_alloc ?_ _)); exact BK357.out) hb)
        replace BK358 := Aside0.mk (blk_below (g := gb358) (o := .cells #[.int .i64 a2_0, .int .i64 a2_1, .int .i64 a2_2] 35 (0, 0)) (by (with_reducible repeat (first | refine blk_drewN ?_ _ | refine blk_drew ?_ | refine blk_alloc ?_ _)); exact BK358.out) hb)
        replace BK365 := Aside0.mk (blk_below (g := gb365) (o := .cells #[.int .i64 t362, .string t363, .string t364] 38 (0, 0)) (by (with_reducible repeat (first | refine blk_drewN ?_ _ | refine blk_drew ?_ | refine blk_alloc ?_ _)); exact BK365.out) hb)
        replace BK366 := Aside0.mk (blk_below (g := gb366) (o := .cells #[.int .i64 (rd y367 t362), .string t363, .string t364] 38 (0, 0)) (by (with_reducible repeat (first | refine blk_drewN ?_ _ | refine blk_drew ?_ | refine blk_alloc ?_ _)); exact BK366.out) hb)
        replace HB := Aside0.mk (below_step (by repeat (first | (with_reducible first | exact HB.out | apply below_alloc | apply pw_below_drewN | apply below_drew1 | refine below_set ?_ GE357.out | refine below_set ?_ GE358.out | refine below_set ?_ GE365.out | refine below_set ?_ GE366.out) | exact HB.out)) hb)
        (try clear hb)
        (try clear hb2)
        (try clear hk)
        (try clear hi)
        refine hK.out _ _ ⟨(blk_cell BK365.out 0).trans rfl, (blk_cell BK365.out 1).trans rfl, (blk_cell BK365.out 2).trans rfl, (blk_cell BK366.out 0).trans rfl, (blk_cell BK366.out 1).trans rfl, (blk_cell BK366.out 2).trans rfl⟩ (fun hHeld => ?_)
        clear hK K
        refine norm_ (a' := ?_) ?_ ?_
        rotate_left
        ·show Act.put _ (some 29) _ = _
         simp only [Act.put, List.setIfInBounds_toArray, List.set_cons_zero, List.set_cons_succ, i64_w, i32_w]
         rfl
        exact norm_ (by simp only [putAll, Act.put, List.setIfInBounds_toArray, List.set_cons_zero, List.set_cons_succ]) (hCont (.slice Ao70 y371.length co70, v376) _ ⟨hHeld, (ra_ HO361.out), (ra_ HO369.out), (by (with_reducible repeat (first | apply Kd.R_alloc | apply Kd.R_drewN | apply Kd.R_drew)); exact Kd.R_mono HO373.out (fun _ hk => ⟨hk.1.1.2, ⟨hk.1.2, hk.2⟩⟩)), (by (with_reducible repeat (first | apply Kd.R_alloc | apply Kd.R_drewN | apply Kd.R_drew)); exact Kd.R_mono HO377.out (fun _ hk => ⟨hk.2, ⟨hk.1.1.2, hk.1.2⟩⟩)), (by (with_reducible repeat (first | refine blk_drewN ?_ _ | refine blk_drew ?_ | refine blk_alloc ?_ _)); exact BK357.out), (by (with_reducible repeat (first | refine blk_drewN ?_ _ | refine blk_drew ?_ | refine blk_alloc ?_ _)); exact BK358.out), (by (with_reducible repeat (first | refine blk_drewN ?_ _ | refine blk_drew ?_ | refine blk_alloc ?_ _)); exact BK365.out), (by (with_reducible repeat (first | refine blk_drewN ?_ _ | refine blk_drew ?_ | refine blk_alloc ?_ _)); exact BK366.out), (by repeat (first | (with_reducible first | exact HB.out | apply below_alloc | apply pw_below_drewN | apply below_drew1 | refine below_set ?_ GE357.out | refine below_set ?_ GE358.out | refine below_set ?_ GE365.out | refine below_set ?_ GE366.out) | exact HB.out))⟩)
      rintro ⟨v372, v376⟩ w72 ⟨hS_, h0_, h1_, h2_, h3_, h4_, h5_, h6_, h7_, h8_⟩
      have n0_ : Aside0 (Kd.R k43 43 w72 w.heap.size (fun _ => True) (.slice Ao63 t359.length co63) t359) := ⟨h0_⟩
      have n1_ : Aside0 (Kd.R (Kd.int .i64) 3 w72 w.heap.size (fun _ => True) (.slice (some ad370) y367.length co27) y367) := ⟨h1_⟩
      have n2_ : Aside0 (Kd.R k38 38 w72 w.heap.size (fun k_ => some k_ ≠ (v376 : Value).ownBlock ∧ k_ ≠ gb365 ∧ k_ ≠ gb366) v372 y371) := ⟨h2_⟩
      have n3_ : Aside0 (Kd.R k38 38 w72 w.heap.size (fun k_ => some k_ ≠ (v372 : Value).ownBlock ∧ k_ ≠ gb365 ∧ k_ ≠ gb366) v376 y375) := ⟨h3_⟩
      have n4_ : Aside0 (w72.heap[gb357]? = some (.cells #[.int .i64 a1_0, .int .i64 a1_1, .int .i64 a1_2] 35 (0, 0))) := ⟨h4_⟩
      have n5_ : Aside0 (w72.heap[gb358]? = some (.cells #[.int .i64 a2_0, .int .i64 a2_1, .int .i64 a2_2] 35 (0, 0))) := ⟨h5_⟩
      have n6_ : Aside0 (w72.heap[gb365]? = some (.cells #[.int .i64 t362, .string t363, .string t364] 38 (0, 0))) := ⟨h6_⟩
      have n7_ : Aside0 (w72.heap[gb366]? = some (.cells #[.int .i64 (rd y367 t362), .string t363, .string t364] 38 (0, 0))) := ⟨h7_⟩
      have n8_ : Aside0 (Below w.heap.size w w72) := ⟨h8_⟩
      clear HO361
      clear HO369
      clear BK357
      clear BK358
      clear BK365
      clear BK366
      clear HB
      clear h0_ h1_ h2_ h3_ h4_ h5_ h6_ h7_ h8_
      have HO361 := n0_
      have HO369 := n1_
      have HO373 := n2_
      have HO377 := n3_
      have BK357 := n4_
      have BK358 := n5_
      have BK365 := n6_
      have BK366 := n7_
      have HB := n8_
      clear n0_ n1_ n2_ n3_ n4_ n5_ n6_ n7_ n8_
      have hHeld : w72.cell? ⟨gb365, 0, none⟩ = some (.int .i64 t362) ∧ w72.cell? ⟨gb365, 1, none⟩ = some (.string t363) ∧ w72.cell? ⟨gb365, 2, none⟩ = some (.string t364) ∧ w72.cell? ⟨gb366, 0, none⟩ = some (.int .i64 (rd y367 t362)) ∧ w72.cell? ⟨gb366, 1, none⟩ = some (.string t363) ∧ w72.cell? ⟨gb366, 2, none⟩ = some (.string t364) := hS_
      obtain ⟨Ao73, co73, eo73⟩ := Kd.R_slice HO377.out
      (first | subst eo73 | (injection eo73 with f1_ f2_ f3_; have f4_ := f1_.symm; have f5_ := f3_.symm; clear f1_ f2_ f3_; subst f4_; subst f5_))
      refine norm_ (a' := ?_) ?_ ?_
      rotate_left
      ·simp only [putAll, Act.put, List.setIfInBounds_toArray, List.set_cons_zero, List.set_cons_succ]
       rfl
      refine oneS_ (i := 7) (N := some 33) rfl rfl (one_of HT_.out (by kernel_rfl)) (by decide) (fun K hK => ?_)
      refine goes_ Try.func19 (by kernel_rfl) rfl #[.slice Ao73 y375.length co73, .slice Ao63 t359.length co63] (by rfl) rfl rfl ca_ ?_
      with_reducible refine (label_Holds.calls k _ _ y375 _ _ t359 t378 _ ?side1 ?side2 ?side3 ?side4 A30.out).mono ?_
      (case side1 => repeat (first | exact (Kd.R_reads' HO377.out).2.2 | (with_reducible refine Kd.C_alloc ?_ _) | (with_reducible refine Kd.C_drewN ?_ _) | (with_reducible refine Kd.C_drew ?_)))
      (case side2 => exact (Kd.R_reads' HO377.out).2.1)
      (case side3 => repeat (first | exact (Kd.R_reads' HO361.out).2.2 | (with_reducible refine Kd.C_alloc ?_ _) | (with_reducible refine Kd.C_drewN ?_ _) | (with_reducible refine Kd.C_drew ?_)))
      (case side4 => exact (Kd.R_reads' HO361.out).2.1)
      rintro e w74 ⟨rfl, hb⟩
      refine ⟨_, rfl, ?_⟩
      replace HO361 := Aside0.mk (Kd.R_below (ra_ HO361.out) hb)
      replace HO369 := Aside0.mk (Kd.R_below (ra_ HO369.out) hb)
      replace HO373 := Aside0.mk (Kd.R_below (ra_ HO373.out) hb)
      replace HO377 := Aside0.mk (Kd.R_below (ra_ HO377.out) hb)
      replace BK357 := Aside0.mk (blk_below (g := gb357) (o := .cells #[.int .i64 a1_0, .int .i64 a1_1, .int .i64 a1_2] 35 (0, 0)) (by (with_reducible repeat (first | refine blk_drewN ?_ _ | refine blk_drew ?_ | refine blk_alloc ?_ _)); exact BK357.out) hb)
      replace BK358 := Aside0.mk (blk_below (g := gb358) (o := .cells #[.int .i64 a2_0, .int .i64 a2_1, .int .i64 a2_2] 35 (0, 0)) (by (with_reducible repeat (first | refine blk_drewN ?_ _ | refine blk_drew ?_ | refine blk_alloc ?_ _)); exact BK358.out) hb)
      replace BK365 := Aside0.mk (blk_below (g := gb365) (o := .cells #[.int .i64 t362, .string t363, .string t364] 38 (0, 0)) (by (with_reducible repeat (first | refine blk_drewN ?_ _ | refine blk_drew ?_ | refine blk_alloc ?_ _)); exact BK365.out) hb)
      replace BK366 := Aside0.mk (blk_below (g := gb366) (o := .cells #[.int .i64 (rd y367 t362), .string t363, .string t364] 38 (0, 0)) (by (with_reducible repeat (first | refine blk_drewN ?_ _ | refine blk_drew ?_ | refine blk_alloc ?_ _)); exact BK366.out) hb)
      replace HB := Aside0.mk (below_step (by repeat (first | (with_reducible first | exact HB.out | apply below_alloc | apply pw_below_drewN | apply below_drew1 | refine below_set ?_ GE357.out | refine below_set ?_ GE358.out | refine below_set ?_ GE365.out | refine below_set ?_ GE366.out) | exact HB.out)) hb)
      (try clear hb)
      (try clear hb2)
      (try clear hk)
      (try clear hi)
      refine hK.out _ _ ⟨(blk_cell BK365.out 0).trans rfl, (blk_cell BK365.out 1).trans rfl, (blk_cell BK365.out 2).trans rfl, (blk_cell BK366.out 0).trans rfl, (blk_cell BK366.out 1).trans rfl, (blk_cell BK366.out 2).trans rfl⟩ (fun hHeld => ?_)
      clear hK K
      refine norm_ (a' := ?_) ?_ ?_
      rotate_left
      ·show Act.put _ (some 33) _ = _
       simp only [Act.put, List.setIfInBounds_toArray, List.set_cons_zero, List.set_cons_succ, i64_w, i32_w]
       rfl
      refine pureS_ (i := 8) (N := some 34) (v := ?_) (a' := ?_) rfl rfl (any_of HT_.out (by kernel_rfl)) (fun _ _ _ h => h) (Or.inl ⟨by rfl, ?_⟩) ?_ ?_
      rotate_left; (· intro w'; go_simp; with_reducible rfl); rotate_left; (· simp only [Act.put, List.setIfInBounds_toArray, List.set_cons_zero, List.set_cons_succ, i64_w, i32_w]; rfl)
      refine pureS_ (i := 9) (N := some 35) (v := ?_) (a' := ?_) rfl rfl (any_of HT_.out (by kernel_rfl)) (fun _ _ _ h => h) (Or.inl ⟨by rfl, ?_⟩) ?_ ?_
      rotate_left; (· intro w'; go_simp; with_reducible rfl); rotate_left; (· simp only [Act.put, List.setIfInBounds_toArray, List.set_cons_zero, List.set_cons_succ, i64_w, i32_w]; rfl)
      refine pureS_ (i := 13) (N := some 39) (v := ?_) (a' := ?_) rfl rfl (any_of HT_.out (by kernel_rfl)) (fun _ _ _ h => h) (Or.inl ⟨by rfl, ?_⟩) ?_ ?_
      rotate_left; (· intro w'; go_simp; with_reducible rfl); rotate_left; (· simp only [Act.put, List.setIfInBounds_toArray, List.set_cons_zero, List.set_cons_succ, i64_w, i32_w]; rfl)
      refine takeS_ (i := 10) (N := some 36) (v := ?_) (a' := ?_) rfl rfl (take_ofW HT_.out HW_.out (by kernel_rfl)) (fun _ _ _ h => h) (Or.inl ⟨by rfl, ?_⟩) hHeld ?_ ?_
      rotate_left; (· rintro w' ⟨s0, s1, s2, s3, s4, s5⟩; go_simp; with_reducible rfl); rotate_left; (· simp only [Act.put, List.setIfInBounds_toArray, List.set_cons_zero, List.set_cons_succ, i64_w, i32_w]; rfl)
      refine takeS_ (i := 11) (N := some 37) (v := ?_) (a' := ?_) rfl rfl (take_ofW HT_.out HW_.out (by kernel_rfl)) (fun _ _ _ h => h) (Or.inl ⟨by rfl, ?_⟩) hHeld ?_ ?_
      rotate_left; (· rintro w' ⟨s0, s1, s2, s3, s4, s5⟩; go_simp; with_reducible rfl); rotate_left; (· simp only [Act.put, List.setIfInBounds_toArray, List.set_cons_zero, List.set_cons_succ, i64_w, i32_w]; rfl)
      refine oneS_ (i := 12) (N := some 38) rfl rfl (one_of HT_.out (by kernel_rfl)) (by decide) (fun K hK => ?_)
      refine Kd.R_lit_step k38 _ 38 ?hg (N := 38) ?hd (xs := ([(⟨t362, t363, t364⟩ : S38), (⟨rd y367 t362, t363, t364⟩ : S38)] : List (S38))) (inner := [.int .i64 t362, .string t363, .string t364, .int .i64 (rd y367 t362), .string t363, .string t364]) (ok := fun _ => True) (okp := fun _ => True) ?hr ?hp (fun _ hk => hk) trivial (Below.refl _ _) (Nat.le_refl _) (by simp) ?_; (case hd => rfl); (case hg => rfl); (case hr => first | (go_simp; done) | (go_simp; rfl)); (case hp => exact (Reps.c3 (show Kd.M k38 _ _ _ (⟨t362, t363, t364⟩ : S38) [.int .i64 t362, .string t363, .string t364] from (k38_mkM _ _ _ (⟨t362, t363, t364⟩ : S38) )) (Reps.c3 (show Kd.M k38 _ _ _ (⟨rd y367 t362, t363, t364⟩ : S38) [.int .i64 (rd y367 t362), .string t363, .string t364] from (k38_mkM _ _ _ (⟨rd y367 t362, t363, t364⟩ : S38) )) (Reps.none _ _))))
      intro v380 w75 ho76 hb hg_ hnew_
      clear hg_ hnew_
      (first | rw [← Ny379.out] at ho76 | (simp only [Int.reduceToNat] at ho76; rw [← Ny379.out] at ho76))
      replace HO361 := Aside0.mk (Kd.R_below (ra_ HO361.out) hb)
      replace HO369 := Aside0.mk (Kd.R_below (ra_ HO369.out) hb)
      have HO381 := Aside0.mk (Kd.R_lower (Kd.R_newB (Kd.R_newB (Kd.R_new' (Kd.R_new' ho76 (Kd.R_lt (ra_ HO373.out))) (Kd.R_lt (ra_ HO377.out))) (g := gb365) (o := .cells #[.int .i64 t362, .string t363, .string t364] 38 (0, 0)) (by (with_reducible repeat (first | refine blk_drewN ?_ _ | refine blk_drew ?_ | refine blk_alloc ?_ _)); exact BK365.out)) (g := gb366) (o := .cells #[.int .i64 (rd y367 t362), .string t363, .string t364] 38 (0, 0)) (by (with_reducible repeat (first | refine blk_drewN ?_ _ | refine blk_drew ?_ | refine blk_alloc ?_ _)); exact BK366.out)) (below_size (by repeat (first | (with_reducible first | exact HB.out | apply below_alloc | apply pw_below_drewN | apply below_drew1 | refine below_set ?_ GE357.out | refine below_set ?_ GE358.out | refine below_set ?_ GE365.out | refine below_set ?_ GE366.out) | exact HB.out))))
      replace HO373 := Aside0.mk (Kd.R_elder' (ra_ HO373.out) (Kd.R_base ho76) hb)
      replace HO377 := Aside0.mk (Kd.R_elder' (ra_ HO377.out) (Kd.R_base ho76) hb)
      replace BK357 := Aside0.mk (blk_below (g := gb357) (o := .cells #[.int .i64 a1_0, .int .i64 a1_1, .int .i64 a1_2] 35 (0, 0)) (by (with_reducible repeat (first | refine blk_drewN ?_ _ | refine blk_drew ?_ | refine blk_alloc ?_ _)); exact BK357.out) hb)
      replace BK358 := Aside0.mk (blk_below (g := gb358) (o := .cells #[.int .i64 a2_0, .int .i64 a2_1, .int .i64 a2_2] 35 (0, 0)) (by (with_reducible repeat (first | refine blk_drewN ?_ _ | refine blk_drew ?_ | refine blk_alloc ?_ _)); exact BK358.out) hb)
      replace BK365 := Aside0.mk (blk_below (g := gb365) (o := .cells #[.int .i64 t362, .string t363, .string t364] 38 (0, 0)) (by (with_reducible repeat (first | refine blk_drewN ?_ _ | refine blk_drew ?_ | refine blk_alloc ?_ _)); exact BK365.out) hb)
      replace BK366 := Aside0.mk (blk_below (g := gb366) (o := .cells #[.int .i64 (rd y367 t362), .string t363, .string t364] 38 (0, 0)) (by (with_reducible repeat (first | refine blk_drewN ?_ _ | refine blk_drew ?_ | refine blk_alloc ?_ _)); exact BK366.out) hb)
      replace HB := Aside0.mk (below_step (by repeat (first | (with_reducible first | exact HB.out | apply below_alloc | apply pw_below_drewN | apply below_drew1 | refine below_set ?_ GE357.out | refine below_set ?_ GE358.out | refine below_set ?_ GE365.out | refine below_set ?_ GE366.out) | exact HB.out)) hb)
      clear hb ho76
      obtain ⟨Ao77, co77, eo77⟩ := Kd.R_slice HO381.out
      (first | subst eo77 | (injection eo77 with f1_ f2_ f3_; have f4_ := f1_.symm; have f5_ := f3_.symm; clear f1_ f2_ f3_; subst f4_; subst f5_))
      refine hK.out _ _ ⟨(blk_cell BK365.out 0).trans rfl, (blk_cell BK365.out 1).trans rfl, (blk_cell BK365.out 2).trans rfl, (blk_cell BK366.out 0).trans rfl, (blk_cell BK366.out 1).trans rfl, (blk_cell BK366.out 2).trans rfl⟩ (fun hHeld => ?_)
      clear hK K
      refine norm_ (a' := ?_) ?_ ?_
      rotate_left
      ·show Act.put _ (some 38) _ = _
       simp only [Act.put, List.setIfInBounds_toArray, List.set_cons_zero, List.set_cons_succ, i64_w, i32_w]
       rfl
      refine oneS_ (i := 14) (N := some 40) rfl rfl (one_of HT_.out (by kernel_rfl)) (by decide) (fun K hK => ?_)
      refine goes_ Try.func19 (by kernel_rfl) rfl #[.slice Ao77 y379.length co77, .slice Ao63 t359.length co63] (by rfl) rfl rfl ca_ ?_
      with_reducible refine (label_Holds.calls k _ _ y379 _ _ t359 false _ ?side1 ?side2 ?side3 ?side4 A44.out).mono ?_
      (case side1 => repeat (first | exact (Kd.R_reads' HO381.out).2.2 | (with_reducible refine Kd.C_alloc ?_ _) | (with_reducible refine Kd.C_drewN ?_ _) | (with_reducible refine Kd.C_drew ?_)))
      (case side2 => exact (Kd.R_reads' HO381.out).2.1)
      (case side3 => repeat (first | exact (Kd.R_reads' HO361.out).2.2 | (with_reducible refine Kd.C_alloc ?_ _) | (with_reducible refine Kd.C_drewN ?_ _) | (with_reducible refine Kd.C_drew ?_)))
      (case side4 => exact (Kd.R_reads' HO361.out).2.1)
      rintro e w78 ⟨rfl, hb⟩
      refine ⟨_, rfl, ?_⟩
      replace HO361 := Aside0.mk (Kd.R_below (ra_ HO361.out) hb)
      replace HO369 := Aside0.mk (Kd.R_below (ra_ HO369.out) hb)
      replace HO373 := Aside0.mk (Kd.R_below (ra_ HO373.out) hb)
      replace HO377 := Aside0.mk (Kd.R_below (ra_ HO377.out) hb)
      replace HO381 := Aside0.mk (Kd.R_below (ra_ HO381.out) hb)
      replace BK357 := Aside0.mk (blk_below (g := gb357) (o := .cells #[.int .i64 a1_0, .int .i64 a1_1, .int .i64 a1_2] 35 (0, 0)) (by (with_reducible repeat (first | refine blk_drewN ?_ _ | refine blk_drew ?_ | refine blk_alloc ?_ _)); exact BK357.out) hb)
      replace BK358 := Aside0.mk (blk_below (g := gb358) (o := .cells #[.int .i64 a2_0, .int .i64 a2_1, .int .i64 a2_2] 35 (0, 0)) (by (with_reducible repeat (first | refine blk_drewN ?_ _ | refine blk_drew ?_ | refine blk_alloc ?_ _)); exact BK358.out) hb)
      replace BK365 := Aside0.mk (blk_below (g := gb365) (o := .cells #[.int .i64 t362, .string t363, .string t364] 38 (0, 0)) (by (with_reducible repeat (first | refine blk_drewN ?_ _ | refine blk_drew ?_ | refine blk_alloc ?_ _)); exact BK365.out) hb)
      replace BK366 := Aside0.mk (blk_below (g := gb366) (o := .cells #[.int .i64 (rd y367 t362), .string t363, .string t364] 38 (0, 0)) (by (with_reducible repeat (first | refine blk_drewN ?_ _ | refine blk_drew ?_ | refine blk_alloc ?_ _)); exact BK366.out) hb)
      replace HB := Aside0.mk (below_step (by repeat (first | (with_reducible first | exact HB.out | apply below_alloc | apply pw_below_drewN | apply below_drew1 | refine below_set ?_ GE357.out | refine below_set ?_ GE358.out | refine below_set ?_ GE365.out | refine below_set ?_ GE366.out) | exact HB.out)) hb)
      (try clear hb)
      (try clear hb2)
      (try clear hk)
      (try clear hi)
      refine hK.out _ _ ⟨(blk_cell BK365.out 0).trans rfl, (blk_cell BK365.out 1).trans rfl, (blk_cell BK365.out 2).trans rfl, (blk_cell BK366.out 0).trans rfl, (blk_cell BK366.out 1).trans rfl, (blk_cell BK366.out 2).trans rfl⟩ (fun hHeld => ?_)
      clear hK K
      refine norm_ (a' := ?_) ?_ ?_
      rotate_left
      ·show Act.put _ (some 40) _ = _
       simp only [Act.put, List.setIfInBounds_toArray, List.set_cons_zero, List.set_cons_succ, i64_w, i32_w]
       rfl
      refine pureS_ (i := 15) (N := some 41) (v := ?_) (a' := ?_) rfl rfl (any_of HT_.out (by kernel_rfl)) (fun _ _ _ h => h) (Or.inl ⟨by rfl, ?_⟩) ?_ ?_
      rotate_left; (· intro w'; go_simp; with_reducible rfl); rotate_left; (· simp only [Act.put, List.setIfInBounds_toArray, List.set_cons_zero, List.set_cons_succ, i64_w, i32_w]; rfl)
      refine pureS_ (i := 16) (N := some 42) (v := ?_) (a' := ?_) rfl rfl (any_of HT_.out (by kernel_rfl)) (fun _ _ _ h => h) (Or.inl ⟨by rfl, ?_⟩) ?_ ?_
      rotate_left; (· intro w'; go_simp; with_reducible rfl); rotate_left; (· simp only [Act.put, List.setIfInBounds_toArray, List.set_cons_zero, List.set_cons_succ, i64_w, i32_w]; rfl)
      refine pureS_ (i := 17) (N := some 43) (v := ?_) (a' := ?_) rfl rfl (any_of HT_.out (by kernel_rfl)) (fun _ _ _ h => h) (Or.inl ⟨by rfl, ?_⟩) ?_ ?_
      rotate_left; (· intro w'; go_simp; with_reducible rfl); rotate_left; (· simp only [Act.put, List.setIfInBounds_toArray, List.set_cons_zero, List.set_cons_succ, i64_w, i32_w]; rfl)
      refine oneS_ (i := 18) (N := some 44) rfl rfl (one_of HT_.out (by kernel_rfl)) (by decide) (fun K hK => ?_)
      refine goes_ Try.func19 (by kernel_rfl) rfl #[.slice none 0 0, .slice Ao63 t359.length co63] (by rfl) rfl rfl ca_ ?_
      refine (label_Holds.calls k _ _ ([] : List (S38)) _ _ t359 t383 _ ?side1 ?side2 ?side3 ?side4 A62.out).mono ?_
      (case side1 => exact Kd.C_nil _ _)
      (case side2 => exact Nat.le_refl _)
      (case side3 => repeat (first | exact (Kd.R_reads' HO361.out).2.2 | (with_reducible refine Kd.C_alloc ?_ _) | (with_reducible refine Kd.C_drewN ?_ _) | (with_reducible refine Kd.C_drew ?_)))
      (case side4 => exact (Kd.R_reads' HO361.out).2.1)
      rintro e w79 ⟨rfl, hb⟩
      refine ⟨_, rfl, ?_⟩
      replace HO361 := Aside0.mk (Kd.R_below (ra_ HO361.out) hb)
      replace HO369 := Aside0.mk (Kd.R_below (ra_ HO369.out) hb)
      replace HO373 := Aside0.mk (Kd.R_below (ra_ HO373.out) hb)
      replace HO377 := Aside0.mk (Kd.R_below (ra_ HO377.out) hb)
      replace HO381 := Aside0.mk (Kd.R_below (ra_ HO381.out) hb)
      replace BK357 := Aside0.mk (blk_below (g := gb357) (o := .cells #[.int .i64 a1_0, .int .i64 a1_1, .int .i64 a1_2] 35 (0, 0)) (by (with_reducible repeat (first | refine blk_drewN ?_ _ | refine blk_drew ?_ | refine blk_alloc ?_ _)); exact BK357.out) hb)
      replace BK358 := Aside0.mk (blk_below (g := gb358) (o := .cells #[.int .i64 a2_0, .int .i64 a2_1, .int .i64 a2_2] 35 (0, 0)) (by (with_reducible repeat (first | refine blk_drewN ?_ _ | refine blk_drew ?_ | refine blk_alloc ?_ _)); exact BK358.out) hb)
      replace BK365 := Aside0.mk (blk_below (g := gb365) (o := .cells #[.int .i64 t362, .string t363, .string t364] 38 (0, 0)) (by (with_reducible repeat (first | refine blk_drewN ?_ _ | refine blk_drew ?_ | refine blk_alloc ?_ _)); exact BK365.out) hb)
      replace BK366 := Aside0.mk (blk_below (g := gb366) (o := .cells #[.int .i64 (rd y367 t362), .string t363, .string t364] 38 (0, 0)) (by (with_reducible repeat (first | refine blk_drewN ?_ _ | refine blk_drew ?_ | refine blk_alloc ?_ _)); exact BK366.out) hb)
      replace HB := Aside0.mk (below_step (by repeat (first | (with_reducible first | exact HB.out | apply below_alloc | apply pw_below_drewN | apply below_drew1 | refine below_set ?_ GE357.out | refine below_set ?_ GE358.out | refine below_set ?_ GE365.out | refine below_set ?_ GE366.out) | exact HB.out)) hb)
      (try clear hb)
      (try clear hb2)
      (try clear hk)
      (try clear hi)
      refine hK.out _ _ ⟨(blk_cell BK365.out 0).trans rfl, (blk_cell BK365.out 1).trans rfl, (blk_cell BK365.out 2).trans rfl, (blk_cell BK366.out 0).trans rfl, (blk_cell BK366.out 1).trans rfl, (blk_cell BK366.out 2).trans rfl⟩ (fun hHeld => ?_)
      clear hK K
      refine norm_ (a' := ?_) ?_ ?_
      rotate_left
      ·show Act.put _ (some 44) _ = _
       simp only [Act.put, List.setIfInBounds_toArray, List.set_cons_zero, List.set_cons_succ, i64_w, i32_w]
       rfl
      refine pureS_ (i := 19) (N := some 45) (v := ?_) (a' := ?_) rfl rfl (any_of HT_.out (by kernel_rfl)) (fun _ _ _ h => h) (Or.inl ⟨by rfl, ?_⟩) ?_ ?_
      rotate_left; (· intro w'; go_simp; with_reducible rfl); rotate_left; (· simp only [Act.put, List.setIfInBounds_toArray, List.set_cons_zero, List.set_cons_succ, i64_w, i32_w]; rfl)
      refine pureS_ (i := 20) (N := some 46) (v := ?_) (a' := ?_) rfl rfl (any_of HT_.out (by kernel_rfl)) (fun _ _ _ h => h) (Or.inl ⟨by rfl, ?_⟩) ?_ ?_
      rotate_left; (· intro w'; go_simp; with_reducible rfl); rotate_left; (· simp only [Act.put, List.setIfInBounds_toArray, List.set_cons_zero, List.set_cons_succ, i64_w, i32_w]; rfl)
      refine done_ (done_of HT_.out (by kernel_rfl)) ?_
      try go_wp2
      go_meet
      case rel => exact ⟨_, (!t383), fs_, H', ⟨by first | omega | exact Nat.le_refl _⟩, ⟨by (with_reducible repeat (first | apply Kd.R_alloc | apply Kd.R_drewN | apply Kd.R_drew)); exact HO361.out⟩, ⟨by (with_reducible repeat (first | refine blk_drewN ?_ _ | refine blk_drew ?_ | refine blk_alloc ?_ _)); exact BK357.out⟩, ⟨by (with_reducible repeat (first | refine blk_drewN ?_ _ | refine blk_drew ?_ | refine blk_alloc ?_ _)); exact BK358.out⟩, ⟨by (with_reducible repeat (first | refine blk_drewN ?_ _ | refine blk_drew ?_ | refine blk_alloc ?_ _)); exact BK365.out⟩, ⟨by (with_reducible repeat (first | refine blk_drewN ?_ _ | refine blk_drew ?_ | refine blk_alloc ?_ _)); exact BK366.out⟩, ⟨by repeat (first | (with_reducible first | exact HB.out | apply below_alloc | apply pw_below_drewN | apply below_drew1 | refine below_set ?_ GE357.out | refine below_set ?_ GE358.out | refine below_set ?_ GE365.out | refine below_set ?_ GE366.out) | exact HB.out)⟩⟩
   case rest =>
    clear HC8
    (try clear c1); (try clear p2); (try clear c3); (try clear c19)
    obtain ⟨kq, x46_7, rfl, HA, HJ7, HO_7, BK357, BK358, BK365, BK366, HB⟩ := hcut
    cases kq with
    | zero => exact absurd HA.out (by simp [drayagelaw03_LabelOpposite.j0])
    | succ kj7 =>
     have H := HA.out
     clear HA
     simp only [drayagelaw03_LabelOpposite.j0] at H
     by_cases c80 : x46_7 = true
     ·subst c80
      have H1 : (some false) = some true := by rw [if_pos rfl] at H; exact H
      have H := H1; cases H
     ·replace c80 := Bool.eq_false_iff.mpr c80
      subst c80
      have H1 : ((drayagelaw03_term.f a2_0 a2_1 a2_2).bind fun bt384 => ((some (([(⟨t362, t363, t364⟩ : S38), (⟨bt384.1, bt384.2.1, bt384.2.2⟩ : S38)] : List (S38)) : List (S38))).bind fun y387 => ((label_Holds.f kj7 y387 t359).bind fun t390 => (if 1 ≤ (y387.length : Int) then ((label_Holds.f kj7 (y387.take 1) t359).bind fun t395 => (if t395 = true then ((label_Holds.f kj7 (y387.drop 1) t359).bind fun t400 => (drayagelaw03_LabelOpposite.j1 kj7 t359 (t390 != t400))) else (drayagelaw03_LabelOpposite.j1 kj7 t359 (t390 != false)))) else (none))))) = some true := by rw [if_neg (show ¬ (false = true) by decide)] at H; exact H
      clear H
      have H := H1
      clear H1
      replace H := Option.bind_eq_some_iff.mp H
      obtain ⟨⟨t384, t385, t386⟩, A810, H⟩ := H
      try dsimp only at H
      have A81 := Aside0.mk A810
      clear A810
      obtain ⟨y387, hy387⟩ : ∃ y_ : List (S38), y_ = (([(⟨t362, t363, t364⟩ : S38), (⟨t384, t385, t386⟩ : S38)] : List (S38))) := ⟨_, rfl⟩
      replace H : ((label_Holds.f kj7 y387 t359).bind fun t390 => (if 1 ≤ (y387.length : Int) then ((label_Holds.f kj7 (y387.take 1) t359).bind fun t395 => (if t395 = true then ((label_Holds.f kj7 (y387.drop 1) t359).bind fun t400 => (drayagelaw03_LabelOpposite.j1 kj7 t359 (t390 != t400))) else (drayagelaw03_LabelOpposite.j1 kj7 t359 (t390 != false)))) else (none))) = some true := by first | (rw [hy387]; with_reducible exact H) | (have H2_ := (Option.bind_some _ _).symm.trans H; rw [hy387]; with_reducible exact H2_) | (have H2_ := (Option.bind_some _ _).symm.trans H; with_reducible exact H2_) | with_reducible exact H | (rw [hy387]; exact H) | exact H
      have Ny387 := Aside0.mk hy387
      clear hy387
      have HC82 := Aside0.mk H
      clear H
      try go_wp2
      replace HO_7 := Aside0.mk (Kd.R_drew HO_7.out)
      replace BK357 := Aside0.mk (blk_drew BK357.out)
      replace BK358 := Aside0.mk (blk_drew BK358.out)
      replace BK365 := Aside0.mk (blk_drew BK365.out)
      replace BK366 := Aside0.mk (blk_drew BK366.out)
      replace HB := Aside0.mk (below_drew1 HB.out)
      refine start_ (n := 5) (S := fun w' => w'.cell? ⟨gb365, 0, none⟩ = some (.int .i64 t362) ∧ w'.cell? ⟨gb365, 1, none⟩ = some (.string t363) ∧ w'.cell? ⟨gb365, 2, none⟩ = some (.string t364) ∧ w'.cell? ⟨gb358, 0, none⟩ = some (.int .i64 a2_0) ∧ w'.cell? ⟨gb358, 1, none⟩ = some (.int .i64 a2_1) ∧ w'.cell? ⟨gb358, 2, none⟩ = some (.int .i64 a2_2)) (ds := []) #[false, false, false, false, false] (by kernel_rfl) rfl rfl ⟨(blk_cell BK365.out 0).trans rfl, (blk_cell BK365.out 1).trans rfl, (blk_cell BK365.out 2).trans rfl, (blk_cell BK358.out 0).trans rfl, (blk_cell BK358.out 1).trans rfl, (blk_cell BK358.out 2).trans rfl⟩ (fun hHeld => ?_)
      generalize wc.drew = w83 at HO_7 BK357 BK358 BK365 BK366 HB hHeld ⊢
      refine takeS_ (i := 0) (N := some 47) (v := ?_) (a' := ?_) rfl rfl (by kernel_rfl) (fun _ _ _ h => h) (Or.inl ⟨by rfl, ?_⟩) hHeld ?_ ?_
      rotate_left; (· rintro w' ⟨s0, s1, s2, s3, s4, s5⟩; go_simp; with_reducible rfl); rotate_left; (· simp only [Act.put, List.setIfInBounds_toArray, List.set_cons_zero, List.set_cons_succ, i64_w, i32_w]; rfl)
      refine takeS_ (i := 1) (N := some 48) (v := ?_) (a' := ?_) rfl rfl (by kernel_rfl) (fun _ _ _ h => h) (Or.inl ⟨by rfl, ?_⟩) hHeld ?_ ?_
      rotate_left; (· rintro w' ⟨s0, s1, s2, s3, s4, s5⟩; go_simp; with_reducible rfl); rotate_left; (· simp only [Act.put, List.setIfInBounds_toArray, List.set_cons_zero, List.set_cons_succ, i64_w, i32_w]; rfl)
      refine oneS_ (i := 2) (N := some 49) rfl rfl (by kernel_rfl) (by decide) (fun K hK => ?_)
      refine goes_ Try.func18 (by kernel_rfl) rfl #[.agg #[.int .i64 a2_0, .int .i64 a2_1, .int .i64 a2_2]] (by rfl) rfl rfl ca_ ?_
      with_reducible refine (drayagelaw03_term.calls a2_0 a2_1 a2_2 t384 t385 t386 _ A81.out).mono ?_
      rintro e w84 ⟨rfl, hb⟩
      refine ⟨_, rfl, ?_⟩
      replace HO_7 := Aside0.mk (Kd.R_below (ra_ HO_7.out) hb)
      replace BK357 := Aside0.mk (blk_below (g := gb357) (o := .cells #[.int .i64 a1_0, .int .i64 a1_1, .int .i64 a1_2] 35 (0, 0)) (by (with_reducible repeat (first | refine blk_drewN ?_ _ | refine blk_drew ?_ | refine blk_alloc ?_ _)); exact BK357.out) hb)
      replace BK358 := Aside0.mk (blk_below (g := gb358) (o := .cells #[.int .i64 a2_0, .int .i64 a2_1, .int .i64 a2_2] 35 (0, 0)) (by (with_reducible repeat (first | refine blk_drewN ?_ _ | refine blk_drew ?_ | refine blk_alloc ?_ _)); exact BK358.out) hb)
      replace BK365 := Aside0.mk (blk_below (g := gb365) (o := .cells #[.int .i64 t362, .string t363, .string t364] 38 (0, 0)) (by (with_reducible repeat (first | refine blk_drewN ?_ _ | refine blk_drew ?_ | refine blk_alloc ?_ _)); exact BK365.out) hb)
      replace BK366 := Aside0.mk (blk_below (g := gb366) (o := .cells #[.int .i64 (rd y367 t362), .string t363, .string t364] 38 (0, 0)) (by (with_reducible repeat (first | refine blk_drewN ?_ _ | refine blk_drew ?_ | refine blk_alloc ?_ _)); exact BK366.out) hb)
      replace HB := Aside0.mk (below_step (by repeat (first | (with_reducible first | exact HB.out | apply below_alloc | apply pw_below_drewN | apply below_drew1 | refine below_set ?_ GE357.out | refine below_set ?_ GE358.out | refine below_set ?_ GE365.out | refine below_set ?_ GE366.out) | exact HB.out)) hb)
      (try clear hb)
      (try clear hb2)
      (try clear hk)
      (try clear hi)
      refine hK.out _ _ ⟨(blk_cell BK365.out 0).trans rfl, (blk_cell BK365.out 1).trans rfl, (blk_cell BK365.out 2).trans rfl, (blk_cell BK358.out 0).trans rfl, (blk_cell BK358.out 1).trans rfl, (blk_cell BK358.out 2).trans rfl⟩ (fun hHeld => ?_)
      clear hK K
      refine norm_ (a' := ?_) ?_ ?_
      rotate_left
      ·show Act.put _ (some 49) _ = _
       simp only [Act.put, List.setIfInBounds_toArray, List.set_cons_zero, List.set_cons_succ, i64_w, i32_w]
       rfl
      refine oneS_ (i := 3) (N := some 50) rfl rfl (by kernel_rfl) (by decide) (fun K hK => ?_)
      refine Kd.R_lit_step k38 _ 38 ?hg (N := 50) ?hd (xs := ([(⟨t362, t363, t364⟩ : S38), (⟨t384, t385, t386⟩ : S38)] : List (S38))) (inner := [.int .i64 t362, .string t363, .string t364, .int .i64 t384, .string t385, .string t386]) (ok := fun _ => True) (okp := fun _ => True) ?hr ?hp (fun _ hk => hk) trivial (Below.refl _ _) (Nat.le_refl _) (by simp) ?_; (case hd => rfl); (case hg => rfl); (case hr => first | (go_simp; done) | (go_simp; rfl)); (case hp => exact (Reps.c3 (show Kd.M k38 _ _ _ (⟨t362, t363, t364⟩ : S38) [.int .i64 t362, .string t363, .string t364] from (k38_mkM _ _ _ (⟨t362, t363, t364⟩ : S38) )) (Reps.c3 (show Kd.M k38 _ _ _ (⟨t384, t385, t386⟩ : S38) [.int .i64 t384, .string t385, .string t386] from (k38_mkM _ _ _ (⟨t384, t385, t386⟩ : S38) )) (Reps.none _ _))))
      intro v388 w85 ho86 hb hg_ hnew_
      clear hg_ hnew_
      (first | rw [← Ny387.out] at ho86 | (simp only [Int.reduceToNat] at ho86; rw [← Ny387.out] at ho86))
      replace HO_7 := Aside0.mk (Kd.R_below (ra_ HO_7.out) hb)
      have HO389 := Aside0.mk (Kd.R_lower (Kd.R_newB (Kd.R_newB ho86 (g := gb365) (o := .cells #[.int .i64 t362, .string t363, .string t364] 38 (0, 0)) (by (with_reducible repeat (first | refine blk_drewN ?_ _ | refine blk_drew ?_ | refine blk_alloc ?_ _)); exact BK365.out)) (g := gb366) (o := .cells #[.int .i64 (rd y367 t362), .string t363, .string t364] 38 (0, 0)) (by (with_reducible repeat (first | refine blk_drewN ?_ _ | refine blk_drew ?_ | refine blk_alloc ?_ _)); exact BK366.out)) (below_size (by repeat (first | (with_reducible first | exact HB.out | apply below_alloc | apply pw_below_drewN | apply below_drew1 | refine below_set ?_ GE357.out | refine below_set ?_ GE358.out | refine below_set ?_ GE365.out | refine below_set ?_ GE366.out) | exact HB.out))))
      replace BK357 := Aside0.mk (blk_below (g := gb357) (o := .cells #[.int .i64 a1_0, .int .i64 a1_1, .int .i64 a1_2] 35 (0, 0)) (by (with_reducible repeat (first | refine blk_drewN ?_ _ | refine blk_drew ?_ | refine blk_alloc ?_ _)); exact BK357.out) hb)
      replace BK358 := Aside0.mk (blk_below (g := gb358) (o := .cells #[.int .i64 a2_0, .int .i64 a2_1, .int .i64 a2_2] 35 (0, 0)) (by (with_reducible repeat (first | refine blk_drewN ?_ _ | refine blk_drew ?_ | refine blk_alloc ?_ _)); exact BK358.out) hb)
      replace BK365 := Aside0.mk (blk_below (g := gb365) (o := .cells #[.int .i64 t362, .string t363, .string t364] 38 (0, 0)) (by (with_reducible repeat (first | refine blk_drewN ?_ _ | refine blk_drew ?_ | refine blk_alloc ?_ _)); exact BK365.out) hb)
      replace BK366 := Aside0.mk (blk_below (g := gb366) (o := .cells #[.int .i64 (rd y367 t362), .string t363, .string t364] 38 (0, 0)) (by (with_reducible repeat (first | refine blk_drewN ?_ _ | refine blk_drew ?_ | refine blk_alloc ?_ _)); exact BK366.out) hb)
      replace HB := Aside0.mk (below_step (by repeat (first | (with_reducible first | exact HB.out | apply below_alloc | apply pw_below_drewN | apply below_drew1 | refine below_set ?_ GE357.out | refine below_set ?_ GE358.out | refine below_set ?_ GE365.out | refine below_set ?_ GE366.out) | exact HB.out)) hb)
      clear hb ho86
      refine hK.out _ _ ⟨(blk_cell BK365.out 0).trans rfl, (blk_cell BK365.out 1).trans rfl, (blk_cell BK365.out 2).trans rfl, (blk_cell BK358.out 0).trans rfl, (blk_cell BK358.out 1).trans rfl, (blk_cell BK358.out 2).trans rfl⟩ (fun hHeld => ?_)
      clear hK K
      refine norm_ (a' := ?_) ?_ ?_
      rotate_left
      ·show Act.put _ (some 50) _ = _
       simp only [Act.put, List.setIfInBounds_toArray, List.set_cons_zero, List.set_cons_succ, i64_w, i32_w]
       rfl
      refine pureS_ (i := 4) (N := some 10) (v := ?_) (a' := ?_) rfl rfl (by kernel_rfl) (fun _ _ _ h => h) (Or.inl ⟨by rfl, ?_⟩) ?_ ?_
      rotate_left; (· intro w'; go_simp; with_reducible rfl); rotate_left; (· simp only [Act.put, List.setIfInBounds_toArray, List.set_cons_zero, List.set_cons_succ, i64_w, i32_w]; rfl)
      refine done_ (by kernel_rfl) ?_
      go_upto_region 8 with (fail)
      go_cut [64] (fun v64 wc => ∃ (kq : Nat) (x64_81 : Bool), v64 = .bool x64_81 ∧ Aside0 (drayagelaw03_LabelOpposite.j1 kq t359 x64_81 = some true) ∧ Aside0 (kq ≤ kj7) ∧ Aside0 (Kd.R k43 43 wc w.heap.size (fun _ => True) v360 t359) ∧ Aside0 (wc.heap[gb357]? = some (.cells #[.int .i64 a1_0, .int .i64 a1_1, .int .i64 a1_2] 35 (0, 0))) ∧ Aside0 (wc.heap[gb358]? = some (.cells #[.int .i64 a2_0, .int .i64 a2_1, .int .i64 a2_2] 35 (0, 0))) ∧ Aside0 (wc.heap[gb365]? = some (.cells #[.int .i64 t362, .string t363, .string t364] 38 (0, 0))) ∧ Aside0 (wc.heap[gb366]? = some (.cells #[.int .i64 (rd y367 t362), .string t363, .string t364] 38 (0, 0))) ∧ Aside0 (Below w.heap.size w wc))
      case first =>
       have H := HC82.out
       clear HC82
       replace H := Option.bind_eq_some_iff.mp H
       obtain ⟨t390, A870, H⟩ := H
       try dsimp only at H
       have A87 := Aside0.mk A870
       clear A870
       by_cases c88 : 1 ≤ (y387.length : Int)
       ·rw [if_pos c88] at H
        have c88b0 := eq_true c88
        have c88b1 : decide (1 ≤ (y387.length : Int)) = true := decide_eq_true c88
        clear c88
        obtain ⟨y391, hy391⟩ : ∃ y_ : List (S38), y_ = (y387.take 1) := ⟨_, rfl⟩
        replace H : ((label_Holds.f kj7 y391 t359).bind fun t395 => (if t395 = true then ((label_Holds.f kj7 (y387.drop 1) t359).bind fun t400 => (drayagelaw03_LabelOpposite.j1 kj7 t359 (t390 != t400))) else (drayagelaw03_LabelOpposite.j1 kj7 t359 (t390 != false)))) = some true := by first | (rw [hy391]; with_reducible exact H) | (have H2_ := (Option.bind_some _ _).symm.trans H; rw [hy391]; with_reducible exact H2_) | (have H2_ := (Option.bind_some _ _).symm.trans H; with_reducible exact H2_) | with_reducible exact H | (rw [hy391]; exact H) | exact H
        have Ny391 := Aside0.mk hy391
        clear hy391
        replace H := Option.bind_eq_some_iff.mp H
        obtain ⟨t395, A890, H⟩ := H
        try dsimp only at H
        have A89 := Aside0.mk A890
        clear A890
        by_cases c90 : t395 = true
        ·subst c90
         rw [if_pos rfl] at H
         have c91b0 := eq_true (of_decide_eq_true (by first | (with_reducible assumption) | assumption) : 1 ≤ (y387.length : Int))
         obtain ⟨y396, hy396⟩ : ∃ y_ : List (S38), y_ = (y387.drop 1) := ⟨_, rfl⟩
         replace H : ((label_Holds.f kj7 y396 t359).bind fun t400 => (drayagelaw03_LabelOpposite.j1 kj7 t359 (t390 != t400))) = some true := by first | (rw [hy396]; with_reducible exact H) | (have H2_ := (Option.bind_some _ _).symm.trans H; rw [hy396]; with_reducible exact H2_) | (have H2_ := (Option.bind_some _ _).symm.trans H; with_reducible exact H2_) | with_reducible exact H | (rw [hy396]; exact H) | exact H
         have Ny396 := Aside0.mk hy396
         clear hy396
         replace H := Option.bind_eq_some_iff.mp H
         obtain ⟨t400, A920, H⟩ := H
         try dsimp only at H
         have A92 := Aside0.mk A920
         clear A920
         have H' := Aside0.mk H
         clear H
         try go_wp2
         replace HO_7 := Aside0.mk (Kd.R_drew HO_7.out)
         replace HO389 := Aside0.mk (Kd.R_drew HO389.out)
         replace BK357 := Aside0.mk (blk_drew BK357.out)
         replace BK358 := Aside0.mk (blk_drew BK358.out)
         replace BK365 := Aside0.mk (blk_drew BK365.out)
         replace BK366 := Aside0.mk (blk_drew BK366.out)
         replace HB := Aside0.mk (below_drew1 HB.out)
         obtain ⟨Ao95, co95, eo95⟩ := Kd.R_slice HO389.out
         (first | subst eo95 | (injection eo95 with f1_ f2_ f3_; have f4_ := f1_.symm; have f5_ := f3_.symm; clear f1_ f2_ f3_; subst f4_; subst f5_))
         have q94 : (1 : Int) ≤ ((y387.length : Int) : Int) := of_decide_eq_true (by first | (with_reducible assumption) | assumption)
         obtain ⟨i094, hi094, _, hsz94, _⟩ := info_parts info38
         have hroom94 : y387.length ≤ co95 := (Kd.R_reads' HO389.out).2.1
         have hC94 : Kd.C k38 _ Ao95 y387.length y387 := (Kd.R_reads' HO389.out).2.2
         have hcut94 := cut_to (P := Try.prog) 26 38 .i64 Try.underlying26 hi094 Ao95 y387.length co95 1 (by omega) q94 hroom94
         have hr94 := Kd.C_take (m := 1) hC94 (by omega)
         have hy94 : y391.length = (1 : Int).toNat := (by rw [Ny391.out, List.length_take]; omega)
         rw [← Ny391.out] at hr94
         rw [← hy94] at hcut94
         have HR394 := Aside0.mk hr94
         have HC394 := Aside0.mk (show y391.length ≤ co95 from by omega)
         clear hr94 hC94 hroom94 hi094 hsz94
         have KY94 := Aside0.mk hy94
         clear hy94
         have KL94 := Aside0.mk (show 1 ≤ y387.length from by omega)
         replace q94 := eq_true q94
         obtain ⟨Ao96, co96, eo96⟩ := Kd.R_slice HO_7.out
         (first | subst eo96 | (injection eo96 with f1_ f2_ f3_; have f4_ := f1_.symm; have f5_ := f3_.symm; clear f1_ f2_ f3_; subst f4_; subst f5_))
         refine start_ (n := 14) (S := fun w' => True) (ds := []) #[false, false, false, false, false, false, false, false, false, false, false, false, false, false] (by kernel_rfl) rfl rfl trivial (fun hHeld => ?_); refine with_tabW drayagelaw03_LabelOpposite.tab8 drayagelaw03_LabelOpposite.bits8 (fun HT_ HW_ => ?_)
         generalize w85.drew = w93 at HO_7 HO389 BK357 BK358 BK365 BK366 HB HR394 hHeld ⊢
         refine pureS_ (i := 0) (N := some 51) (v := ?_) (a' := ?_) rfl rfl (any_of HT_.out (by kernel_rfl)) (fun _ _ _ h => h) (Or.inl ⟨by rfl, ?_⟩) ?_ ?_
         rotate_left; (· intro w'; go_simp; with_reducible rfl); rotate_left; (· simp only [Act.put, List.setIfInBounds_toArray, List.set_cons_zero, List.set_cons_succ, i64_w, i32_w]; rfl)
         refine pureS_ (i := 1) (N := some 52) (v := ?_) (a' := ?_) rfl rfl (any_of HT_.out (by kernel_rfl)) (fun _ _ _ h => h) (Or.inl ⟨by rfl, ?_⟩) ?_ ?_
         rotate_left; (· intro w'; go_simp; with_reducible rfl); rotate_left; (· simp only [Act.put, List.setIfInBounds_toArray, List.set_cons_zero, List.set_cons_succ, i64_w, i32_w]; rfl)
         refine pureS_ (i := 3) (N := some 54) (v := ?_) (a' := ?_) rfl rfl (any_of HT_.out (by kernel_rfl)) (fun _ _ _ h => h) (Or.inl ⟨by rfl, ?_⟩) ?_ ?_
         rotate_left; (· intro w'; go_simp; with_reducible rfl); rotate_left; (· simp only [Act.put, List.setIfInBounds_toArray, List.set_cons_zero, List.set_cons_succ, i64_w, i32_w]; rfl)
         refine pureS_ (i := 4) (N := some 55) (v := ?_) (a' := ?_) rfl rfl (any_of HT_.out (by kernel_rfl)) (fun _ _ _ h => h) (Or.inl ⟨by rfl, ?_⟩) ?_ ?_
         rotate_left; (· intro w'; go_simp; with_reducible rfl); rotate_left; (· simp only [Act.put, List.setIfInBounds_toArray, List.set_cons_zero, List.set_cons_succ, i64_w, i32_w]; rfl)
         refine pureS_ (i := 5) (N := some 56) (v := ?_) (a' := ?_) rfl rfl (any_of HT_.out (by kernel_rfl)) (fun _ _ _ h => h) (Or.inl ⟨by rfl, ?_⟩) ?_ ?_
         rotate_left; (· intro w'; go_simp; with_reducible rfl); rotate_left; (· simp only [Act.put, List.setIfInBounds_toArray, List.set_cons_zero, List.set_cons_succ, i64_w, i32_w]; rfl)
         refine oneS_ (i := 2) (N := some 53) rfl rfl (one_of HT_.out (by kernel_rfl)) (by decide) (fun K hK => ?_)
         refine goes_ Try.func19 (by kernel_rfl) rfl #[.slice Ao95 y387.length co95, .slice Ao96 t359.length co96] (by rfl) rfl rfl ca_ ?_
         with_reducible refine (label_Holds.calls kj7 _ _ y387 _ _ t359 t390 _ ?side1 ?side2 ?side3 ?side4 A87.out).mono ?_
         (case side1 => repeat (first | exact (Kd.R_reads' HO389.out).2.2 | (with_reducible refine Kd.C_alloc ?_ _) | (with_reducible refine Kd.C_drewN ?_ _) | (with_reducible refine Kd.C_drew ?_)))
         (case side2 => exact (Kd.R_reads' HO389.out).2.1)
         (case side3 => repeat (first | exact (Kd.R_reads' HO_7.out).2.2 | (with_reducible refine Kd.C_alloc ?_ _) | (with_reducible refine Kd.C_drewN ?_ _) | (with_reducible refine Kd.C_drew ?_)))
         (case side4 => exact (Kd.R_reads' HO_7.out).2.1)
         rintro e w97 ⟨rfl, hb⟩
         refine ⟨_, rfl, ?_⟩
         replace HO_7 := Aside0.mk (Kd.R_below (ra_ HO_7.out) hb)
         replace HO389 := Aside0.mk (Kd.R_below (ra_ HO389.out) hb)
         replace BK357 := Aside0.mk (blk_below (g := gb357) (o := .cells #[.int .i64 a1_0, .int .i64 a1_1, .int .i64 a1_2] 35 (0, 0)) (by (with_reducible repeat (first | refine blk_drewN ?_ _ | refine blk_drew ?_ | refine blk_alloc ?_ _)); exact BK357.out) hb)
         replace BK358 := Aside0.mk (blk_below (g := gb358) (o := .cells #[.int .i64 a2_0, .int .i64 a2_1, .int .i64 a2_2] 35 (0, 0)) (by (with_reducible repeat (first | refine blk_drewN ?_ _ | refine blk_drew ?_ | refine blk_alloc ?_ _)); exact BK358.out) hb)
         replace BK365 := Aside0.mk (blk_below (g := gb365) (o := .cells #[.int .i64 t362, .string t363, .string t364] 38 (0, 0)) (by (with_reducible repeat (first | refine blk_drewN ?_ _ | refine blk_drew ?_ | refine blk_alloc ?_ _)); exact BK365.out) hb)
         replace BK366 := Aside0.mk (blk_below (g := gb366) (o := .cells #[.int .i64 (rd y367 t362), .string t363, .string t364] 38 (0, 0)) (by (with_reducible repeat (first | refine blk_drewN ?_ _ | refine blk_drew ?_ | refine blk_alloc ?_ _)); exact BK366.out) hb)
         replace HR394 := Aside0.mk (Kd.C_below (by repeat (first | (with_reducible exact HR394.out) | (with_reducible refine Kd.C_alloc ?_ _) | (with_reducible refine Kd.C_drewN ?_ _) | (with_reducible refine Kd.C_drew ?_) | exact HR394.out)) hb)
         replace HB := Aside0.mk (below_step (by repeat (first | (with_reducible first | exact HB.out | apply below_alloc | apply pw_below_drewN | apply below_drew1 | refine below_set ?_ GE357.out | refine below_set ?_ GE358.out | refine below_set ?_ GE365.out | refine below_set ?_ GE366.out) | exact HB.out)) hb)
         (try clear hb)
         (try clear hb2)
         (try clear hk)
         (try clear hi)
         refine hK.out _ _ trivial (fun hHeld => ?_)
         clear hK K
         refine norm_ (a' := ?_) ?_ ?_
         rotate_left
         ·show Act.put _ (some 53) _ = _
          simp only [Act.put, List.setIfInBounds_toArray, List.set_cons_zero, List.set_cons_succ, i64_w, i32_w]
          rfl
         refine oneS_ (i := 6) (N := some 57) rfl rfl (one_of HT_.out (by kernel_rfl)) (by decide) (fun K hK => ?_)
         refine goes_ Try.func19 (by kernel_rfl) rfl #[.slice Ao95 y391.length co95, .slice Ao96 t359.length co96] (by rfl) rfl rfl ca_ ?_
         with_reducible refine (label_Holds.calls kj7 _ _ y391 _ _ t359 true _ ?side1 ?side2 ?side3 ?side4 A89.out).mono ?_
         (case side1 => repeat (first | exact (by repeat (first | (with_reducible exact HR394.out) | (with_reducible refine Kd.C_alloc ?_ _) | (with_reducible refine Kd.C_drewN ?_ _) | (with_reducible refine Kd.C_drew ?_) | exact HR394.out)) | (with_reducible refine Kd.C_alloc ?_ _) | (with_reducible refine Kd.C_drewN ?_ _) | (with_reducible refine Kd.C_drew ?_)))
         (case side2 => exact HC394.out)
         (case side3 => repeat (first | exact (Kd.R_reads' HO_7.out).2.2 | (with_reducible refine Kd.C_alloc ?_ _) | (with_reducible refine Kd.C_drewN ?_ _) | (with_reducible refine Kd.C_drew ?_)))
         (case side4 => exact (Kd.R_reads' HO_7.out).2.1)
         rintro e w98 ⟨rfl, hb⟩
         refine ⟨_, rfl, ?_⟩
         replace HO_7 := Aside0.mk (Kd.R_below (ra_ HO_7.out) hb)
         replace HO389 := Aside0.mk (Kd.R_below (ra_ HO389.out) hb)
         replace BK357 := Aside0.mk (blk_below (g := gb357) (o := .cells #[.int .i64 a1_0, .int .i64 a1_1, .int .i64 a1_2] 35 (0, 0)) (by (with_reducible repeat (first | refine blk_drewN ?_ _ | refine blk_drew ?_ | refine blk_alloc ?_ _)); exact BK357.out) hb)
         replace BK358 := Aside0.mk (blk_below (g := gb358) (o := .cells #[.int .i64 a2_0, .int .i64 a2_1, .int .i64 a2_2] 35 (0, 0)) (by (with_reducible repeat (first | refine blk_drewN ?_ _ | refine blk_drew ?_ | refine blk_alloc ?_ _)); exact BK358.out) hb)
         replace BK365 := Aside0.mk (blk_below (g := gb365) (o := .cells #[.int .i64 t362, .string t363, .string t364] 38 (0, 0)) (by (with_reducible repeat (first | refine blk_drewN ?_ _ | refine blk_drew ?_ | refine blk_alloc ?_ _)); exact BK365.out) hb)
         replace BK366 := Aside0.mk (blk_below (g := gb366) (o := .cells #[.int .i64 (rd y367 t362), .string t363, .string t364] 38 (0, 0)) (by (with_reducible repeat (first | refine blk_drewN ?_ _ | refine blk_drew ?_ | refine blk_alloc ?_ _)); exact BK366.out) hb)
         replace HR394 := Aside0.mk (Kd.C_below (by repeat (first | (with_reducible exact HR394.out) | (with_reducible refine Kd.C_alloc ?_ _) | (with_reducible refine Kd.C_drewN ?_ _) | (with_reducible refine Kd.C_drew ?_) | exact HR394.out)) hb)
         replace HB := Aside0.mk (below_step (by repeat (first | (with_reducible first | exact HB.out | apply below_alloc | apply pw_below_drewN | apply below_drew1 | refine below_set ?_ GE357.out | refine below_set ?_ GE358.out | refine below_set ?_ GE365.out | refine below_set ?_ GE366.out) | exact HB.out)) hb)
         (try clear hb)
         (try clear hb2)
         (try clear hk)
         (try clear hi)
         have q99 : (1 : Int) ≤ ((y387.length : Int) : Int) := of_decide_eq_true (by first | (with_reducible assumption) | assumption)
         obtain ⟨i099, hi099, _, hsz99, _⟩ := info_parts info38
         have hroom99 : y387.length ≤ co95 := (Kd.R_reads' HO389.out).2.1
         have hC99 : Kd.C k38 _ Ao95 y387.length y387 := (Kd.R_reads' HO389.out).2.2
         have hcut99 := cut_from (P := Try.prog) 26 38 .i64 Try.underlying26 hi099 3 hsz99 Ao95 y387.length co95 1 (by omega) q99
         have hr99 := Kd.C_drop (m := (1 : Int).toNat) (c := co95) hC99 (by omega) hroom99
         obtain ⟨A99, hA99⟩ : ∃ A1, A1 = (if co95 = (1 : Int).toNat then Ao95 else (Ao95 : Option Addr).map (·.add ((1 : Int).toNat * 3))) := ⟨_, rfl⟩
         obtain ⟨c99, hc99⟩ : ∃ c1, c1 = co95 - (1 : Int).toNat := ⟨_, rfl⟩
         have hy99 : y396.length = y387.length - (1 : Int).toNat := (by rw [Ny396.out, List.length_drop] <;> omega)
         rw [show (y387).drop (1 : Int).toNat = y396 from Ny396.out.symm] at hr99
         replace hr99 : Kd.C k38 _ A99 y396.length y396 := (by rw [hA99]; exact hr99)
         rw [← hy99, ← hA99, ← hc99] at hcut99
         have HR399 := Aside0.mk hr99
         have HC399 := Aside0.mk (show y396.length ≤ c99 from by rw [hy99, hc99]; exact Nat.sub_le_sub_right hroom99 _)
         clear hr99 hC99 hroom99 hi099 hsz99 hc99
         have KY99 := Aside0.mk hy99
         have KA99 := Aside0.mk hA99
         clear hy99 hA99
         have KL99 := Aside0.mk (show 1 ≤ y387.length from by omega)
         replace q99 := eq_true q99
         refine hK.out _ _ trivial (fun hHeld => ?_)
         clear hK K
         refine norm_ (a' := ?_) ?_ ?_
         rotate_left
         ·show Act.put _ (some 57) _ = _
          simp only [Act.put, List.setIfInBounds_toArray, List.set_cons_zero, List.set_cons_succ, i64_w, i32_w]
          rfl
         refine pureS_ (i := 7) (N := some 58) (v := ?_) (a' := ?_) rfl rfl (any_of HT_.out (by kernel_rfl)) (fun _ _ _ h => h) (Or.inl ⟨by rfl, ?_⟩) ?_ ?_
         rotate_left; (· intro w'; go_simp; with_reducible rfl); rotate_left; (· simp only [Act.put, List.setIfInBounds_toArray, List.set_cons_zero, List.set_cons_succ, i64_w, i32_w]; rfl)
         refine pureS_ (i := 8) (N := some 59) (v := ?_) (a' := ?_) rfl rfl (any_of HT_.out (by kernel_rfl)) (fun _ _ _ h => h) (Or.inl ⟨by rfl, ?_⟩) ?_ ?_
         rotate_left; (· intro w'; go_simp; with_reducible rfl); rotate_left; (· simp only [Act.put, List.setIfInBounds_toArray, List.set_cons_zero, List.set_cons_succ, i64_w, i32_w]; rfl)
         refine pureS_ (i := 9) (N := some 60) (v := ?_) (a' := ?_) rfl rfl (any_of HT_.out (by kernel_rfl)) (fun _ _ _ h => h) (Or.inl ⟨by rfl, ?_⟩) ?_ ?_
         rotate_left; (· intro w'; go_simp; with_reducible rfl); rotate_left; (· simp only [Act.put, List.setIfInBounds_toArray, List.set_cons_zero, List.set_cons_succ, i64_w, i32_w]; rfl)
         refine pureS_ (i := 10) (N := some 61) (v := ?_) (a' := ?_) rfl rfl (any_of HT_.out (by kernel_rfl)) (fun _ _ _ h => h) (Or.inl ⟨by rfl, ?_⟩) ?_ ?_
         rotate_left; (· intro w'; go_simp; with_reducible rfl); rotate_left; (· simp only [Act.put, List.setIfInBounds_toArray, List.set_cons_zero, List.set_cons_succ, i64_w, i32_w]; rfl)
         refine oneS_ (i := 11) (N := some 62) rfl rfl (one_of HT_.out (by kernel_rfl)) (by decide) (fun K hK => ?_)
         refine goes_ Try.func19 (by kernel_rfl) rfl #[.slice A99 y396.length c99, .slice Ao96 t359.length co96] (by rfl) rfl rfl ca_ ?_
         with_reducible refine (label_Holds.calls kj7 _ _ y396 _ _ t359 t400 _ ?side1 ?side2 ?side3 ?side4 A92.out).mono ?_
         (case side1 => repeat (first | exact (by repeat (first | (with_reducible exact HR399.out) | (with_reducible refine Kd.C_alloc ?_ _) | (with_reducible refine Kd.C_drewN ?_ _) | (with_reducible refine Kd.C_drew ?_) | exact HR399.out)) | (with_reducible refine Kd.C_alloc ?_ _) | (with_reducible refine Kd.C_drewN ?_ _) | (with_reducible refine Kd.C_drew ?_)))
         (case side2 => exact HC399.out)
         (case side3 => repeat (first | exact (Kd.R_reads' HO_7.out).2.2 | (with_reducible refine Kd.C_alloc ?_ _) | (with_reducible refine Kd.C_drewN ?_ _) | (with_reducible refine Kd.C_drew ?_)))
         (case side4 => exact (Kd.R_reads' HO_7.out).2.1)
         rintro e w100 ⟨rfl, hb⟩
         refine ⟨_, rfl, ?_⟩
         replace HO_7 := Aside0.mk (Kd.R_below (ra_ HO_7.out) hb)
         replace HO389 := Aside0.mk (Kd.R_below (ra_ HO389.out) hb)
         replace BK357 := Aside0.mk (blk_below (g := gb357) (o := .cells #[.int .i64 a1_0, .int .i64 a1_1, .int .i64 a1_2] 35 (0, 0)) (by (with_reducible repeat (first | refine blk_drewN ?_ _ | refine blk_drew ?_ | refine blk_alloc ?_ _)); exact BK357.out) hb)
         replace BK358 := Aside0.mk (blk_below (g := gb358) (o := .cells #[.int .i64 a2_0, .int .i64 a2_1, .int .i64 a2_2] 35 (0, 0)) (by (with_reducible repeat (first | refine blk_drewN ?_ _ | refine blk_drew ?_ | refine blk_alloc ?_ _)); exact BK358.out) hb)
         replace BK365 := Aside0.mk (blk_below (g := gb365) (o := .cells #[.int .i64 t362, .string t363, .string t364] 38 (0, 0)) (by (with_reducible repeat (first | refine blk_drewN ?_ _ | refine blk_drew ?_ | refine blk_alloc ?_ _)); exact BK365.out) hb)
         replace BK366 := Aside0.mk (blk_below (g := gb366) (o := .cells #[.int .i64 (rd y367 t362), .string t363, .string t364] 38 (0, 0)) (by (with_reducible repeat (first | refine blk_drewN ?_ _ | refine blk_drew ?_ | refine blk_alloc ?_ _)); exact BK366.out) hb)
         replace HR394 := Aside0.mk (Kd.C_below (by repeat (first | (with_reducible exact HR394.out) | (with_reducible refine Kd.C_alloc ?_ _) | (with_reducible refine Kd.C_drewN ?_ _) | (with_reducible refine Kd.C_drew ?_) | exact HR394.out)) hb)
         replace HR399 := Aside0.mk (Kd.C_below (by repeat (first | (with_reducible exact HR399.out) | (with_reducible refine Kd.C_alloc ?_ _) | (with_reducible refine Kd.C_drewN ?_ _) | (with_reducible refine Kd.C_drew ?_) | exact HR399.out)) hb)
         replace HB := Aside0.mk (below_step (by repeat (first | (with_reducible first | exact HB.out | apply below_alloc | apply pw_below_drewN | apply below_drew1 | refine below_set ?_ GE357.out | refine below_set ?_ GE358.out | refine below_set ?_ GE365.out | refine below_set ?_ GE366.out) | exact HB.out)) hb)
         (try clear hb)
         (try clear hb2)
         (try clear hk)
         (try clear hi)
         refine hK.out _ _ trivial (fun hHeld => ?_)
         clear hK K
         refine norm_ (a' := ?_) ?_ ?_
         rotate_left
         ·show Act.put _ (some 62) _ = _
          simp only [Act.put, List.setIfInBounds_toArray, List.set_cons_zero, List.set_cons_succ, i64_w, i32_w]
          rfl
         refine pureS_ (i := 12) (N := some 63) (v := ?_) (a' := ?_) rfl rfl (any_of HT_.out (by kernel_rfl)) (fun _ _ _ h => h) (Or.inl ⟨by rfl, ?_⟩) ?_ ?_
         rotate_left; (· intro w'; go_simp; with_reducible rfl); rotate_left; (· simp only [Act.put, List.setIfInBounds_toArray, List.set_cons_zero, List.set_cons_succ, i64_w, i32_w]; rfl)
         refine pureS_ (i := 13) (N := some 64) (v := ?_) (a' := ?_) rfl rfl (any_of HT_.out (by kernel_rfl)) (fun _ _ _ h => h) (Or.inl ⟨by rfl, ?_⟩) ?_ ?_
         rotate_left; (· intro w'; go_simp; with_reducible rfl); rotate_left; (· simp only [Act.put, List.setIfInBounds_toArray, List.set_cons_zero, List.set_cons_succ, i64_w, i32_w]; rfl)
         refine done_ (done_of HT_.out (by kernel_rfl)) ?_
         try go_wp2
         go_meet
         case rel => exact ⟨_, ((t390 != t400)), fs_, H', ⟨by have := HJ7.out; first | omega | exact Nat.le_refl _⟩, ⟨by (with_reducible repeat (first | apply Kd.R_alloc | apply Kd.R_drewN | apply Kd.R_drew)); exact HO_7.out⟩, ⟨by (with_reducible repeat (first | refine blk_drewN ?_ _ | refine blk_drew ?_ | refine blk_alloc ?_ _)); exact BK357.out⟩, ⟨by (with_reducible repeat (first | refine blk_drewN ?_ _ | refine blk_drew ?_ | refine blk_alloc ?_ _)); exact BK358.out⟩, ⟨by (with_reducible repeat (first | refine blk_drewN ?_ _ | refine blk_drew ?_ | refine blk_alloc ?_ _)); exact BK365.out⟩, ⟨by (with_reducible repeat (first | refine blk_drewN ?_ _ | refine blk_drew ?_ | refine blk_alloc ?_ _)); exact BK366.out⟩, ⟨by repeat (first | (with_reducible first | exact HB.out | apply below_alloc | apply pw_below_drewN | apply below_drew1 | refine below_set ?_ GE357.out | refine below_set ?_ GE358.out | refine below_set ?_ GE365.out | refine below_set ?_ GE366.out) | exact HB.out)⟩⟩
        ·replace c90 := Bool.eq_false_iff.mpr c90
         subst c90
         have H1 : (drayagelaw03_LabelOpposite.j1 kj7 t359 (t390 != false)) = some true := by rw [if_neg (show ¬ (false = true) by decide)] at H; exact H
         clear H
         have H := H1
         clear H1
         have H' := Aside0.mk H
         clear H
         try go_wp2
         replace HO_7 := Aside0.mk (Kd.R_drew HO_7.out)
         replace HO389 := Aside0.mk (Kd.R_drew HO389.out)
         replace BK357 := Aside0.mk (blk_drew BK357.out)
         replace BK358 := Aside0.mk (blk_drew BK358.out)
         replace BK365 := Aside0.mk (blk_drew BK365.out)
         replace BK366 := Aside0.mk (blk_drew BK366.out)
         replace HB := Aside0.mk (below_drew1 HB.out)
         obtain ⟨Ao103, co103, eo103⟩ := Kd.R_slice HO389.out
         (first | subst eo103 | (injection eo103 with f1_ f2_ f3_; have f4_ := f1_.symm; have f5_ := f3_.symm; clear f1_ f2_ f3_; subst f4_; subst f5_))
         have q102 : (1 : Int) ≤ ((y387.length : Int) : Int) := of_decide_eq_true (by first | (with_reducible assumption) | assumption)
         obtain ⟨i0102, hi0102, _, hsz102, _⟩ := info_parts info38
         have hroom102 : y387.length ≤ co103 := (Kd.R_reads' HO389.out).2.1
         have hC102 : Kd.C k38 _ Ao103 y387.length y387 := (Kd.R_reads' HO389.out).2.2
         have hcut102 := cut_to (P := Try.prog) 26 38 .i64 Try.underlying26 hi0102 Ao103 y387.length co103 1 (by omega) q102 hroom102
         have hr102 := Kd.C_take (m := 1) hC102 (by omega)
         have hy102 : y391.length = (1 : Int).toNat := (by rw [Ny391.out, List.length_take]; omega)
         rw [← Ny391.out] at hr102
         rw [← hy102] at hcut102
         have HR394 := Aside0.mk hr102
         have HC394 := Aside0.mk (show y391.length ≤ co103 from by omega)
         clear hr102 hC102 hroom102 hi0102 hsz102
         have KY102 := Aside0.mk hy102
         clear hy102
         have KL102 := Aside0.mk (show 1 ≤ y387.length from by omega)
         replace q102 := eq_true q102
         obtain ⟨Ao104, co104, eo104⟩ := Kd.R_slice HO_7.out
         (first | subst eo104 | (injection eo104 with f1_ f2_ f3_; have f4_ := f1_.symm; have f5_ := f3_.symm; clear f1_ f2_ f3_; subst f4_; subst f5_))
         refine start_ (n := 14) (S := fun w' => True) (ds := []) #[false, false, false, false, false, false, false, false, false, false, false, false, false, false] (by kernel_rfl) rfl rfl trivial (fun hHeld => ?_); refine with_tabW drayagelaw03_LabelOpposite.tab8 drayagelaw03_LabelOpposite.bits8 (fun HT_ HW_ => ?_)
         generalize w85.drew = w101 at HO_7 HO389 BK357 BK358 BK365 BK366 HB HR394 hHeld ⊢
         refine pureS_ (i := 0) (N := some 51) (v := ?_) (a' := ?_) rfl rfl (any_of HT_.out (by kernel_rfl)) (fun _ _ _ h => h) (Or.inl ⟨by rfl, ?_⟩) ?_ ?_
         rotate_left; (· intro w'; go_simp; with_reducible rfl); rotate_left; (· simp only [Act.put, List.setIfInBounds_toArray, List.set_cons_zero, List.set_cons_succ, i64_w, i32_w]; rfl)
         refine pureS_ (i := 1) (N := some 52) (v := ?_) (a' := ?_) rfl rfl (any_of HT_.out (by kernel_rfl)) (fun _ _ _ h => h) (Or.inl ⟨by rfl, ?_⟩) ?_ ?_
         rotate_left; (· intro w'; go_simp; with_reducible rfl); rotate_left; (· simp only [Act.put, List.setIfInBounds_toArray, List.set_cons_zero, List.set_cons_succ, i64_w, i32_w]; rfl)
         refine pureS_ (i := 3) (N := some 54) (v := ?_) (a' := ?_) rfl rfl (any_of HT_.out (by kernel_rfl)) (fun _ _ _ h => h) (Or.inl ⟨by rfl, ?_⟩) ?_ ?_
         rotate_left; (· intro w'; go_simp; with_reducible rfl); rotate_left; (· simp only [Act.put, List.setIfInBounds_toArray, List.set_cons_zero, List.set_cons_succ, i64_w, i32_w]; rfl)
         refine pureS_ (i := 4) (N := some 55) (v := ?_) (a' := ?_) rfl rfl (any_of HT_.out (by kernel_rfl)) (fun _ _ _ h => h) (Or.inl ⟨by rfl, ?_⟩) ?_ ?_
         rotate_left; (· intro w'; go_simp; with_reducible rfl); rotate_left; (· simp only [Act.put, List.setIfInBounds_toArray, List.set_cons_zero, List.set_cons_succ, i64_w, i32_w]; rfl)
         refine pureS_ (i := 5) (N := some 56) (v := ?_) (a' := ?_) rfl rfl (any_of HT_.out (by kernel_rfl)) (fun _ _ _ h => h) (Or.inl ⟨by rfl, ?_⟩) ?_ ?_
         rotate_left; (· intro w'; go_simp; with_reducible rfl); rotate_left; (· simp only [Act.put, List.setIfInBounds_toArray, List.set_cons_zero, List.set_cons_succ, i64_w, i32_w]; rfl)
         refine oneS_ (i := 2) (N := some 53) rfl rfl (one_of HT_.out (by kernel_rfl)) (by decide) (fun K hK => ?_)
         refine goes_ Try.func19 (by kernel_rfl) rfl #[.slice Ao103 y387.length co103, .slice Ao104 t359.length co104] (by rfl) rfl rfl ca_ ?_
         with_reducible refine (label_Holds.calls kj7 _ _ y387 _ _ t359 t390 _ ?side1 ?side2 ?side3 ?side4 A87.out).mono ?_
         (case side1 => repeat (first | exact (Kd.R_reads' HO389.out).2.2 | (with_reducible refine Kd.C_alloc ?_ _) | (with_reducible refine Kd.C_drewN ?_ _) | (with_reducible refine Kd.C_drew ?_)))
         (case side2 => exact (Kd.R_reads' HO389.out).2.1)
         (case side3 => repeat (first | exact (Kd.R_reads' HO_7.out).2.2 | (with_reducible refine Kd.C_alloc ?_ _) | (with_reducible refine Kd.C_drewN ?_ _) | (with_reducible refine Kd.C_drew ?_)))
         (case side4 => exact (Kd.R_reads' HO_7.out).2.1)
         rintro e w105 ⟨rfl, hb⟩
         refine ⟨_, rfl, ?_⟩
         replace HO_7 := Aside0.mk (Kd.R_below (ra_ HO_7.out) hb)
         replace HO389 := Aside0.mk (Kd.R_below (ra_ HO389.out) hb)
         replace BK357 := Aside0.mk (blk_below (g := gb357) (o := .cells #[.int .i64 a1_0, .int .i64 a1_1, .int .i64 a1_2] 35 (0, 0)) (by (with_reducible repeat (first | refine blk_drewN ?_ _ | refine blk_drew ?_ | refine blk_alloc ?_ _)); exact BK357.out) hb)
         replace BK358 := Aside0.mk (blk_below (g := gb358) (o := .cells #[.int .i64 a2_0, .int .i64 a2_1, .int .i64 a2_2] 35 (0, 0)) (by (with_reducible repeat (first | refine blk_drewN ?_ _ | refine blk_drew ?_ | refine blk_alloc ?_ _)); exact BK358.out) hb)
         replace BK365 := Aside0.mk (blk_below (g := gb365) (o := .cells #[.int .i64 t362, .string t363, .string t364] 38 (0, 0)) (by (with_reducible repeat (first | refine blk_drewN ?_ _ | refine blk_drew ?_ | refine blk_alloc ?_ _)); exact BK365.out) hb)
         replace BK366 := Aside0.mk (blk_below (g := gb366) (o := .cells #[.int .i64 (rd y367 t362), .string t363, .string t364] 38 (0, 0)) (by (with_reducible repeat (first | refine blk_drewN ?_ _ | refine blk_drew ?_ | refine blk_alloc ?_ _)); exact BK366.out) hb)
         replace HR394 := Aside0.mk (Kd.C_below (by repeat (first | (with_reducible exact HR394.out) | (with_reducible refine Kd.C_alloc ?_ _) | (with_reducible refine Kd.C_drewN ?_ _) | (with_reducible refine Kd.C_drew ?_) | exact HR394.out)) hb)
         replace HB := Aside0.mk (below_step (by repeat (first | (with_reducible first | exact HB.out | apply below_alloc | apply pw_below_drewN | apply below_drew1 | refine below_set ?_ GE357.out | refine below_set ?_ GE358.out | refine below_set ?_ GE365.out | refine below_set ?_ GE366.out) | exact HB.out)) hb)
         (try clear hb)
         (try clear hb2)
         (try clear hk)
         (try clear hi)
         refine hK.out _ _ trivial (fun hHeld => ?_)
         clear hK K
         refine norm_ (a' := ?_) ?_ ?_
         rotate_left
         ·show Act.put _ (some 53) _ = _
          simp only [Act.put, List.setIfInBounds_toArray, List.set_cons_zero, List.set_cons_succ, i64_w, i32_w]
          rfl
         refine oneS_ (i := 6) (N := some 57) rfl rfl (one_of HT_.out (by kernel_rfl)) (by decide) (fun K hK => ?_)
         refine goes_ Try.func19 (by kernel_rfl) rfl #[.slice Ao103 y391.length co103, .slice Ao104 t359.length co104] (by rfl) rfl rfl ca_ ?_
         with_reducible refine (label_Holds.calls kj7 _ _ y391 _ _ t359 false _ ?side1 ?side2 ?side3 ?side4 A89.out).mono ?_
         (case side1 => repeat (first | exact (by repeat (first | (with_reducible exact HR394.out) | (with_reducible refine Kd.C_alloc ?_ _) | (with_reducible refine Kd.C_drewN ?_ _) | (with_reducible refine Kd.C_drew ?_) | exact HR394.out)) | (with_reducible refine Kd.C_alloc ?_ _) | (with_reducible refine Kd.C_drewN ?_ _) | (with_reducible refine Kd.C_drew ?_)))
         (case side2 => exact HC394.out)
         (case side3 => repeat (first | exact (Kd.R_reads' HO_7.out).2.2 | (with_reducible refine Kd.C_alloc ?_ _) | (with_reducible refine Kd.C_drewN ?_ _) | (with_reducible refine Kd.C_drew ?_)))
         (case side4 => exact (Kd.R_reads' HO_7.out).2.1)
         rintro e w106 ⟨rfl, hb⟩
         refine ⟨_, rfl, ?_⟩
         replace HO_7 := Aside0.mk (Kd.R_below (ra_ HO_7.out) hb)
         replace HO389 := Aside0.mk (Kd.R_below (ra_ HO389.out) hb)
         replace BK357 := Aside0.mk (blk_below (g := gb357) (o := .cells #[.int .i64 a1_0, .int .i64 a1_1, .int .i64 a1_2] 35 (0, 0)) (by (with_reducible repeat (first | refine blk_drewN ?_ _ | refine blk_drew ?_ | refine blk_alloc ?_ _)); exact BK357.out) hb)
         replace BK358 := Aside0.mk (blk_below (g := gb358) (o := .cells #[.int .i64 a2_0, .int .i64 a2_1, .int .i64 a2_2] 35 (0, 0)) (by (with_reducible repeat (first | refine blk_drewN ?_ _ | refine blk_drew ?_ | refine blk_alloc ?_ _)); exact BK358.out) hb)
         replace BK365 := Aside0.mk (blk_below (g := gb365) (o := .cells #[.int .i64 t362, .string t363, .string t364] 38 (0, 0)) (by (with_reducible repeat (first | refine blk_drewN ?_ _ | refine blk_drew ?_ | refine blk_alloc ?_ _)); exact BK365.out) hb)
         replace BK366 := Aside0.mk (blk_below (g := gb366) (o := .cells #[.int .i64 (rd y367 t362), .string t363, .string t364] 38 (0, 0)) (by (with_reducible repeat (first | refine blk_drewN ?_ _ | refine blk_drew ?_ | refine blk_alloc ?_ _)); exact BK366.out) hb)
         replace HR394 := Aside0.mk (Kd.C_below (by repeat (first | (with_reducible exact HR394.out) | (with_reducible refine Kd.C_alloc ?_ _) | (with_reducible refine Kd.C_drewN ?_ _) | (with_reducible refine Kd.C_drew ?_) | exact HR394.out)) hb)
         replace HB := Aside0.mk (below_step (by repeat (first | (with_reducible first | exact HB.out | apply below_alloc | apply pw_below_drewN | apply below_drew1 | refine below_set ?_ GE357.out | refine below_set ?_ GE358.out | refine below_set ?_ GE365.out | refine below_set ?_ GE366.out) | exact HB.out)) hb)
         (try clear hb)
         (try clear hb2)
         (try clear hk)
         (try clear hi)
         refine hK.out _ _ trivial (fun hHeld => ?_)
         clear hK K
         refine norm_ (a' := ?_) ?_ ?_
         rotate_left
         ·show Act.put _ (some 57) _ = _
          simp only [Act.put, List.setIfInBounds_toArray, List.set_cons_zero, List.set_cons_succ, i64_w, i32_w]
          rfl
         refine pureS_ (i := 7) (N := some 58) (v := ?_) (a' := ?_) rfl rfl (any_of HT_.out (by kernel_rfl)) (fun _ _ _ h => h) (Or.inl ⟨by rfl, ?_⟩) ?_ ?_
         rotate_left; (· intro w'; go_simp; with_reducible rfl); rotate_left; (· simp only [Act.put, List.setIfInBounds_toArray, List.set_cons_zero, List.set_cons_succ, i64_w, i32_w]; rfl)
         refine pureS_ (i := 8) (N := some 59) (v := undef) (a' := ?_) rfl rfl (any_of HT_.out (by kernel_rfl)) (fun _ _ _ h => h) (Or.inr ⟨by rfl, rfl⟩) ?_ ?_
         rotate_left
         ·simp only [Act.put, List.setIfInBounds_toArray, List.set_cons_zero, List.set_cons_succ, i64_w, i32_w]
          rfl
         refine pureS_ (i := 9) (N := some 60) (v := undef) (a' := ?_) rfl rfl (any_of HT_.out (by kernel_rfl)) (fun _ _ _ h => h) (Or.inr ⟨by rfl, rfl⟩) ?_ ?_
         rotate_left
         ·simp only [Act.put, List.setIfInBounds_toArray, List.set_cons_zero, List.set_cons_succ, i64_w, i32_w]
          rfl
         refine pureS_ (i := 10) (N := some 61) (v := undef) (a' := ?_) rfl rfl (any_of HT_.out (by kernel_rfl)) (fun _ _ _ h => h) (Or.inr ⟨by rfl, rfl⟩) ?_ ?_
         rotate_left
         ·simp only [Act.put, List.setIfInBounds_toArray, List.set_cons_zero, List.set_cons_succ, i64_w, i32_w]
          rfl
         refine pureS_ (i := 11) (N := some 62) (v := undef) (a' := ?_) rfl rfl (any_of HT_.out (by kernel_rfl)) (fun _ _ _ h => h) (Or.inr ⟨by rfl, rfl⟩) ?_ ?_
         rotate_left
         ·simp only [Act.put, List.setIfInBounds_toArray, List.set_cons_zero, List.set_cons_succ, i64_w, i32_w]
          rfl
         refine pureS_ (i := 12) (N := some 63) (v := ?_) (a' := ?_) rfl rfl (any_of HT_.out (by kernel_rfl)) (fun _ _ _ h => h) (Or.inl ⟨by rfl, ?_⟩) ?_ ?_
         rotate_left; (· intro w'; go_simp; with_reducible rfl); rotate_left; (· simp only [Act.put, List.setIfInBounds_toArray, List.set_cons_zero, List.set_cons_succ, i64_w, i32_w]; rfl)
         refine pureS_ (i := 13) (N := some 64) (v := ?_) (a' := ?_) rfl rfl (any_of HT_.out (by kernel_rfl)) (fun _ _ _ h => h) (Or.inl ⟨by rfl, ?_⟩) ?_ ?_
         rotate_left; (· intro w'; go_simp; with_reducible rfl); rotate_left; (· simp only [Act.put, List.setIfInBounds_toArray, List.set_cons_zero, List.set_cons_succ, i64_w, i32_w]; rfl)
         refine done_ (done_of HT_.out (by kernel_rfl)) ?_
         try go_wp2
         go_meet
         case rel => exact ⟨_, ((t390 != false)), fs_, H', ⟨by have := HJ7.out; first | omega | exact Nat.le_refl _⟩, ⟨by (with_reducible repeat (first | apply Kd.R_alloc | apply Kd.R_drewN | apply Kd.R_drew)); exact HO_7.out⟩, ⟨by (with_reducible repeat (first | refine blk_drewN ?_ _ | refine blk_drew ?_ | refine blk_alloc ?_ _)); exact BK357.out⟩, ⟨by (with_reducible repeat (first | refine blk_drewN ?_ _ | refine blk_drew ?_ | refine blk_alloc ?_ _)); exact BK358.out⟩, ⟨by (with_reducible repeat (first | refine blk_drewN ?_ _ | refine blk_drew ?_ | refine blk_alloc ?_ _)); exact BK365.out⟩, ⟨by (with_reducible repeat (first | refine blk_drewN ?_ _ | refine blk_drew ?_ | refine blk_alloc ?_ _)); exact BK366.out⟩, ⟨by repeat (first | (with_reducible first | exact HB.out | apply below_alloc | apply pw_below_drewN | apply below_drew1 | refine below_set ?_ GE357.out | refine below_set ?_ GE358.out | refine below_set ?_ GE365.out | refine below_set ?_ GE366.out) | exact HB.out)⟩⟩
       ·rw [if_neg c88] at H
        exact absurd H (by simp)
      case rest =>
       clear HC82
       (try clear c1); (try clear q1); (try clear p2); (try clear c8); (try clear c9); (try clear q9); (try clear q10); (try clear c19); (try clear c88); (try clear c88b0); (try clear c88b1); (try clear c90); (try clear c91); (try clear c91b0); (try clear q94); (try clear c99); (try clear q99); (try clear q102); (try clear q102); (try clear q94); (try clear q99)
       obtain ⟨kq, x64_81, rfl, HA, HJ81, HO_7, BK357, BK358, BK365, BK366, HB⟩ := hcut
       cases kq with
       | zero => exact absurd HA.out (by simp [drayagelaw03_LabelOpposite.j1])
       | succ kj81 =>
        have H := HA.out
        clear HA
        simp only [drayagelaw03_LabelOpposite.j1] at H
        by_cases c107 : x64_81 = true
        ·subst c107
         have H1 : (some false) = some true := by rw [if_pos rfl] at H; exact H
         have H := H1; cases H
        ·replace c107 := Bool.eq_false_iff.mpr c107
         subst c107
         have H1 : ((label_Bears.f t359 t359).bind fun t401 => (if t401 = true then ((label_Bears.f t359 ([] : List (S43))).bind fun t402 => (if t402 = true then ((label_Bears.f ([] : List (S43)) t359).bind fun t403 => (drayagelaw03_LabelOpposite.j2 kj81 t359 (t403 != ((t359.length : Int) == 0)))) else (drayagelaw03_LabelOpposite.j2 kj81 t359 true))) else (drayagelaw03_LabelOpposite.j2 kj81 t359 true))) = some true := by rw [if_neg (show ¬ (false = true) by decide)] at H; exact H
         clear H
         have H := H1
         clear H1
         have HC108 := Aside0.mk H
         clear H
         go_upto_region 10 with (fail)
         go_cut [81] (fun v81 wc => ∃ (kq : Nat) (x81_107 : Bool), v81 = .bool x81_107 ∧ Aside0 (drayagelaw03_LabelOpposite.j2 kq t359 x81_107 = some true) ∧ Aside0 (kq ≤ kj81) ∧ Aside0 (Kd.R k43 43 wc w.heap.size (fun _ => True) v360 t359) ∧ Aside0 (wc.heap[gb357]? = some (.cells #[.int .i64 a1_0, .int .i64 a1_1, .int .i64 a1_2] 35 (0, 0))) ∧ Aside0 (wc.heap[gb358]? = some (.cells #[.int .i64 a2_0, .int .i64 a2_1, .int .i64 a2_2] 35 (0, 0))) ∧ Aside0 (wc.heap[gb365]? = some (.cells #[.int .i64 t362, .string t363, .string t364] 38 (0, 0))) ∧ Aside0 (wc.heap[gb366]? = some (.cells #[.int .i64 (rd y367 t362), .string t363, .string t364] 38 (0, 0))) ∧ Aside0 (Below w.heap.size w wc))
         case first =>
          have H := HC108.out
          clear HC108
          replace H := Option.bind_eq_some_iff.mp H
          obtain ⟨t401, A1090, H⟩ := H
          try dsimp only at H
          have A109 := Aside0.mk A1090
          clear A1090
          by_cases c110 : t401 = true
          ·subst c110
           rw [if_pos rfl] at H
           replace H := Option.bind_eq_some_iff.mp H
           obtain ⟨t402, A1110, H⟩ := H
           try dsimp only at H
           have A111 := Aside0.mk A1110
           clear A1110
           by_cases c112 : t402 = true
           ·subst c112
            rw [if_pos rfl] at H
            replace H := Option.bind_eq_some_iff.mp H
            obtain ⟨t403, A1130, H⟩ := H
            try dsimp only at H
            have A113 := Aside0.mk A1130
            clear A1130
            have H' := Aside0.mk H
            clear H
            obtain ⟨Ao114, co114, eo114⟩ := Kd.R_slice HO_7.out
            subst eo114
            go_wp2_with (first | ((with_reducible refine gate_callee (f := 20) rfl ?_); refine goesL_ (some 67) rfl rfl Try.func20 (by kernel_rfl) rfl #[.slice Ao114 t359.length co114, .slice Ao114 t359.length co114] rfl ca_ ?_; (with_reducible refine (label_Bears.calls _ _ t359 _ _ t359 true _ ?side1 ?side2 ?side3 ?side4 A109.out).mono ?_); (case side1 => repeat (first | exact (Kd.R_reads' HO_7.out).2.2 | (with_reducible refine Kd.C_alloc ?_ _) | (with_reducible refine Kd.C_drewN ?_ _) | (with_reducible refine Kd.C_drew ?_))); (case side2 => exact (Kd.R_reads' HO_7.out).2.1); (case side3 => repeat (first | exact (Kd.R_reads' HO_7.out).2.2 | (with_reducible refine Kd.C_alloc ?_ _) | (with_reducible refine Kd.C_drewN ?_ _) | (with_reducible refine Kd.C_drew ?_))); (case side4 => exact (Kd.R_reads' HO_7.out).2.1); rintro e w115 ⟨rfl, hb⟩; refine ⟨_, rfl, ?_⟩; replace HO_7 := Aside0.mk (Kd.R_below (ra_ HO_7.out) hb); replace BK357 := Aside0.mk (blk_below (g := gb357) (o := .cells #[.int .i64 a1_0, .int .i64 a1_1, .int .i64 a1_2] 35 (0, 0)) (by (with_reducible repeat (first | refine blk_drewN ?_ _ | refine blk_drew ?_ | refine blk_alloc ?_ _)); exact BK357.out) hb); replace BK358 := Aside0.mk (blk_below (g := gb358) (o := .cells #[.int .i64 a2_0, .int .i64 a2_1, .int .i64 a2_2] 35 (0, 0)) (by (with_reducible repeat (first | refine blk_drewN ?_ _ | refine blk_drew ?_ | refine blk_alloc ?_ _)); exact BK358.out) hb); replace BK365 := Aside0.mk (blk_below (g := gb365) (o := .cells #[.int .i64 t362, .string t363, .string t364] 38 (0, 0)) (by (with_reducible repeat (first | refine blk_drewN ?_ _ | refine blk_drew ?_ | refine blk_alloc ?_ _)); exact BK365.out) hb); replace BK366 := Aside0.mk (blk_below (g := gb366) (o := .cells #[.int .i64 (rd y367 t362), .string t363, .string t364] 38 (0, 0)) (by (with_reducible repeat (first | refine blk_drewN ?_ _ | refine blk_drew ?_ | refine blk_alloc ?_ _)); exact BK366.out) hb); replace HB := Aside0.mk (below_step (by repeat (first | (with_reducible first | exact HB.out | apply below_alloc | apply pw_below_drewN | apply below_drew1 | refine below_set ?_ GE357.out | refine below_set ?_ GE358.out | refine below_set ?_ GE365.out | refine below_set ?_ GE366.out) | exact HB.out)) hb); (try clear hb); (try clear hb2); (try clear hk); (try clear hi)) | (go_at_call 20; (with_reducible refine (bears_nilR _ _ t359 true _ ?side1 ?side2 A111.out).mono ?_); (case side1 => repeat (first | exact (Kd.R_reads' HO_7.out).2.2 | (with_reducible refine Kd.C_alloc ?_ _) | (with_reducible refine Kd.C_drewN ?_ _) | (with_reducible refine Kd.C_drew ?_))); (case side2 => exact (Kd.R_reads' HO_7.out).2.1); rintro e w116 ⟨rfl, hb⟩; replace HO_7 := Aside0.mk (Kd.R_below (ra_ HO_7.out) hb); replace BK357 := Aside0.mk (blk_below (g := gb357) (o := .cells #[.int .i64 a1_0, .int .i64 a1_1, .int .i64 a1_2] 35 (0, 0)) (by (with_reducible repeat (first | refine blk_drewN ?_ _ | refine blk_drew ?_ | refine blk_alloc ?_ _)); exact BK357.out) hb); replace BK358 := Aside0.mk (blk_below (g := gb358) (o := .cells #[.int .i64 a2_0, .int .i64 a2_1, .int .i64 a2_2] 35 (0, 0)) (by (with_reducible repeat (first | refine blk_drewN ?_ _ | refine blk_drew ?_ | refine blk_alloc ?_ _)); exact BK358.out) hb); replace BK365 := Aside0.mk (blk_below (g := gb365) (o := .cells #[.int .i64 t362, .string t363, .string t364] 38 (0, 0)) (by (with_reducible repeat (first | refine blk_drewN ?_ _ | refine blk_drew ?_ | refine blk_alloc ?_ _)); exact BK365.out) hb); replace BK366 := Aside0.mk (blk_below (g := gb366) (o := .cells #[.int .i64 (rd y367 t362), .string t363, .string t364] 38 (0, 0)) (by (with_reducible repeat (first | refine blk_drewN ?_ _ | refine blk_drew ?_ | refine blk_alloc ?_ _)); exact BK366.out) hb); replace HB := Aside0.mk (below_step (by repeat (first | (with_reducible first | exact HB.out | apply below_alloc | apply pw_below_drewN | apply below_drew1 | refine below_set ?_ GE357.out | refine below_set ?_ GE358.out | refine below_set ?_ GE365.out | refine below_set ?_ GE366.out) | exact HB.out)) hb); (try clear hb); (try clear hb2); (try clear hk); (try clear hi)) | (go_at_call 20; (with_reducible refine (bears_nilL _ _ t359 t403 _ ?side3 ?side4 A113.out).mono ?_); (case side3 => repeat (first | exact (Kd.R_reads' HO_7.out).2.2 | (with_reducible refine Kd.C_alloc ?_ _) | (with_reducible refine Kd.C_drewN ?_ _) | (with_reducible refine Kd.C_drew ?_))); (case side4 => exact (Kd.R_reads' HO_7.out).2.1); rintro e w117 ⟨rfl, hb⟩; replace HO_7 := Aside0.mk (Kd.R_below (ra_ HO_7.out) hb); replace BK357 := Aside0.mk (blk_below (g := gb357) (o := .cells #[.int .i64 a1_0, .int .i64 a1_1, .int .i64 a1_2] 35 (0, 0)) (by (with_reducible repeat (first | refine blk_drewN ?_ _ | refine blk_drew ?_ | refine blk_alloc ?_ _)); exact BK357.out) hb); replace BK358 := Aside0.mk (blk_below (g := gb358) (o := .cells #[.int .i64 a2_0, .int .i64 a2_1, .int .i64 a2_2] 35 (0, 0)) (by (with_reducible repeat (first | refine blk_drewN ?_ _ | refine blk_drew ?_ | refine blk_alloc ?_ _)); exact BK358.out) hb); replace BK365 := Aside0.mk (blk_below (g := gb365) (o := .cells #[.int .i64 t362, .string t363, .string t364] 38 (0, 0)) (by (with_reducible repeat (first | refine blk_drewN ?_ _ | refine blk_drew ?_ | refine blk_alloc ?_ _)); exact BK365.out) hb); replace BK366 := Aside0.mk (blk_below (g := gb366) (o := .cells #[.int .i64 (rd y367 t362), .string t363, .string t364] 38 (0, 0)) (by (with_reducible repeat (first | refine blk_drewN ?_ _ | refine blk_drew ?_ | refine blk_alloc ?_ _)); exact BK366.out) hb); replace HB := Aside0.mk (below_step (by repeat (first | (with_reducible first | exact HB.out | apply below_alloc | apply pw_below_drewN | apply below_drew1 | refine below_set ?_ GE357.out | refine below_set ?_ GE358.out | refine below_set ?_ GE365.out | refine below_set ?_ GE366.out) | exact HB.out)) hb); (try clear hb); (try clear hb2); (try clear hk); (try clear hi)))
            go_meet
            case rel => exact ⟨_, ((t403 != ((t359.length : Int) == 0))), fs_, H', ⟨by have := HJ7.out; have := HJ81.out; first | omega | exact Nat.le_refl _⟩, ⟨by (with_reducible repeat (first | apply Kd.R_alloc | apply Kd.R_drewN | apply Kd.R_drew)); exact HO_7.out⟩, ⟨by (with_reducible repeat (first | refine blk_drewN ?_ _ | refine blk_drew ?_ | refine blk_alloc ?_ _)); exact BK357.out⟩, ⟨by (with_reducible repeat (first | refine blk_drewN ?_ _ | refine blk_drew ?_ | refine blk_alloc ?_ _)); exact BK358.out⟩, ⟨by (with_reducible repeat (first | refine blk_drewN ?_ _ | refine blk_drew ?_ | refine blk_alloc ?_ _)); exact BK365.out⟩, ⟨by (with_reducible repeat (first | refine blk_drewN ?_ _ | refine blk_drew ?_ | refine blk_alloc ?_ _)); exact BK366.out⟩, ⟨by repeat (first | (with_reducible first | exact HB.out | apply below_alloc | apply pw_below_drewN | apply below_drew1 | refine below_set ?_ GE357.out | refine below_set ?_ GE358.out | refine below_set ?_ GE365.out | refine below_set ?_ GE366.out) | exact HB.out)⟩⟩
           ·replace c112 := Bool.eq_false_iff.mpr c112
            subst c112
            have H1 : (drayagelaw03_LabelOpposite.j2 kj81 t359 true) = some true := by rw [if_neg (show ¬ (false = true) by decide)] at H; exact H
            have H := H1; exact (drayagelaw03_LabelOpposite.j2.dead H).elim
          ·replace c110 := Bool.eq_false_iff.mpr c110
           subst c110
           have H1 : (drayagelaw03_LabelOpposite.j2 kj81 t359 true) = some true := by rw [if_neg (show ¬ (false = true) by decide)] at H; exact H
           have H := H1; exact (drayagelaw03_LabelOpposite.j2.dead H).elim
         case rest =>
          clear HC108
          (try clear c1); (try clear q1); (try clear c2); (try clear p2); (try clear c8); (try clear c9); (try clear q9); (try clear c10); (try clear q10); (try clear c11); (try clear c19); (try clear c20); (try clear c88); (try clear c88b0); (try clear c88b1); (try clear c90); (try clear c91); (try clear c91b0); (try clear q94); (try clear c99); (try clear q99); (try clear q102); (try clear c107); (try clear c110); (try clear c112); (try clear p2); (try clear q1); (try clear q10); (try clear q102); (try clear q9); (try clear q94); (try clear q99)
          obtain ⟨kq, x81_107, rfl, HA, HJ107, HO_7, BK357, BK358, BK365, BK366, HB⟩ := hcut
          cases kq with
          | zero => exact absurd HA.out (by simp [drayagelaw03_LabelOpposite.j2])
          | succ kj107 =>
           have H := HA.out
           clear HA
           simp only [drayagelaw03_LabelOpposite.j2] at H
           by_cases c123 : x81_107 = true
           ·subst c123
            have H1 : (some false) = some true := by rw [if_pos rfl] at H; exact H
            have H := H1; cases H
           ·replace c123 := Bool.eq_false_iff.mpr c123
            subst c123
            have H1 : (drayagelaw03_LabelOpposite.l0 kj107 t359 0) = some true := by rw [if_neg (show ¬ (false = true) by decide)] at H; exact H
            clear H
            have H := H1
            clear H1
            have H' := Aside0.mk H
            clear H
            go_wp2
            go_loopg [11] kj107 (fun kq v11 w' => ∃ (x11_4 : Int), v11 = .int .i64 x11_4 ∧ Aside0 (drayagelaw03_LabelOpposite.l0 kq t359 x11_4 = some true) ∧ Aside0 (kq ≤ kj107) ∧ Aside0 (Kd.R k43 43 w' w.heap.size (fun _ => True) v360 t359) ∧ Aside0 (w'.heap[gb357]? = some (.cells #[.int .i64 a1_0, .int .i64 a1_1, .int .i64 a1_2] 35 (0, 0))) ∧ Aside0 (w'.heap[gb358]? = some (.cells #[.int .i64 a2_0, .int .i64 a2_1, .int .i64 a2_2] 35 (0, 0))) ∧ Aside0 (w'.heap[gb365]? = some (.cells #[.int .i64 t362, .string t363, .string t364] 38 (0, 0))) ∧ Aside0 (w'.heap[gb366]? = some (.cells #[.int .i64 (rd y367 t362), .string t363, .string t364] 38 (0, 0))) ∧ Aside0 (Below w.heap.size w w'))
            case atStart => exact ⟨(0), fs_, H', ⟨Nat.le_refl _⟩, ⟨by (with_reducible repeat (first | apply Kd.R_alloc | apply Kd.R_drewN | apply Kd.R_drew)); exact HO_7.out⟩, ⟨by (with_reducible repeat (first | refine blk_drewN ?_ _ | refine blk_drew ?_ | refine blk_alloc ?_ _)); exact BK357.out⟩, ⟨by (with_reducible repeat (first | refine blk_drewN ?_ _ | refine blk_drew ?_ | refine blk_alloc ?_ _)); exact BK358.out⟩, ⟨by (with_reducible repeat (first | refine blk_drewN ?_ _ | refine blk_drew ?_ | refine blk_alloc ?_ _)); exact BK365.out⟩, ⟨by (with_reducible repeat (first | refine blk_drewN ?_ _ | refine blk_drew ?_ | refine blk_alloc ?_ _)); exact BK366.out⟩, ⟨by repeat (first | (with_reducible first | exact HB.out | apply below_alloc | apply pw_below_drewN | apply below_drew1 | refine below_set ?_ GE357.out | refine below_set ?_ GE358.out | refine below_set ?_ GE365.out | refine below_set ?_ GE366.out) | exact HB.out)⟩⟩
            case round =>
             clear H'
             (try clear c1); (try clear q1); (try clear c2); (try clear p2); (try clear c8); (try clear c9); (try clear q9); (try clear c10); (try clear q10); (try clear c11); (try clear c12); (try clear c19); (try clear c20); (try clear c88); (try clear c88b0); (try clear c88b1); (try clear c90); (try clear c91); (try clear c91b0); (try clear q94); (try clear c99); (try clear q99); (try clear q102); (try clear c107); (try clear c110); (try clear c112); (try clear c123); (try clear p2); (try clear q1); (try clear q10); (try clear q102); (try clear q9); (try clear q94); (try clear q99)
             obtain ⟨x11_4, rfl, HA, HK4, HO_7, BK357, BK358, BK365, BK366, HB⟩ := hrel
             cases gk with
             | zero => exact absurd HA.out (by simp [drayagelaw03_LabelOpposite.l0])
             | succ k4 =>
              have H := HA.out
              clear HA
              simp only [drayagelaw03_LabelOpposite.l0] at H
              by_cases c124 : x11_4 < (t359.length : Int)
              ·rw [if_pos c124] at H
               have c124b0 : decide (x11_4 < (t359.length : Int)) = true := decide_eq_true c124
               clear c124
               obtain ⟨y405, hy405⟩ : ∃ y_ : List (S43), y_ = (([] : List (S43))) := ⟨_, rfl⟩
               replace H : (if 0 ≤ x11_4 then (if x11_4 ≤ (t359.length : Int) then ((some (t359.take (x11_4 : Int).toNat : List (S43))).bind fun y408 => (if y405.length + y408.length < 4398046511104 then ((some (y405 ++ y408 : List (S43))).bind fun y412 => (if 0 ≤ (wrap64 (x11_4 + 1)) then (if (wrap64 (x11_4 + 1)) ≤ (t359.length : Int) then ((some (t359.drop ((wrap64 (x11_4 + 1)) : Int).toNat : List (S43))).bind fun y415 => (if y412.length + y415.length < 4398046511104 then ((some (y412 ++ y415 : List (S43))).bind fun y419 => ((label_Bears.f y419 t359).bind fun t422 => (if t422 = true then (drayagelaw03_LabelOpposite.j4 k4 t359 x11_4 true) else ((label_Bears.f t359 y419).bind fun t423 => (if t423 = true then (if y419.length < 4398046511104 then ((label_Bears.f (y419 ++ [(⟨(rd_T43 t359 x11_4).f0, (⟨#[42]⟩ : ByteArray)⟩ : S43)]) t359).bind fun t428 => (drayagelaw03_LabelOpposite.j4 k4 t359 x11_4 (!t428))) else (none)) else (drayagelaw03_LabelOpposite.j4 k4 t359 x11_4 true)))))) else (none))) else (none)) else (none))) else (none))) else (none)) else (none)) = some true := by first | (rw [hy405]; with_reducible exact H) | (have H2_ := (Option.bind_some _ _).symm.trans H; rw [hy405]; with_reducible exact H2_) | (have H2_ := (Option.bind_some _ _).symm.trans H; with_reducible exact H2_) | with_reducible exact H | (rw [hy405]; exact H) | exact H
               have Ny405 := Aside0.mk hy405
               clear hy405
               by_cases c125 : 0 ≤ x11_4
               ·rw [if_pos c125] at H
                have c125b0 := eq_true c125
                have c125b1 : decide (0 ≤ x11_4) = true := decide_eq_true c125
                clear c125
                by_cases c126 : x11_4 ≤ (t359.length : Int)
                ·rw [if_pos c126] at H
                 have c126b0 := eq_true c126
                 have c126b1 : decide (x11_4 ≤ (t359.length : Int)) = true := decide_eq_true c126
                 clear c126
                 obtain ⟨y408, hy408⟩ : ∃ y_ : List (S43), y_ = (t359.take (x11_4 : Int).toNat) := ⟨_, rfl⟩
                 replace H : (if y405.length + y408.length < 4398046511104 then ((some (y405 ++ y408 : List (S43))).bind fun y412 => (if 0 ≤ (wrap64 (x11_4 + 1)) then (if (wrap64 (x11_4 + 1)) ≤ (t359.length : Int) then ((some (t359.drop ((wrap64 (x11_4 + 1)) : Int).toNat : List (S43))).bind fun y415 => (if y412.length + y415.length < 4398046511104 then ((some (y412 ++ y415 : List (S43))).bind fun y419 => ((label_Bears.f y419 t359).bind fun t422 => (if t422 = true then (drayagelaw03_LabelOpposite.j4 k4 t359 x11_4 true) else ((label_Bears.f t359 y419).bind fun t423 => (if t423 = true then (if y419.length < 4398046511104 then ((label_Bears.f (y419 ++ [(⟨(rd_T43 t359 x11_4).f0, (⟨#[42]⟩ : ByteArray)⟩ : S43)]) t359).bind fun t428 => (drayagelaw03_LabelOpposite.j4 k4 t359 x11_4 (!t428))) else (none)) else (drayagelaw03_LabelOpposite.j4 k4 t359 x11_4 true)))))) else (none))) else (none)) else (none))) else (none)) = some true := by first | (rw [hy408]; with_reducible exact H) | (have H2_ := (Option.bind_some _ _).symm.trans H; rw [hy408]; with_reducible exact H2_) | (have H2_ := (Option.bind_some _ _).symm.trans H; with_reducible exact H2_) | with_reducible exact H | (rw [hy408]; exact H) | exact H
                 have Ny408 := Aside0.mk hy408
                 clear hy408
                 by_cases c127 : y405.length + y408.length < 4398046511104
                 ·rw [if_pos c127] at H
                  have LMc127 := Aside0.mk c127
                  clear c127
                  obtain ⟨y412, hy412⟩ : ∃ y_ : List (S43), y_ = (y405 ++ y408) := ⟨_, rfl⟩
                  replace H : (if 0 ≤ (wrap64 (x11_4 + 1)) then (if (wrap64 (x11_4 + 1)) ≤ (t359.length : Int) then ((some (t359.drop ((wrap64 (x11_4 + 1)) : Int).toNat : List (S43))).bind fun y415 => (if y412.length + y415.length < 4398046511104 then ((some (y412 ++ y415 : List (S43))).bind fun y419 => ((label_Bears.f y419 t359).bind fun t422 => (if t422 = true then (drayagelaw03_LabelOpposite.j4 k4 t359 x11_4 true) else ((label_Bears.f t359 y419).bind fun t423 => (if t423 = true then (if y419.length < 4398046511104 then ((label_Bears.f (y419 ++ [(⟨(rd_T43 t359 x11_4).f0, (⟨#[42]⟩ : ByteArray)⟩ : S43)]) t359).bind fun t428 => (drayagelaw03_LabelOpposite.j4 k4 t359 x11_4 (!t428))) else (none)) else (drayagelaw03_LabelOpposite.j4 k4 t359 x11_4 true)))))) else (none))) else (none)) else (none)) = some true := by first | (rw [hy412]; with_reducible exact H) | (have H2_ := (Option.bind_some _ _).symm.trans H; rw [hy412]; with_reducible exact H2_) | (have H2_ := (Option.bind_some _ _).symm.trans H; with_reducible exact H2_) | with_reducible exact H | (rw [hy412]; exact H) | exact H
                  have Ny412 := Aside0.mk hy412
                  clear hy412
                  obtain ⟨ji128, hji128⟩ : ∃ j_ : Int, (wrap64 (x11_4 + 1)) = j_ := ⟨_, rfl⟩
                  replace H : (if 0 ≤ (ji128) then (if (ji128) ≤ (t359.length : Int) then ((some (t359.drop ((ji128) : Int).toNat : List (S43))).bind fun y415 => (if y412.length + y415.length < 4398046511104 then ((some (y412 ++ y415 : List (S43))).bind fun y419 => ((label_Bears.f y419 t359).bind fun t422 => (if t422 = true then (drayagelaw03_LabelOpposite.j4 k4 t359 x11_4 true) else ((label_Bears.f t359 y419).bind fun t423 => (if t423 = true then (if y419.length < 4398046511104 then ((label_Bears.f (y419 ++ [(⟨(rd_T43 t359 x11_4).f0, (⟨#[42]⟩ : ByteArray)⟩ : S43)]) t359).bind fun t428 => (drayagelaw03_LabelOpposite.j4 k4 t359 x11_4 (!t428))) else (none)) else (drayagelaw03_LabelOpposite.j4 k4 t359 x11_4 true)))))) else (none))) else (none)) else (none)) = some true := by first | (rw [hji128] at H; exact H) | (simp only [hji128] at H ⊢; exact H)
                  have hji128w : (IntKind.i64.wrap (x11_4 + 1)) = ji128 := (i64_w _).trans hji128
                  by_cases c129 : 0 ≤ (ji128)
                  ·rw [if_pos c129] at H
                   have c129b0 := eq_true c129
                   have c129b1 : decide (0 ≤ (ji128)) = true := decide_eq_true c129
                   clear c129
                   by_cases c130 : (ji128) ≤ (t359.length : Int)
                   ·rw [if_pos c130] at H
                    have c130b0 := eq_true c130
                    have c130b1 : decide ((ji128) ≤ (t359.length : Int)) = true := decide_eq_true c130
                    clear c130
                    obtain ⟨y415, hy415⟩ : ∃ y_ : List (S43), y_ = (t359.drop ((ji128) : Int).toNat) := ⟨_, rfl⟩
                    replace H : (if y412.length + y415.length < 4398046511104 then ((some (y412 ++ y415 : List (S43))).bind fun y419 => ((label_Bears.f y419 t359).bind fun t422 => (if t422 = true then (drayagelaw03_LabelOpposite.j4 k4 t359 x11_4 true) else ((label_Bears.f t359 y419).bind fun t423 => (if t423 = true then (if y419.length < 4398046511104 then ((label_Bears.f (y419 ++ [(⟨(rd_T43 t359 x11_4).f0, (⟨#[42]⟩ : ByteArray)⟩ : S43)]) t359).bind fun t428 => (drayagelaw03_LabelOpposite.j4 k4 t359 x11_4 (!t428))) else (none)) else (drayagelaw03_LabelOpposite.j4 k4 t359 x11_4 true)))))) else (none)) = some true := by first | (rw [hy415]; with_reducible exact H) | (have H2_ := (Option.bind_some _ _).symm.trans H; rw [hy415]; with_reducible exact H2_) | (have H2_ := (Option.bind_some _ _).symm.trans H; with_reducible exact H2_) | with_reducible exact H | (rw [hy415]; exact H) | exact H
                    have Ny415 := Aside0.mk hy415
                    clear hy415
                    by_cases c131 : y412.length + y415.length < 4398046511104
                    ·rw [if_pos c131] at H
                     have LMc131 := Aside0.mk c131
                     clear c131
                     obtain ⟨y419, hy419⟩ : ∃ y_ : List (S43), y_ = (y412 ++ y415) := ⟨_, rfl⟩
                     replace H : ((label_Bears.f y419 t359).bind fun t422 => (if t422 = true then (drayagelaw03_LabelOpposite.j4 k4 t359 x11_4 true) else ((label_Bears.f t359 y419).bind fun t423 => (if t423 = true then (if y419.length < 4398046511104 then ((label_Bears.f (y419 ++ [(⟨(rd_T43 t359 x11_4).f0, (⟨#[42]⟩ : ByteArray)⟩ : S43)]) t359).bind fun t428 => (drayagelaw03_LabelOpposite.j4 k4 t359 x11_4 (!t428))) else (none)) else (drayagelaw03_LabelOpposite.j4 k4 t359 x11_4 true))))) = some true := by first | (rw [hy419]; with_reducible exact H) | (have H2_ := (Option.bind_some _ _).symm.trans H; rw [hy419]; with_reducible exact H2_) | (have H2_ := (Option.bind_some _ _).symm.trans H; with_reducible exact H2_) | with_reducible exact H | (rw [hy419]; exact H) | exact H
                     have Ny419 := Aside0.mk hy419
                     clear hy419
                     have HC132 := Aside0.mk H
                     clear H
                     obtain ⟨Ao133, co133, eo133⟩ := Kd.R_slice HO_7.out
                     subst eo133
                     try go_wp2
                     replace HO_7 := Aside0.mk (Kd.R_drew HO_7.out)
                     replace BK357 := Aside0.mk (blk_drew BK357.out)
                     replace BK358 := Aside0.mk (blk_drew BK358.out)
                     replace BK365 := Aside0.mk (blk_drew BK365.out)
                     replace BK366 := Aside0.mk (blk_drew BK366.out)
                     replace HB := Aside0.mk (below_drew1 HB.out)
                     have q135 : (x11_4 : Int) ≤ ((t359.length : Int) : Int) := of_decide_eq_true (by first | (with_reducible assumption) | assumption)
                     obtain ⟨i0135, hi0135, _, hsz135, _⟩ := info_parts info43
                     have hroom135 : t359.length ≤ co133 := (Kd.R_reads' HO_7.out).2.1
                     have hC135 : Kd.C k43 _ Ao133 t359.length t359 := (Kd.R_reads' HO_7.out).2.2
                     have hcut135 := cut_to (P := Try.prog) 22 43 .i64 Try.underlying22 hi0135 Ao133 t359.length co133 x11_4 (of_decide_eq_true (by first | (with_reducible assumption) | assumption)) q135 hroom135
                     have hr135 := Kd.C_take (m := (x11_4 : Int).toNat) hC135 (by omega)
                     have hy135 : y408.length = (x11_4 : Int).toNat := (by rw [Ny408.out, List.length_take]; omega)
                     rw [← Ny408.out] at hr135
                     rw [← hy135] at hcut135
                     have HR411 := Aside0.mk hr135
                     have HC411 := Aside0.mk (show y408.length ≤ co133 from by omega)
                     clear hr135 hC135 hroom135 hi0135 hsz135
                     have KY135 := Aside0.mk hy135
                     clear hy135
                     have KL135 := Aside0.mk (show (x11_4 : Int).toNat ≤ t359.length from by omega)
                     replace q135 := eq_true q135
                     have q136 : ((ji128) : Int) ≤ ((t359.length : Int) : Int) := of_decide_eq_true (by first | (with_reducible assumption) | assumption)
                     obtain ⟨i0136, hi0136, _, hsz136, _⟩ := info_parts info43
                     have hroom136 : t359.length ≤ co133 := (Kd.R_reads' HO_7.out).2.1
                     have hC136 : Kd.C k43 _ Ao133 t359.length t359 := (Kd.R_reads' HO_7.out).2.2
                     have q0136 : (0 : Int) ≤ ((ji128) : Int) := of_decide_eq_true (by first | (with_reducible assumption) | assumption)
                     have hcut136 := cut_from (P := Try.prog) 22 43 .i64 Try.underlying22 hi0136 2 hsz136 Ao133 t359.length co133 (ji128) q0136 q136
                     have hr136 := Kd.C_drop (m := ((ji128) : Int).toNat) (c := co133) hC136 (by omega) hroom136
                     obtain ⟨A136, hA136⟩ : ∃ A1, A1 = (if co133 = ((ji128) : Int).toNat then Ao133 else (Ao133 : Option Addr).map (·.add (((ji128) : Int).toNat * 2))) := ⟨_, rfl⟩
                     obtain ⟨c136, hc136⟩ : ∃ c1, c1 = co133 - ((ji128) : Int).toNat := ⟨_, rfl⟩
                     have hy136 : y415.length = t359.length - ((ji128) : Int).toNat := (by rw [Ny415.out, List.length_drop] <;> omega)
                     rw [show (t359).drop ((ji128) : Int).toNat = y415 from Ny415.out.symm] at hr136
                     replace hr136 : Kd.C k43 _ A136 y415.length y415 := (by rw [hA136]; exact hr136)
                     rw [← hy136, ← hA136, ← hc136] at hcut136
                     have HR418 := Aside0.mk hr136
                     have HC418 := Aside0.mk (show y415.length ≤ c136 from by rw [hy136, hc136]; exact Nat.sub_le_sub_right hroom136 _)
                     clear hr136 hC136 hroom136 hi0136 hsz136 hc136
                     have KY136 := Aside0.mk hy136
                     have KA136 := Aside0.mk hA136
                     clear hy136 hA136
                     have KL136 := Aside0.mk (show ((ji128) : Int).toNat ≤ t359.length from by omega)
                     replace q136 := eq_true q136
                     refine start_ (n := 11) (S := fun w' => True) (ds := []) #[false, false, false, false, false, false, false, false, false, false, false] (by kernel_rfl) rfl rfl trivial (fun hHeld => ?_); refine with_tabW drayagelaw03_LabelOpposite.tab15 drayagelaw03_LabelOpposite.bits15 (fun HT_ HW_ => ?_)
                     generalize wr.drew = w134 at HO_7 BK357 BK358 BK365 BK366 HB HR411 HR418 hHeld ⊢
                     refine pureS_ (i := 1) (N := some 89) (v := ?_) (a' := ?_) rfl rfl (any_of HT_.out (by kernel_rfl)) (fun _ _ _ h => h) (Or.inl ⟨by rfl, ?_⟩) ?_ ?_
                     rotate_left; (· intro w'; go_simp; with_reducible rfl); rotate_left; (· simp only [Act.put, List.setIfInBounds_toArray, List.set_cons_zero, List.set_cons_succ, i64_w, i32_w]; rfl)
                     refine pureS_ (i := 2) (N := some 90) (v := ?_) (a' := ?_) rfl rfl (any_of HT_.out (by kernel_rfl)) (fun _ _ _ h => h) (Or.inl ⟨by rfl, ?_⟩) ?_ ?_
                     rotate_left; (· intro w'; go_simp; with_reducible rfl); rotate_left; (· simp only [Act.put, List.setIfInBounds_toArray, List.set_cons_zero, List.set_cons_succ, i64_w, i32_w]; rfl)
                     refine pureS_ (i := 3) (N := some 91) (v := ?_) (a' := ?_) rfl rfl (any_of HT_.out (by kernel_rfl)) (fun _ _ _ h => h) (Or.inl ⟨by rfl, ?_⟩) ?_ ?_
                     rotate_left; (· intro w'; go_simp; with_reducible rfl); rotate_left; (· simp only [Act.put, List.setIfInBounds_toArray, List.set_cons_zero, List.set_cons_succ, i64_w, i32_w]; rfl)
                     refine pureS_ (i := 5) (N := some 93) (v := ?_) (a' := ?_) rfl rfl (any_of HT_.out (by kernel_rfl)) (fun _ _ _ h => h) (Or.inl ⟨by rfl, ?_⟩) ?_ ?_
                     rotate_left; (· intro w'; go_simp; with_reducible rfl); rotate_left; (· simp only [Act.put, List.setIfInBounds_toArray, List.set_cons_zero, List.set_cons_succ, i64_w, i32_w]; rfl)
                     refine pureS_ (i := 6) (N := some 94) (v := ?_) (a' := ?_) rfl rfl (any_of HT_.out (by kernel_rfl)) (fun _ _ _ h => h) (Or.inl ⟨by rfl, ?_⟩) ?_ ?_
                     rotate_left; (· intro w'; go_simp; with_reducible rfl); rotate_left; (· simp only [Act.put, List.setIfInBounds_toArray, List.set_cons_zero, List.set_cons_succ, i64_w, i32_w]; rfl)
                     refine pureS_ (i := 7) (N := some 95) (v := ?_) (a' := ?_) rfl rfl (any_of HT_.out (by kernel_rfl)) (fun _ _ _ h => h) (Or.inl ⟨by rfl, ?_⟩) ?_ ?_
                     rotate_left; (· intro w'; go_simp; with_reducible rfl); rotate_left; (· simp only [Act.put, List.setIfInBounds_toArray, List.set_cons_zero, List.set_cons_succ, i64_w, i32_w]; rfl)
                     refine pureS_ (i := 8) (N := some 96) (v := ?_) (a' := ?_) rfl rfl (any_of HT_.out (by kernel_rfl)) (fun _ _ _ h => h) (Or.inl ⟨by rfl, ?_⟩) ?_ ?_
                     rotate_left; (· intro w'; go_simp; with_reducible rfl); rotate_left; (· simp only [Act.put, List.setIfInBounds_toArray, List.set_cons_zero, List.set_cons_succ, i64_w, i32_w]; rfl)
                     refine oneS_ (i := 0) (N := some 88) rfl rfl (one_of HT_.out (by kernel_rfl)) (by decide) (fun K hK => ?_)
                     refine Kd.R_lit_step k43 _ 43 ?hg (N := 88) ?hd (xs := ([] : List (S43))) (inner := []) (ok := fun _ => True) (okp := fun _ => True) ?hr ?hp (fun _ hk => hk) trivial (Below.refl _ _) (Nat.le_refl _) (by simp) ?_; (case hd => rfl); (case hg => rfl); (case hr => first | (go_simp; done) | (go_simp; rfl)); (case hp => exact (Reps.none _ _))
                     intro v406 w137 ho138 hb hg_ hnew_
                     clear hg_ hnew_
                     (first | rw [← Ny405.out] at ho138 | (simp only [Int.reduceToNat] at ho138; rw [← Ny405.out] at ho138))
                     have HO407 := Aside0.mk (Kd.R_lower (Kd.R_new' ho138 (Kd.R_lt (ra_ HO_7.out))) (below_size (by repeat (first | (with_reducible first | exact HB.out | apply below_alloc | apply pw_below_drewN | apply below_drew1 | refine below_set ?_ GE357.out | refine below_set ?_ GE358.out | refine below_set ?_ GE365.out | refine below_set ?_ GE366.out) | exact HB.out))))
                     replace HO_7 := Aside0.mk (Kd.R_elder' (ra_ HO_7.out) (Kd.R_base ho138) hb)
                     replace BK357 := Aside0.mk (blk_below (g := gb357) (o := .cells #[.int .i64 a1_0, .int .i64 a1_1, .int .i64 a1_2] 35 (0, 0)) (by (with_reducible repeat (first | refine blk_drewN ?_ _ | refine blk_drew ?_ | refine blk_alloc ?_ _)); exact BK357.out) hb)
                     replace BK358 := Aside0.mk (blk_below (g := gb358) (o := .cells #[.int .i64 a2_0, .int .i64 a2_1, .int .i64 a2_2] 35 (0, 0)) (by (with_reducible repeat (first | refine blk_drewN ?_ _ | refine blk_drew ?_ | refine blk_alloc ?_ _)); exact BK358.out) hb)
                     replace BK365 := Aside0.mk (blk_below (g := gb365) (o := .cells #[.int .i64 t362, .string t363, .string t364] 38 (0, 0)) (by (with_reducible repeat (first | refine blk_drewN ?_ _ | refine blk_drew ?_ | refine blk_alloc ?_ _)); exact BK365.out) hb)
                     replace BK366 := Aside0.mk (blk_below (g := gb366) (o := .cells #[.int .i64 (rd y367 t362), .string t363, .string t364] 38 (0, 0)) (by (with_reducible repeat (first | refine blk_drewN ?_ _ | refine blk_drew ?_ | refine blk_alloc ?_ _)); exact BK366.out) hb)
                     replace HR411 := Aside0.mk (Kd.C_below (by repeat (first | (with_reducible exact HR411.out) | (with_reducible refine Kd.C_alloc ?_ _) | (with_reducible refine Kd.C_drewN ?_ _) | (with_reducible refine Kd.C_drew ?_) | exact HR411.out)) hb)
                     replace HR418 := Aside0.mk (Kd.C_below (by repeat (first | (with_reducible exact HR418.out) | (with_reducible refine Kd.C_alloc ?_ _) | (with_reducible refine Kd.C_drewN ?_ _) | (with_reducible refine Kd.C_drew ?_) | exact HR418.out)) hb)
                     replace HB := Aside0.mk (below_step (by repeat (first | (with_reducible first | exact HB.out | apply below_alloc | apply pw_below_drewN | apply below_drew1 | refine below_set ?_ GE357.out | refine below_set ?_ GE358.out | refine below_set ?_ GE365.out | refine below_set ?_ GE366.out) | exact HB.out)) hb)
                     clear hb ho138
                     refine hK.out _ _ trivial (fun hHeld => ?_)
                     clear hK K
                     refine norm_ (a' := ?_) ?_ ?_
                     rotate_left
                     ·show Act.put _ (some 88) _ = _
                      simp only [Act.put, List.setIfInBounds_toArray, List.set_cons_zero, List.set_cons_succ, i64_w, i32_w]
                      rfl
                     refine oneS_ (i := 4) (N := some 92) rfl rfl (one_of HT_.out (by kernel_rfl)) (by decide) (fun K hK => ?_)
                     refine Kd.R_append_rows_step k43 (w0 := w) w.heap.size (by rfl) (.tmp 88) (.tmp 91) 22 43 (.agg #[(.string ⟨#[]⟩), (.string ⟨#[]⟩)]) 32 rfl Try.underlying22 info43 rfl (by decide) (by omega) v406 y405 y408 _ _ _ (fun k_ => some k_ ≠ (.slice Ao133 t359.length co133 : Value).ownBlock) (fun _ => False) rfl rfl ?aO ?aR (fun _ _ h => h) (fun _ h => h.elim) ?aF ?aB ?aS ?aL ?_
                     (case aR => repeat (first | exact (by repeat (first | (with_reducible exact HR411.out) | (with_reducible refine Kd.C_alloc ?_ _) | (with_reducible refine Kd.C_drewN ?_ _) | (with_reducible refine Kd.C_drew ?_) | exact HR411.out)) | (with_reducible refine Kd.C_alloc ?_ _) | (with_reducible refine Kd.C_drewN ?_ _) | (with_reducible refine Kd.C_drew ?_)))
                     (case aB => exact (by repeat (first | (with_reducible first | exact HB.out | apply below_alloc | apply pw_below_drewN | apply below_drew1 | refine below_set ?_ GE357.out | refine below_set ?_ GE358.out | refine below_set ?_ GE365.out | refine below_set ?_ GE366.out) | exact HB.out)))
                     (case aF => exact (fun k_ hk => Kd.fresh' (Kd.R_lt (ra_ HO_7.out)) k_ hk))
                     (case aO => exact (by (with_reducible repeat (first | apply Kd.R_alloc | apply Kd.R_drewN | apply Kd.R_drew)); exact Kd.R_mono HO407.out (fun _ hk => hk.2)))
                     (case aS => exact (below_size (by repeat (first | (with_reducible first | exact HB.out | apply below_alloc | apply pw_below_drewN | apply below_drew1 | refine below_set ?_ GE357.out | refine below_set ?_ GE358.out | refine below_set ?_ GE365.out | refine below_set ?_ GE366.out) | exact HB.out))))
                     (case aL => have := LMc127.out; omega)
                     intro v413 w139 ho hb hg hat
                     rw [← Ny412.out] at ho
                     replace BK357 := Aside0.mk (blk_grown (g := gb357) (o := .cells #[.int .i64 a1_0, .int .i64 a1_1, .int .i64 a1_2] 35 (0, 0)) (by (with_reducible repeat (first | refine blk_drewN ?_ _ | refine blk_drew ?_ | refine blk_alloc ?_ _)); exact BK357.out) hg (Kd.R_ne HO407.out BK357.out (by decide)))
                     replace BK358 := Aside0.mk (blk_grown (g := gb358) (o := .cells #[.int .i64 a2_0, .int .i64 a2_1, .int .i64 a2_2] 35 (0, 0)) (by (with_reducible repeat (first | refine blk_drewN ?_ _ | refine blk_drew ?_ | refine blk_alloc ?_ _)); exact BK358.out) hg (Kd.R_ne HO407.out BK358.out (by decide)))
                     replace BK365 := Aside0.mk (blk_grown (g := gb365) (o := .cells #[.int .i64 t362, .string t363, .string t364] 38 (0, 0)) (by (with_reducible repeat (first | refine blk_drewN ?_ _ | refine blk_drew ?_ | refine blk_alloc ?_ _)); exact BK365.out) hg (Kd.R_ne HO407.out BK365.out (by decide)))
                     replace BK366 := Aside0.mk (blk_grown (g := gb366) (o := .cells #[.int .i64 (rd y367 t362), .string t363, .string t364] 38 (0, 0)) (by (with_reducible repeat (first | refine blk_drewN ?_ _ | refine blk_drew ?_ | refine blk_alloc ?_ _)); exact BK366.out) hg (Kd.R_ne HO407.out BK366.out (by decide)))
                     replace HB := Aside0.mk (hb)
                     replace HR411 := Aside0.mk ((show Kd.C k43 w139 Ao133 y408.length y408 from by rw [Ny408.out]; exact Kd.C_take (m := (x11_4 : Int).toNat) ((Kd.R_reads' (Kd.R_after (ok := (fun _ => True)) (ra_ HO_7.out) hg hat)).2.2) KL135.out))
                     replace HR418 := Aside0.mk ((show Kd.C k43 w139 A136 y415.length y415 from by rw [Ny415.out, KA136.out]; exact Kd.C_drop (m := ((ji128) : Int).toNat) (c := co133) ((Kd.R_reads' (Kd.R_after (ok := (fun _ => True)) (ra_ HO_7.out) hg hat)).2.2) KL136.out ((Kd.R_reads' (Kd.R_after (ok := (fun _ => True)) (ra_ HO_7.out) hg hat)).2.1)))
                     replace HO_7 := Aside0.mk (Kd.R_after (ok := (fun _ => True)) (ra_ HO_7.out) hg hat)
                     have HO414 := Aside0.mk (ho)
                     clear HO407
                     clear ho hb hg hat
                     refine hK.out _ _ trivial (fun hHeld => ?_)
                     clear hK K
                     refine norm_ (a' := ?_) ?_ ?_
                     rotate_left
                     ·show Act.put _ (some 92) _ = _
                      simp only [Act.put, List.setIfInBounds_toArray, List.set_cons_zero, List.set_cons_succ, i64_w, i32_w]
                      rfl
                     refine oneS_ (i := 9) (N := some 97) rfl rfl (one_of HT_.out (by kernel_rfl)) (by decide) (fun K hK => ?_)
                     refine Kd.R_append_rows_step k43 (w0 := w) w.heap.size (by rfl) (.tmp 92) (.tmp 96) 22 43 (.agg #[(.string ⟨#[]⟩), (.string ⟨#[]⟩)]) 32 rfl Try.underlying22 info43 rfl (by decide) (by omega) v413 y412 y415 _ _ _ (fun k_ => some k_ ≠ (.slice Ao133 t359.length co133 : Value).ownBlock) (fun _ => False) rfl rfl ?aO ?aR (fun _ _ h => h) (fun _ h => h.elim) ?aF ?aB ?aS ?aL ?_
                     (case aR => repeat (first | exact (by repeat (first | (with_reducible exact HR418.out) | (with_reducible refine Kd.C_alloc ?_ _) | (with_reducible refine Kd.C_drewN ?_ _) | (with_reducible refine Kd.C_drew ?_) | exact HR418.out)) | (with_reducible refine Kd.C_alloc ?_ _) | (with_reducible refine Kd.C_drewN ?_ _) | (with_reducible refine Kd.C_drew ?_)))
                     (case aB => exact (by repeat (first | (with_reducible first | exact HB.out | apply below_alloc | apply pw_below_drewN | apply below_drew1 | refine below_set ?_ GE357.out | refine below_set ?_ GE358.out | refine below_set ?_ GE365.out | refine below_set ?_ GE366.out) | exact HB.out)))
                     (case aF => exact (fun k_ hk => Kd.fresh' (Kd.R_lt (ra_ HO_7.out)) k_ hk))
                     (case aO => exact (ra_ HO414.out))
                     (case aS => exact (below_size (by repeat (first | (with_reducible first | exact HB.out | apply below_alloc | apply pw_below_drewN | apply below_drew1 | refine below_set ?_ GE357.out | refine below_set ?_ GE358.out | refine below_set ?_ GE365.out | refine below_set ?_ GE366.out) | exact HB.out))))
                     (case aL => have := LMc131.out; omega)
                     intro v420 w140 ho hb hg hat
                     rw [← Ny419.out] at ho
                     replace BK357 := Aside0.mk (blk_grown (g := gb357) (o := .cells #[.int .i64 a1_0, .int .i64 a1_1, .int .i64 a1_2] 35 (0, 0)) (by (with_reducible repeat (first | refine blk_drewN ?_ _ | refine blk_drew ?_ | refine blk_alloc ?_ _)); exact BK357.out) hg (Kd.R_ne HO414.out BK357.out (by decide)))
                     replace BK358 := Aside0.mk (blk_grown (g := gb358) (o := .cells #[.int .i64 a2_0, .int .i64 a2_1, .int .i64 a2_2] 35 (0, 0)) (by (with_reducible repeat (first | refine blk_drewN ?_ _ | refine blk_drew ?_ | refine blk_alloc ?_ _)); exact BK358.out) hg (Kd.R_ne HO414.out BK358.out (by decide)))
                     replace BK365 := Aside0.mk (blk_grown (g := gb365) (o := .cells #[.int .i64 t362, .string t363, .string t364] 38 (0, 0)) (by (with_reducible repeat (first | refine blk_drewN ?_ _ | refine blk_drew ?_ | refine blk_alloc ?_ _)); exact BK365.out) hg (Kd.R_ne HO414.out BK365.out (by decide)))
                     replace BK366 := Aside0.mk (blk_grown (g := gb366) (o := .cells #[.int .i64 (rd y367 t362), .string t363, .string t364] 38 (0, 0)) (by (with_reducible repeat (first | refine blk_drewN ?_ _ | refine blk_drew ?_ | refine blk_alloc ?_ _)); exact BK366.out) hg (Kd.R_ne HO414.out BK366.out (by decide)))
                     replace HB := Aside0.mk (hb)
                     replace HR411 := Aside0.mk ((show Kd.C k43 w140 Ao133 y408.length y408 from by rw [Ny408.out]; exact Kd.C_take (m := (x11_4 : Int).toNat) ((Kd.R_reads' (Kd.R_after (ok := (fun _ => True)) (ra_ HO_7.out) hg hat)).2.2) KL135.out))
                     replace HR418 := Aside0.mk ((show Kd.C k43 w140 A136 y415.length y415 from by rw [Ny415.out, KA136.out]; exact Kd.C_drop (m := ((ji128) : Int).toNat) (c := co133) ((Kd.R_reads' (Kd.R_after (ok := (fun _ => True)) (ra_ HO_7.out) hg hat)).2.2) KL136.out ((Kd.R_reads' (Kd.R_after (ok := (fun _ => True)) (ra_ HO_7.out) hg hat)).2.1)))
                     replace HO_7 := Aside0.mk (Kd.R_after (ok := (fun _ => True)) (ra_ HO_7.out) hg hat)
                     have HO421 := Aside0.mk (ho)
                     clear HO414
                     clear ho hb hg hat
                     refine hK.out _ _ trivial (fun hHeld => ?_)
                     clear hK K
                     refine norm_ (a' := ?_) ?_ ?_
                     rotate_left
                     ·show Act.put _ (some 97) _ = _
                      simp only [Act.put, List.setIfInBounds_toArray, List.set_cons_zero, List.set_cons_succ, i64_w, i32_w]
                      rfl
                     refine pureS_ (i := 10) (N := some 12) (v := ?_) (a' := ?_) rfl rfl (any_of HT_.out (by kernel_rfl)) (fun _ _ _ h => h) (Or.inl ⟨by rfl, ?_⟩) ?_ ?_
                     rotate_left; (· intro w'; go_simp; with_reducible rfl); rotate_left; (· simp only [Act.put, List.setIfInBounds_toArray, List.set_cons_zero, List.set_cons_succ, i64_w, i32_w]; rfl)
                     refine done_ (done_of HT_.out (by kernel_rfl)) ?_
                     go_upto_region 16 with (fail)
                     go_cut [120] (fun v120 wc => ∃ (kq : Nat) (x120_131 : Bool), v120 = .bool x120_131 ∧ Aside0 (drayagelaw03_LabelOpposite.j4 kq t359 x11_4 x120_131 = some true) ∧ Aside0 (kq ≤ k4) ∧ Aside0 (Kd.R k43 43 wc w.heap.size (fun _ => True) (.slice Ao133 t359.length co133) t359) ∧ Aside0 (wc.heap[gb357]? = some (.cells #[.int .i64 a1_0, .int .i64 a1_1, .int .i64 a1_2] 35 (0, 0))) ∧ Aside0 (wc.heap[gb358]? = some (.cells #[.int .i64 a2_0, .int .i64 a2_1, .int .i64 a2_2] 35 (0, 0))) ∧ Aside0 (wc.heap[gb365]? = some (.cells #[.int .i64 t362, .string t363, .string t364] 38 (0, 0))) ∧ Aside0 (wc.heap[gb366]? = some (.cells #[.int .i64 (rd y367 t362), .string t363, .string t364] 38 (0, 0))) ∧ Aside0 (Kd.C k43 wc Ao133 y408.length y408) ∧ Aside0 (Kd.C k43 wc A136 y415.length y415) ∧ Aside0 (Below w.heap.size w wc))
                     case first =>
                      have H := HC132.out
                      clear HC132
                      replace H := Option.bind_eq_some_iff.mp H
                      obtain ⟨t422, A1410, H⟩ := H
                      try dsimp only at H
                      have A141 := Aside0.mk A1410
                      clear A1410
                      by_cases c142 : t422 = true
                      ·subst c142
                       have H1 : (drayagelaw03_LabelOpposite.j4 k4 t359 x11_4 true) = some true := by rw [if_pos rfl] at H; exact H
                       have H := H1; exact (drayagelaw03_LabelOpposite.j4.dead H).elim
                      ·replace c142 := Bool.eq_false_iff.mpr c142
                       subst c142
                       have H1 : ((label_Bears.f t359 y419).bind fun t423 => (if t423 = true then (if y419.length < 4398046511104 then ((label_Bears.f (y419 ++ [(⟨(rd_T43 t359 x11_4).f0, (⟨#[42]⟩ : ByteArray)⟩ : S43)]) t359).bind fun t428 => (drayagelaw03_LabelOpposite.j4 k4 t359 x11_4 (!t428))) else (none)) else (drayagelaw03_LabelOpposite.j4 k4 t359 x11_4 true))) = some true := by rw [if_neg (show ¬ (false = true) by decide)] at H; exact H
                       clear H
                       have H := H1
                       clear H1
                       replace H := Option.bind_eq_some_iff.mp H
                       obtain ⟨t423, A1450, H⟩ := H
                       try dsimp only at H
                       have A145 := Aside0.mk A1450
                       clear A1450
                       by_cases c146 : t423 = true
                       ·subst c146
                        rw [if_pos rfl] at H
                        by_cases c147 : y419.length < 4398046511104
                        ·rw [if_pos c147] at H
                         have LMc147 := Aside0.mk c147
                         clear c147
                         obtain ⟨y425, hy425⟩ : ∃ y_ : List (S43), y_ = (y419 ++ [(⟨(rd_T43 t359 x11_4).f0, (⟨#[42]⟩ : ByteArray)⟩ : S43)]) := ⟨_, rfl⟩
                         replace H : ((label_Bears.f y425 t359).bind fun t428 => (drayagelaw03_LabelOpposite.j4 k4 t359 x11_4 (!t428))) = some true := by first | (rw [hy425]; with_reducible exact H) | (have H2_ := (Option.bind_some _ _).symm.trans H; rw [hy425]; with_reducible exact H2_) | (have H2_ := (Option.bind_some _ _).symm.trans H; with_reducible exact H2_) | with_reducible exact H | (rw [hy425]; exact H) | exact H
                         have Ny425 := Aside0.mk hy425
                         clear hy425
                         replace H := Option.bind_eq_some_iff.mp H
                         obtain ⟨t428, A1480, H⟩ := H
                         try dsimp only at H
                         have A148 := Aside0.mk A1480
                         clear A1480
                         have H' := Aside0.mk H
                         clear H
                         obtain ⟨Ao149, co149, eo149⟩ := Kd.R_slice HO421.out
                         subst eo149
                         go_wp2_with (first | ((with_reducible refine gate_callee (f := 20) rfl ?_); refine goesL_ (some 100) rfl rfl Try.func20 (by kernel_rfl) rfl #[.slice Ao149 y419.length co149, .slice Ao133 t359.length co133] rfl ca_ ?_; (with_reducible refine (label_Bears.calls _ _ y419 _ _ t359 false _ ?side1 ?side2 ?side3 ?side4 A141.out).mono ?_); (case side1 => repeat (first | exact (Kd.R_reads' HO421.out).2.2 | (with_reducible refine Kd.C_alloc ?_ _) | (with_reducible refine Kd.C_drewN ?_ _) | (with_reducible refine Kd.C_drew ?_))); (case side2 => exact (Kd.R_reads' HO421.out).2.1); (case side3 => repeat (first | exact (Kd.R_reads' HO_7.out).2.2 | (with_reducible refine Kd.C_alloc ?_ _) | (with_reducible refine Kd.C_drewN ?_ _) | (with_reducible refine Kd.C_drew ?_))); (case side4 => exact (Kd.R_reads' HO_7.out).2.1); rintro e w150 ⟨rfl, hb⟩; refine ⟨_, rfl, ?_⟩; replace HO_7 := Aside0.mk (Kd.R_below (ra_ HO_7.out) hb); replace HO421 := Aside0.mk (Kd.R_below (ra_ HO421.out) hb); replace BK357 := Aside0.mk (blk_below (g := gb357) (o := .cells #[.int .i64 a1_0, .int .i64 a1_1, .int .i64 a1_2] 35 (0, 0)) (by (with_reducible repeat (first | refine blk_drewN ?_ _ | refine blk_drew ?_ | refine blk_alloc ?_ _)); exact BK357.out) hb); replace BK358 := Aside0.mk (blk_below (g := gb358) (o := .cells #[.int .i64 a2_0, .int .i64 a2_1, .int .i64 a2_2] 35 (0, 0)) (by (with_reducible repeat (first | refine blk_drewN ?_ _ | refine blk_drew ?_ | refine blk_alloc ?_ _)); exact BK358.out) hb); replace BK365 := Aside0.mk (blk_below (g := gb365) (o := .cells #[.int .i64 t362, .string t363, .string t364] 38 (0, 0)) (by (with_reducible repeat (first | refine blk_drewN ?_ _ | refine blk_drew ?_ | refine blk_alloc ?_ _)); exact BK365.out) hb); replace BK366 := Aside0.mk (blk_below (g := gb366) (o := .cells #[.int .i64 (rd y367 t362), .string t363, .string t364] 38 (0, 0)) (by (with_reducible repeat (first | refine blk_drewN ?_ _ | refine blk_drew ?_ | refine blk_alloc ?_ _)); exact BK366.out) hb); replace HR411 := Aside0.mk (Kd.C_below (by repeat (first | (with_reducible exact HR411.out) | (with_reducible refine Kd.C_alloc ?_ _) | (with_reducible refine Kd.C_drewN ?_ _) | (with_reducible refine Kd.C_drew ?_) | exact HR411.out)) hb); replace HR418 := Aside0.mk (Kd.C_below (by repeat (first | (with_reducible exact HR418.out) | (with_reducible refine Kd.C_alloc ?_ _) | (with_reducible refine Kd.C_drewN ?_ _) | (with_reducible refine Kd.C_drew ?_) | exact HR418.out)) hb); replace HB := Aside0.mk (below_step (by repeat (first | (with_reducible first | exact HB.out | apply below_alloc | apply pw_below_drewN | apply below_drew1 | refine below_set ?_ GE357.out | refine below_set ?_ GE358.out | refine below_set ?_ GE365.out | refine below_set ?_ GE366.out) | exact HB.out)) hb); (try clear hb); (try clear hb2); (try clear hk); (try clear hi)) | (go_at_call 20; (with_reducible refine (label_Bears.calls _ _ t359 _ _ y419 true _ ?side1 ?side2 ?side3 ?side4 A145.out).mono ?_); (case side1 => repeat (first | exact (Kd.R_reads' HO_7.out).2.2 | (with_reducible refine Kd.C_alloc ?_ _) | (with_reducible refine Kd.C_drewN ?_ _) | (with_reducible refine Kd.C_drew ?_))); (case side2 => exact (Kd.R_reads' HO_7.out).2.1); (case side3 => repeat (first | exact (Kd.R_reads' HO421.out).2.2 | (with_reducible refine Kd.C_alloc ?_ _) | (with_reducible refine Kd.C_drewN ?_ _) | (with_reducible refine Kd.C_drew ?_))); (case side4 => exact (Kd.R_reads' HO421.out).2.1); rintro e w151 ⟨rfl, hb⟩; replace HO_7 := Aside0.mk (Kd.R_below (ra_ HO_7.out) hb); replace HO421 := Aside0.mk (Kd.R_below (ra_ HO421.out) hb); replace BK357 := Aside0.mk (blk_below (g := gb357) (o := .cells #[.int .i64 a1_0, .int .i64 a1_1, .int .i64 a1_2] 35 (0, 0)) (by (with_reducible repeat (first | refine blk_drewN ?_ _ | refine blk_drew ?_ | refine blk_alloc ?_ _)); exact BK357.out) hb); replace BK358 := Aside0.mk (blk_below (g := gb358) (o := .cells #[.int .i64 a2_0, .int .i64 a2_1, .int .i64 a2_2] 35 (0, 0)) (by (with_reducible repeat (first | refine blk_drewN ?_ _ | refine blk_drew ?_ | refine blk_alloc ?_ _)); exact BK358.out) hb); replace BK365 := Aside0.mk (blk_below (g := gb365) (o := .cells #[.int .i64 t362, .string t363, .string t364] 38 (0, 0)) (by (with_reducible repeat (first | refine blk_drewN ?_ _ | refine blk_drew ?_ | refine blk_alloc ?_ _)); exact BK365.out) hb); replace BK366 := Aside0.mk (blk_below (g := gb366) (o := .cells #[.int .i64 (rd y367 t362), .string t363, .string t364] 38 (0, 0)) (by (with_reducible repeat (first | refine blk_drewN ?_ _ | refine blk_drew ?_ | refine blk_alloc ?_ _)); exact BK366.out) hb); replace HR411 := Aside0.mk (Kd.C_below (by repeat (first | (with_reducible exact HR411.out) | (with_reducible refine Kd.C_alloc ?_ _) | (with_reducible refine Kd.C_drewN ?_ _) | (with_reducible refine Kd.C_drew ?_) | exact HR411.out)) hb); replace HR418 := Aside0.mk (Kd.C_below (by repeat (first | (with_reducible exact HR418.out) | (with_reducible refine Kd.C_alloc ?_ _) | (with_reducible refine Kd.C_drewN ?_ _) | (with_reducible refine Kd.C_drew ?_) | exact HR418.out)) hb); replace HB := Aside0.mk (below_step (by repeat (first | (with_reducible first | exact HB.out | apply below_alloc | apply pw_below_drewN | apply below_drew1 | refine below_set ?_ GE357.out | refine below_set ?_ GE358.out | refine below_set ?_ GE365.out | refine below_set ?_ GE366.out) | exact HB.out)) hb); (try clear hb); (try clear hb2); (try clear hk); (try clear hi); have p424 : 0 ≤ (x11_4 : Int) := of_decide_eq_true (by first | (with_reducible assumption) | assumption); have q424 : x11_4 < (t359.length : Int) := of_decide_eq_true (by first | (with_reducible assumption) | assumption); obtain ⟨ad424, e424, hx424_0, hx424_1⟩ := at_T43 (Kd.R_reads' HO_7.out).2.2 x11_4 p424 q424; cases e424; replace p424 := eq_true p424; replace q424 := eq_true q424) | ((with_reducible refine gate_builtin (b := .append) (xs := #[.tmp 108, .tmp 115]) rfl ?_); (try (refine gate_guard (by rfl) ?_; dsimp only)); at_builtin; refine Kd.R_append k43 (w0 := w) w.heap.size rfl (.tmp 108) (.tmp 115) 22 43 (.agg #[(.string ⟨#[]⟩), (.string ⟨#[]⟩)]) 32 rfl Try.underlying22 info43 rfl (by decide) (by omega) (.slice Ao149 y419.length co149) y419 (⟨(rd_T43 t359 x11_4).f0, (⟨#[42]⟩ : ByteArray)⟩ : S43) [.string ((rd_T43 t359 x11_4).f0), .string (⟨#[42]⟩ : ByteArray)] (fun k_ => some k_ ≠ (.slice (some ad424) t359.length co133 : Value).ownBlock) (fun _ => False) rfl rfl ?aP (fun _ hk => hk.elim) ?aF ?aO ?aB ?aS ?aL ?_; (case aP => exact k43_mkM _ _ _ (⟨(rd_T43 t359 x11_4).f0, (⟨#[42]⟩ : ByteArray)⟩ : S43)); (case aB => exact (by repeat (first | (with_reducible first | exact HB.out | apply below_alloc | apply pw_below_drewN | apply below_drew1 | refine below_set ?_ GE357.out | refine below_set ?_ GE358.out | refine below_set ?_ GE365.out | refine below_set ?_ GE366.out) | exact HB.out))); (case aF => exact (fun k_ hk => Kd.fresh' (Kd.R_lt (ra_ HO_7.out)) k_ hk)); (case aO => exact (ra_ HO421.out)); (case aS => exact (below_size (by repeat (first | (with_reducible first | exact HB.out | apply below_alloc | apply pw_below_drewN | apply below_drew1 | refine below_set ?_ GE357.out | refine below_set ?_ GE358.out | refine below_set ?_ GE365.out | refine below_set ?_ GE366.out) | exact HB.out)))); (case aL => have := LMc147.out; omega); intro v426 w152 ho hb hg hat; rw [← Ny425.out] at ho; replace BK357 := Aside0.mk (blk_grown (g := gb357) (o := .cells #[.int .i64 a1_0, .int .i64 a1_1, .int .i64 a1_2] 35 (0, 0)) (by (with_reducible repeat (first | refine blk_drewN ?_ _ | refine blk_drew ?_ | refine blk_alloc ?_ _)); exact BK357.out) hg (Kd.R_ne HO421.out BK357.out (by decide))); replace BK358 := Aside0.mk (blk_grown (g := gb358) (o := .cells #[.int .i64 a2_0, .int .i64 a2_1, .int .i64 a2_2] 35 (0, 0)) (by (with_reducible repeat (first | refine blk_drewN ?_ _ | refine blk_drew ?_ | refine blk_alloc ?_ _)); exact BK358.out) hg (Kd.R_ne HO421.out BK358.out (by decide))); replace BK365 := Aside0.mk (blk_grown (g := gb365) (o := .cells #[.int .i64 t362, .string t363, .string t364] 38 (0, 0)) (by (with_reducible repeat (first | refine blk_drewN ?_ _ | refine blk_drew ?_ | refine blk_alloc ?_ _)); exact BK365.out) hg (Kd.R_ne HO421.out BK365.out (by decide))); replace BK366 := Aside0.mk (blk_grown (g := gb366) (o := .cells #[.int .i64 (rd y367 t362), .string t363, .string t364] 38 (0, 0)) (by (with_reducible repeat (first | refine blk_drewN ?_ _ | refine blk_drew ?_ | refine blk_alloc ?_ _)); exact BK366.out) hg (Kd.R_ne HO421.out BK366.out (by decide))); replace HB := Aside0.mk (hb); replace HR411 := Aside0.mk ((show Kd.C k43 w152 (some ad424) y408.length y408 from by rw [Ny408.out]; exact Kd.C_take (m := (x11_4 : Int).toNat) ((Kd.R_reads' (Kd.R_after (ok := (fun _ => True)) (ra_ HO_7.out) hg hat)).2.2) KL135.out)); replace HR418 := Aside0.mk ((show Kd.C k43 w152 A136 y415.length y415 from by rw [Ny415.out, KA136.out]; exact Kd.C_drop (m := ((ji128) : Int).toNat) (c := co133) ((Kd.R_reads' (Kd.R_after (ok := (fun _ => True)) (ra_ HO_7.out) hg hat)).2.2) KL136.out ((Kd.R_reads' (Kd.R_after (ok := (fun _ => True)) (ra_ HO_7.out) hg hat)).2.1))); replace HO_7 := Aside0.mk (Kd.R_after (ok := (fun _ => True)) (ra_ HO_7.out) hg hat); have HO427 := Aside0.mk (ho); clear HO421; clear ho hb hg hat; obtain ⟨Ao153, co153, eo153⟩ := Kd.R_slice HO427.out; subst eo153) | (go_at_call 20; (with_reducible refine (label_Bears.calls _ _ y425 _ _ t359 t428 _ ?side1 ?side2 ?side3 ?side4 A148.out).mono ?_); (case side1 => repeat (first | exact (Kd.R_reads' HO427.out).2.2 | (with_reducible refine Kd.C_alloc ?_ _) | (with_reducible refine Kd.C_drewN ?_ _) | (with_reducible refine Kd.C_drew ?_))); (case side2 => exact (Kd.R_reads' HO427.out).2.1); (case side3 => repeat (first | exact (Kd.R_reads' HO_7.out).2.2 | (with_reducible refine Kd.C_alloc ?_ _) | (with_reducible refine Kd.C_drewN ?_ _) | (with_reducible refine Kd.C_drew ?_))); (case side4 => exact (Kd.R_reads' HO_7.out).2.1); rintro e w154 ⟨rfl, hb⟩; replace HO_7 := Aside0.mk (Kd.R_below (ra_ HO_7.out) hb); replace HO427 := Aside0.mk (Kd.R_below (ra_ HO427.out) hb); replace BK357 := Aside0.mk (blk_below (g := gb357) (o := .cells #[.int .i64 a1_0, .int .i64 a1_1, .int .i64 a1_2] 35 (0, 0)) (by (with_reducible repeat (first | refine blk_drewN ?_ _ | refine blk_drew ?_ | refine blk_alloc ?_ _)); exact BK357.out) hb); replace BK358 := Aside0.mk (blk_below (g := gb358) (o := .cells #[.int .i64 a2_0, .int .i64 a2_1, .int .i64 a2_2] 35 (0, 0)) (by (with_reducible repeat (first | refine blk_drewN ?_ _ | refine blk_drew ?_ | refine blk_alloc ?_ _)); exact BK358.out) hb); replace BK365 := Aside0.mk (blk_below (g := gb365) (o := .cells #[.int .i64 t362, .string t363, .string t364] 38 (0, 0)) (by (with_reducible repeat (first | refine blk_drewN ?_ _ | refine blk_drew ?_ | refine blk_alloc ?_ _)); exact BK365.out) hb); replace BK366 := Aside0.mk (blk_below (g := gb366) (o := .cells #[.int .i64 (rd y367 t362), .string t363, .string t364] 38 (0, 0)) (by (with_reducible repeat (first | refine blk_drewN ?_ _ | refine blk_drew ?_ | refine blk_alloc ?_ _)); exact BK366.out) hb); replace HR411 := Aside0.mk (Kd.C_below (by repeat (first | (with_reducible exact HR411.out) | (with_reducible refine Kd.C_alloc ?_ _) | (with_reducible refine Kd.C_drewN ?_ _) | (with_reducible refine Kd.C_drew ?_) | exact HR411.out)) hb); replace HR418 := Aside0.mk (Kd.C_below (by repeat (first | (with_reducible exact HR418.out) | (with_reducible refine Kd.C_alloc ?_ _) | (with_reducible refine Kd.C_drewN ?_ _) | (with_reducible refine Kd.C_drew ?_) | exact HR418.out)) hb); replace HB := Aside0.mk (below_step (by repeat (first | (with_reducible first | exact HB.out | apply below_alloc | apply pw_below_drewN | apply below_drew1 | refine below_set ?_ GE357.out | refine below_set ?_ GE358.out | refine below_set ?_ GE365.out | refine below_set ?_ GE366.out) | exact HB.out)) hb); (try clear hb); (try clear hb2); (try clear hk); (try clear hi)))
                         go_meet
                         case rel => exact ⟨_, (!t428), fs_, H', ⟨by have := HJ7.out; have := HJ81.out; have := HJ107.out; have := HK4.out; first | omega | exact Nat.le_refl _⟩, ⟨by (with_reducible repeat (first | apply Kd.R_alloc | apply Kd.R_drewN | apply Kd.R_drew)); exact Kd.R_mono HO_7.out (fun _ hk => trivial)⟩, ⟨by (with_reducible repeat (first | refine blk_drewN ?_ _ | refine blk_drew ?_ | refine blk_alloc ?_ _)); exact BK357.out⟩, ⟨by (with_reducible repeat (first | refine blk_drewN ?_ _ | refine blk_drew ?_ | refine blk_alloc ?_ _)); exact BK358.out⟩, ⟨by (with_reducible repeat (first | refine blk_drewN ?_ _ | refine blk_drew ?_ | refine blk_alloc ?_ _)); exact BK365.out⟩, ⟨by (with_reducible repeat (first | refine blk_drewN ?_ _ | refine blk_drew ?_ | refine blk_alloc ?_ _)); exact BK366.out⟩, ⟨by repeat (first | (with_reducible exact HR411.out) | (with_reducible refine Kd.C_alloc ?_ _) | (with_reducible refine Kd.C_drewN ?_ _) | (with_reducible refine Kd.C_drew ?_) | exact HR411.out)⟩, ⟨by repeat (first | (with_reducible exact HR418.out) | (with_reducible refine Kd.C_alloc ?_ _) | (with_reducible refine Kd.C_drewN ?_ _) | (with_reducible refine Kd.C_drew ?_) | exact HR418.out)⟩, ⟨by repeat (first | (with_reducible first | exact HB.out | apply below_alloc | apply pw_below_drewN | apply below_drew1 | refine below_set ?_ GE357.out | refine below_set ?_ GE358.out | refine below_set ?_ GE365.out | refine below_set ?_ GE366.out) | exact HB.out)⟩⟩
                        ·rw [if_neg c147] at H
                         exact absurd H (by simp)
                       ·replace c146 := Bool.eq_false_iff.mpr c146
                        subst c146
                        have H1 : (drayagelaw03_LabelOpposite.j4 k4 t359 x11_4 true) = some true := by rw [if_neg (show ¬ (false = true) by decide)] at H; exact H
                        have H := H1; exact (drayagelaw03_LabelOpposite.j4.dead H).elim
                     case rest =>
                      clear HC132
                      (try clear c1); (try clear q1); (try clear c2); (try clear p2); (try clear p4); (try clear q4); (try clear hx4); (try clear p6); (try clear c8); (try clear c9); (try clear q9); (try clear c10); (try clear q10); (try clear c11); (try clear c12); (try clear c13); (try clear q13); (try clear c14); (try clear c19); (try clear c20); (try clear p42); (try clear q42); (try clear hx42); (try clear p64); (try clear c88); (try clear c88b0); (try clear c88b1); (try clear c90); (try clear c91); (try clear c91b0); (try clear q94); (try clear c99); (try clear q99); (try clear q102); (try clear c107); (try clear c110); (try clear c112); (try clear c123); (try clear c124); (try clear c124b0); (try clear c125); (try clear c125b0); (try clear c125b1); (try clear c126); (try clear c126b0); (try clear c126b1); (try clear c127); (try clear c129); (try clear c129b0)
                      (try clear c129b1); (try clear c130); (try clear c130b0); (try clear c130b1); (try clear c131); (try clear q135); (try clear c136); (try clear q136); (try clear c142); (try clear c146); (try clear c147); (try clear hx424_0); (try clear hx424_1); (try clear p2); (try clear p424); (try clear q0136); (try clear q1); (try clear q10); (try clear q102); (try clear q135); (try clear q136); (try clear q424); (try clear q9); (try clear q94); (try clear q99)
                      obtain ⟨kq, x120_131, rfl, HA, HJ131, HO_7, BK357, BK358, BK365, BK366, HR411, HR418, HB⟩ := hcut
                      cases kq with
                      | zero => exact absurd HA.out (by simp [drayagelaw03_LabelOpposite.j4])
                      | succ kj131 =>
                       have H := HA.out
                       clear HA
                       simp only [drayagelaw03_LabelOpposite.j4] at H
                       by_cases c158 : x120_131 = true
                       ·subst c158
                        have H1 : (some false) = some true := by rw [if_pos rfl] at H; exact H
                        have H := H1; cases H
                       ·replace c158 := Bool.eq_false_iff.mpr c158
                        subst c158
                        have H1 : (if 0 ≤ x11_4 then (if x11_4 < (t359.length : Int) then ((label_Get.f t359 ((rd_T43 t359 x11_4).f0)).bind fun bt430 => (if bt430.1.toList = ((rd_T43 t359 x11_4).f1).toList then (if bt430.2 = true then (drayagelaw03_LabelOpposite.l0 kj131 t359 (wrap64 (x11_4 + 1))) else (some false)) else (some false))) else (none)) else (none)) = some true := by rw [if_neg (show ¬ (false = true) by decide)] at H; exact H
                        clear H
                        have H := H1
                        clear H1
                        by_cases c159 : 0 ≤ x11_4
                        ·rw [if_pos c159] at H
                         have c159b0 : decide (0 ≤ x11_4) = true := decide_eq_true c159
                         clear c159
                         by_cases c160 : x11_4 < (t359.length : Int)
                         ·rw [if_pos c160] at H
                          have c160b0 : decide (x11_4 < (t359.length : Int)) = true := decide_eq_true c160
                          clear c160
                          replace H := Option.bind_eq_some_iff.mp H
                          obtain ⟨⟨t430, t431⟩, A1610, H⟩ := H
                          try dsimp only at H
                          have A161 := Aside0.mk A1610
                          clear A1610
                          by_cases c162 : t430.toList = ((rd_T43 t359 x11_4).f1).toList
                          ·rw [if_pos c162] at H
                           have c162b0 : (t430.toList == ((rd_T43 t359 x11_4).f1).toList) = true := beq_iff_eq.mpr c162
                           have c162b1 : (t430.toList != ((rd_T43 t359 x11_4).f1).toList) = false := bne_eq_false_iff_eq.mpr c162
                           clear c162
                           by_cases c163 : t431 = true
                           ·subst c163
                            rw [if_pos rfl] at H
                            have H' := Aside0.mk H
                            clear H
                            have p429 : 0 ≤ (x11_4 : Int) := of_decide_eq_true (by first | (with_reducible assumption) | assumption)
                            have q429 : x11_4 < (t359.length : Int) := of_decide_eq_true (by first | (with_reducible assumption) | assumption)
                            obtain ⟨ad429, e429, hx429_0, hx429_1⟩ := at_T43 (Kd.R_reads' HO_7.out).2.2 x11_4 p429 q429
                            cases e429
                            replace p429 := eq_true p429
                            replace q429 := eq_true q429
                            go_wp2_with (first | ((with_reducible refine gate_callee (f := 21) rfl ?_); refine goesL_ (some 128) rfl rfl Try.func21 (by kernel_rfl) rfl #[.slice (some ad429) t359.length co133, .string ((rd_T43 t359 x11_4).f0)] rfl ca_ ?_; (with_reducible refine (label_Get.calls _ _ t359 ((rd_T43 t359 x11_4).f0) t430 true _ ?side1 ?side2 A161.out).mono ?_); (case side1 => repeat (first | exact (Kd.R_reads' HO_7.out).2.2 | (with_reducible refine Kd.C_alloc ?_ _) | (with_reducible refine Kd.C_drewN ?_ _) | (with_reducible refine Kd.C_drew ?_))); (case side2 => exact (Kd.R_reads' HO_7.out).2.1); rintro e w164 ⟨rfl, hb⟩; refine ⟨_, rfl, ?_⟩; replace HO_7 := Aside0.mk (Kd.R_below (ra_ HO_7.out) hb); replace BK357 := Aside0.mk (blk_below (g := gb357) (o := .cells #[.int .i64 a1_0, .int .i64 a1_1, .int .i64 a1_2] 35 (0, 0)) (by (with_reducible repeat (first | refine blk_drewN ?_ _ | refine blk_drew ?_ | refine blk_alloc ?_ _)); exact BK357.out) hb); replace BK358 := Aside0.mk (blk_below (g := gb358) (o := .cells #[.int .i64 a2_0, .int .i64 a2_1, .int .i64 a2_2] 35 (0, 0)) (by (with_reducible repeat (first | refine blk_drewN ?_ _ | refine blk_drew ?_ | refine blk_alloc ?_ _)); exact BK358.out) hb); replace BK365 := Aside0.mk (blk_below (g := gb365) (o := .cells #[.int .i64 t362, .string t363, .string t364] 38 (0, 0)) (by (with_reducible repeat (first | refine blk_drewN ?_ _ | refine blk_drew ?_ | refine blk_alloc ?_ _)); exact BK365.out) hb); replace BK366 := Aside0.mk (blk_below (g := gb366) (o := .cells #[.int .i64 (rd y367 t362), .string t363, .string t364] 38 (0, 0)) (by (with_reducible repeat (first | refine blk_drewN ?_ _ | refine blk_drew ?_ | refine blk_alloc ?_ _)); exact BK366.out) hb); replace HR411 := Aside0.mk (Kd.C_below (by repeat (first | (with_reducible exact HR411.out) | (with_reducible refine Kd.C_alloc ?_ _) | (with_reducible refine Kd.C_drewN ?_ _) | (with_reducible refine Kd.C_drew ?_) | exact HR411.out)) hb); replace HR418 := Aside0.mk (Kd.C_below (by repeat (first | (with_reducible exact HR418.out) | (with_reducible refine Kd.C_alloc ?_ _) | (with_reducible refine Kd.C_drewN ?_ _) | (with_reducible refine Kd.C_drew ?_) | exact HR418.out)) hb); replace HB := Aside0.mk (below_step (by repeat (first | (with_reducible first | exact HB.out | apply below_alloc | apply pw_below_drewN | apply below_drew1 | refine below_set ?_ GE357.out | refine below_set ?_ GE358.out | refine below_set ?_ GE365.out | refine below_set ?_ GE366.out) | exact HB.out)) hb); (try clear hb); (try clear hb2); (try clear hk); (try clear hi); have p432 : 0 ≤ (x11_4 : Int) := of_decide_eq_true (by first | (with_reducible assumption) | assumption); have q432 : x11_4 < (t359.length : Int) := of_decide_eq_true (by first | (with_reducible assumption) | assumption); obtain ⟨ad432, e432, hx432_0, hx432_1⟩ := at_T43 (Kd.R_reads' HO_7.out).2.2 x11_4 p432 q432; obtain rfl : ad429 = ad432 := (by injection e432); replace p432 := eq_true p432; replace q432 := eq_true q432))
                            go_roundg kj131
                            case measure => have := HJ7.out; have := HJ81.out; have := HJ107.out; have := HK4.out; have := HJ131.out; omega
                            case rel => exact ⟨(wrap64 (x11_4 + 1)), fs_, H', ⟨by have := HJ7.out; have := HJ81.out; have := HJ107.out; have := HK4.out; have := HJ131.out; omega⟩, ⟨by (with_reducible repeat (first | apply Kd.R_alloc | apply Kd.R_drewN | apply Kd.R_drew)); exact HO_7.out⟩, ⟨by (with_reducible repeat (first | refine blk_drewN ?_ _ | refine blk_drew ?_ | refine blk_alloc ?_ _)); exact BK357.out⟩, ⟨by (with_reducible repeat (first | refine blk_drewN ?_ _ | refine blk_drew ?_ | refine blk_alloc ?_ _)); exact BK358.out⟩, ⟨by (with_reducible repeat (first | refine blk_drewN ?_ _ | refine blk_drew ?_ | refine blk_alloc ?_ _)); exact BK365.out⟩, ⟨by (with_reducible repeat (first | refine blk_drewN ?_ _ | refine blk_drew ?_ | refine blk_alloc ?_ _)); exact BK366.out⟩, ⟨by repeat (first | (with_reducible first | exact HB.out | apply below_alloc | apply pw_below_drewN | apply below_drew1 | refine below_set ?_ GE357.out | refine below_set ?_ GE358.out | refine below_set ?_ GE365.out | refine below_set ?_ GE366.out) | exact HB.out)⟩⟩
                           ·replace c163 := Bool.eq_false_iff.mpr c163
                            subst c163
                            have H1 : (some false) = some true := by rw [if_neg (show ¬ (false = true) by decide)] at H; exact H
                            have H := H1; cases H
                          ·rw [if_neg c162] at H
                           cases H
                         ·rw [if_neg c160] at H
                          exact absurd H (by simp)
                        ·rw [if_neg c159] at H
                         exact absurd H (by simp)
                    ·rw [if_neg c131] at H
                     exact absurd H (by simp)
                   ·rw [if_neg c130] at H
                    exact absurd H (by simp)
                  ·rw [if_neg c129] at H
                   exact absurd H (by simp)
                 ·rw [if_neg c127] at H
                  exact absurd H (by simp)
                ·rw [if_neg c126] at H
                 exact absurd H (by simp)
               ·rw [if_neg c125] at H
                exact absurd H (by simp)
              ·rw [if_neg c124] at H
               have c124b0 : decide (x11_4 < (t359.length : Int)) = false := decide_eq_false c124
               clear c124
               replace H := Option.bind_eq_some_iff.mp H
               obtain ⟨t404, A1670, H⟩ := H
               try dsimp only at H
               have A167 := Aside0.mk A1670
               clear A1670
               obtain rfl := Option.some.inj H
               obtain ⟨Ao168, co168, eo168⟩ := Kd.R_slice HO_7.out
               subst eo168
               go_wp2_with (first | ((with_reducible refine gate_callee (f := 16) rfl ?_); refine goesL_ (some 142) rfl rfl Try.func16 (by kernel_rfl) rfl #[] rfl ca_ ?_; (with_reducible refine (drayagelaw03_works.calls k4  true _ A167.out).mono ?_); rintro e w169 ⟨rfl, hb⟩; refine ⟨_, rfl, ?_⟩; replace HO_7 := Aside0.mk (Kd.R_below (ra_ HO_7.out) hb); replace BK357 := Aside0.mk (blk_below (g := gb357) (o := .cells #[.int .i64 a1_0, .int .i64 a1_1, .int .i64 a1_2] 35 (0, 0)) (by (with_reducible repeat (first | refine blk_drewN ?_ _ | refine blk_drew ?_ | refine blk_alloc ?_ _)); exact BK357.out) hb); replace BK358 := Aside0.mk (blk_below (g := gb358) (o := .cells #[.int .i64 a2_0, .int .i64 a2_1, .int .i64 a2_2] 35 (0, 0)) (by (with_reducible repeat (first | refine blk_drewN ?_ _ | refine blk_drew ?_ | refine blk_alloc ?_ _)); exact BK358.out) hb); replace BK365 := Aside0.mk (blk_below (g := gb365) (o := .cells #[.int .i64 t362, .string t363, .string t364] 38 (0, 0)) (by (with_reducible repeat (first | refine blk_drewN ?_ _ | refine blk_drew ?_ | refine blk_alloc ?_ _)); exact BK365.out) hb); replace BK366 := Aside0.mk (blk_below (g := gb366) (o := .cells #[.int .i64 (rd y367 t362), .string t363, .string t364] 38 (0, 0)) (by (with_reducible repeat (first | refine blk_drewN ?_ _ | refine blk_drew ?_ | refine blk_alloc ?_ _)); exact BK366.out) hb); replace HB := Aside0.mk (below_step (by repeat (first | (with_reducible first | exact HB.out | apply below_alloc | apply pw_below_drewN | apply below_drew1 | refine below_set ?_ GE357.out | refine below_set ?_ GE358.out | refine below_set ?_ GE365.out | refine below_set ?_ GE366.out) | exact HB.out)) hb); (try clear hb); (try clear hb2); (try clear hk); (try clear hi)))
               go_ret
               exact ⟨fi_, by repeat (first | (with_reducible first | exact HB.out | apply below_alloc | apply pw_below_drewN | apply below_drew1 | refine below_set ?_ GE357.out | refine below_set ?_ GE358.out | refine below_set ?_ GE365.out | refine below_set ?_ GE366.out) | exact HB.out)⟩
  ·rw [if_neg c7] at H
   exact absurd H (by simp)
 ·rw [if_neg c6] at H
  exact absurd H (by simp)

end Go.Proofs.Ytfnfjkddlnnolaa.P

