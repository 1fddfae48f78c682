import Derived.Test.YtfnfjkddlnnolaaHval
import Derived.Test.YtfnfjkddlnnolaaPf43
import Derived.Test.YtfnfjkddlnnolaaPf44
import Derived.Test.YtfnfjkddlnnolaaPf45
namespace Go.Proofs.Ytfnfjkddlnnolaa.P
set_option linter.unusedVariables false
set_option linter.unusedSimpArgs false
open Go.RowKit Go.Proofs.YtfnfjkddlnnolaaW.PrintWords Go.Proofs.YtfnfjkddlnnolaaW.PrintLast Go.Proofs.YtfnfjkddlnnolaaW.PrintMore
def brn (a n : Int) : Int := if Int.tmod a n < 0 then Int.tmod a n + n else Int.tmod a n
theorem brn_bd (a n : Int) (h : 0 < n) : 0 ≤ brn a n ∧ brn a n < n := by
 unfold brn
 have h1 := Int.tmod_lt_of_pos a h
 have h2 : -n < Int.tmod a n := by
  rcases Int.le_total 0 a with h3 | h3
  ·have := Int.tmod_nonneg n h3; omega
  ·have h4 := Int.tmod_nonneg (a := -a) n (by omega)
   have h5 := Int.tmod_lt_of_pos (-a) h
   rw [Int.neg_tmod] at h4 h5
   omega
 split <;> omega
theorem bring_f (a n : Int) (h : 0 < n) (h2 : n ≤ 1000000) : drayageref00_Bring.f a n = some (brn a n) := by
 have hb := brn_bd a n h
 unfold drayageref00_Bring.f
 rw [if_neg (by omega)]
 unfold brn at hb ⊢
 split
 ·rename_i hc
  rw [if_pos hc] at hb
  congr 1
  unfold wrap64
  omega
 ·rfl
def values : List ByteArray := [⟨#[49]⟩, ⟨#[98]⟩, ⟨#[57, 45, 57]⟩, ⟨#[119, 101, 115, 116]⟩, ⟨#[45]⟩, ⟨#[97, 98, 99, 100, 101, 102, 103, 104, 105, 106, 107, 108, 109, 110, 111]⟩]
def smalls : List ByteArray := [⟨#[97]⟩, ⟨#[98]⟩, ⟨#[99, 57]⟩, ⟨#[100, 45, 101]⟩, ⟨#[122, 111, 110, 101]⟩, ⟨#[97, 98, 99, 100, 101, 102, 103, 104, 105, 106, 107, 108, 109, 110, 111]⟩, ⟨#[120]⟩, ⟨#[121, 45]⟩]
def valT (a : Int) : ByteArray := values.getD (brn a 6).toNat ⟨#[]⟩
def smaT (a : Int) : ByteArray := smalls.getD (brn a 8).toNat ⟨#[]⟩
theorem value_fT (a : Int) : drayagelaw03_value.f a = some (valT a) := by
 unfold drayagelaw03_value.f
 rw [Option.bind_some]
 have hb := brn_bd a 6 (by decide)
 show (drayageref00_Bring.f a 6).bind _ = _
 rw [bring_f a 6 (by decide) (by decide), Option.bind_some, if_pos hb.1]
 exact if_pos hb.2
theorem small_fT (a : Int) : drayagelaw03_small.f a = some (smaT a) := by
 unfold drayagelaw03_small.f
 rw [Option.bind_some]
 have hb := brn_bd a 8 (by decide)
 show (drayageref00_Bring.f a 8).bind _ = _
 rw [bring_f a 8 (by decide) (by decide), Option.bind_some, if_pos hb.1]
 exact if_pos hb.2
def hasA (l : List S35) : Nat → List ByteArray
 | 0 => [⟨#[]⟩, ⟨#[]⟩, ⟨#[]⟩, ⟨#[]⟩, ⟨#[]⟩, ⟨#[]⟩, ⟨#[]⟩, ⟨#[]⟩]
 | k + 1 => (hasA l k).set (brn (rd_T35 l (k : Int)).f0 8).toNat (valT (rd_T35 l (k : Int)).f1)
theorem hasA_len (l : List S35) : ∀ k, (hasA l k).length = 8
 | 0 => rfl
 | k + 1 => by unfold hasA; rw [List.length_set]; exact hasA_len l k
def ord : List Nat := [0, 5, 1, 2, 3, 6, 7, 4]
def outL (h : List ByteArray) : Nat → List S43
 | 0 => []
 | k + 1 => if (h.getD (ord.getD k 0) ⟨#[]⟩).toList ≠ [] ∧ (outL h k).length < 6 then outL h k ++ [⟨smalls.getD (ord.getD k 0) ⟨#[]⟩, h.getD (ord.getD k 0) ⟨#[]⟩⟩] else outL h k
def strs (h : List ByteArray) : Array Value := (h.map Value.string).toArray
theorem strs_set (h : List ByteArray) (i : Nat) (s : ByteArray) : (strs h).setIfInBounds i (.string s) = strs (h.set i s) := by
 unfold strs
 rw [List.setIfInBounds_toArray, List.map_set]
theorem strs_get (h : List ByteArray) (i : Nat) (hi : i < h.length) : (strs h)[i]? = some (.string (h.getD i ⟨#[]⟩)) := by
 unfold strs
 rw [List.getElem?_toArray, List.getElem?_map, List.getD_eq_getElem?_getD, List.getElem?_eq_getElem hi]
 rfl
theorem ord_lt (k : Nat) : ord.getD k 0 < 8 := by
 match k with
 | 0 | 1 | 2 | 3 | 4 | 5 | 6 | 7 => decide
 | k + 8 => exact (by decide : (0 : Nat) < 8)
theorem ord_get (k : Nat) (h : k < 8) : (#[.int .i64 0, .int .i64 5, .int .i64 1, .int .i64 2, .int .i64 3, .int .i64 6, .int .i64 7, .int .i64 4] : Array Value)[k]? = some (.int .i64 ((ord.getD k 0 : Nat) : Int)) := by
 match k, h with
 | 0, _ | 1, _ | 2, _ | 3, _ | 4, _ | 5, _ | 6, _ | 7, _ => rfl
theorem outL_skip {h : List ByteArray} {k : Nat} (hc : ¬ ((h.getD (ord.getD k 0) ⟨#[]⟩).toList ≠ [] ∧ (outL h k).length < 6)) : outL h (k + 1) = outL h k := by
 conv => lhs; unfold outL
 rw [if_neg hc]
theorem outL_add {h : List ByteArray} {k : Nat} (hc : (h.getD (ord.getD k 0) ⟨#[]⟩).toList ≠ [] ∧ (outL h k).length < 6) : outL h (k + 1) = outL h k ++ [⟨smalls.getD (ord.getD k 0) ⟨#[]⟩, h.getD (ord.getD k 0) ⟨#[]⟩⟩] := by
 conv => lhs; unfold outL
 rw [if_pos hc]
theorem smaT_o (o : Nat) (h : o < 8) : smaT (o : Int) = smalls.getD o ⟨#[]⟩ := by
 have e : brn (o : Int) 8 = (o : Int) := by
  unfold brn
  rw [Int.tmod_eq_emod_of_nonneg (by omega), if_neg (by omega)]
  omega
 unfold smaT
 rw [e, Int.toNat_natCast]
structure LS (w W : World) (pa po : Nat) (h : List ByteArray) (v : Value) (k : Nat) : Prop where
 o : W.heap[po]? = some (.cells #[.int .i64 0, .int .i64 5, .int .i64 1, .int .i64 2, .int .i64 3, .int .i64 6, .int .i64 7, .int .i64 4] 3 (0, 0))
 a : W.heap[pa]? = some (.cells (strs h) 67 (0, 0))
 b : Below w.heap.size w W
 r : Kd.R k43 43 W w.heap.size (fun j => j ≠ pa ∧ j ≠ po) v (outL h k)
theorem bring_b (a : Int) (w : World) : Calls Try.prog 44 #[.int .i64 a, .int .i64 8] w fun e w' => e = .returned (.int .i64 (brn a 8)) ∧ Below w.heap.size w w' :=
 (drayageref00_Bring.calls a 8 _ w (bring_f a 8 (by decide) (by decide))).mono fun _ _ ⟨he, n, hn⟩ => ⟨he, by subst hn; exact pw_below_drewN (Below.refl _ _) n⟩
theorem value_b (a : Int) (w : World) : Calls Try.prog 43 #[.int .i64 a] w fun e w' => e = .returned (.string (valT a)) ∧ Below w.heap.size w w' := drayagelaw03_value.calls a _ w (value_fT a)
theorem small_b (a : Int) (w : World) : Calls Try.prog 45 #[.int .i64 a] w fun e w' => e = .returned (.string (smaT a)) ∧ Below w.heap.size w w' := drayagelaw03_small.calls a _ w (small_fT a)
set_option maxRecDepth 100000 in
set_option maxHeartbeats 3200000 in
theorem labels_walk (A0 : Option Addr) (c0 : Nat) (l : List S35) (w : World) (hr : Kd.C k35 w A0 l.length l) (hc : l.length ≤ c0) :
  Calls Try.prog 17 #[.slice A0 l.length c0] w fun e w' => ∃ v0 : Value, e = .returned v0 ∧ Kd.R k43 43 w' w.heap.size (fun _ => True) v0 (outL (hasA l l.length) 8) ∧ Below w.heap.size w w' := by
 have hu35 := Try.underlying35
 have hu43 := Try.underlying43
 have hu67 := Try.underlying67
 have hm := Kd.C_max hr
 have HR := Aside0.mk (And.intro hr hc)
 clear hr hc
 obtain ⟨pa, hpa⟩ : ∃ pa, w.heap.size = pa := ⟨_, rfl⟩
 have h0 : Aside0 ((w.alloc (.cells #[.string ⟨#[]⟩, .string ⟨#[]⟩, .string ⟨#[]⟩, .string ⟨#[]⟩, .string ⟨#[]⟩, .string ⟨#[]⟩, .string ⟨#[]⟩, .string ⟨#[]⟩] 67)).heap[pa]? = some (.cells (strs (hasA l 0)) 67 (0, 0)) ∧ Below w.heap.size w (w.alloc (.cells #[.string ⟨#[]⟩, .string ⟨#[]⟩, .string ⟨#[]⟩, .string ⟨#[]⟩, .string ⟨#[]⟩, .string ⟨#[]⟩, .string ⟨#[]⟩, .string ⟨#[]⟩] 67))) :=
  ⟨⟨by rw [← hpa]; exact heap_alloc_new w _, below_alloc (Below.refl _ _) _⟩⟩
 obtain ⟨h, hh⟩ : ∃ h, hasA l l.length = h := ⟨_, rfl⟩
 have hlen : h.length = 8 := by rw [← hh]; exact hasA_len l _
 rw [hh]
 have HH := Aside0.mk hh
 clear hh
 go_enter Try.func17, Try.ntmps17
 go_wp2_with fail
 go_loopw [4] (fun v wr => ∃ k : Nat, k ≤ l.length ∧ v = .int .i64 k ∧ Aside0 (wr.heap[pa]? = some (.cells (strs (hasA l k)) 67 (0, 0)) ∧ Below w.heap.size w wr)) (fun v _ => l.length - (intOf v).toNat)
 case atStart => exact ⟨0, Nat.zero_le _, rfl, h0⟩
 case round =>
  clear h0
  obtain ⟨k, hk, rfl, HB⟩ := hrel
  by_cases hlt : k < l.length
  ·obtain ⟨ad, rfl, l0_, l1_, l2_⟩ := at_T35 (Kd.C_below HR.out.1 HB.out.2) (k : Int) (by omega) (by omega)
   rw [Int.toNat_natCast] at l0_ l1_ l2_
   have hA : Aside0 (hasA l (k + 1) = (hasA l k).set (brn (rd_T35 l (k : Int)).f0 8).toNat (valT (rd_T35 l (k : Int)).f1)) := ⟨rfl⟩
   generalize rd_T35 l (k : Int) = x at l0_ l1_ l2_ hA
   have i1 : ((k : Int) < (l.length : Int)) = True := eq_true (by omega)
   have i2 : ((0 : Int) ≤ (k : Int)) = True := eq_true (by omega)
   have hb := brn_bd x.f0 8 (by decide)
   obtain ⟨b, hbe⟩ : ∃ b, brn x.f0 8 = b := ⟨_, rfl⟩
   rw [hbe] at hb
   have j1 : (b < 8) = True := eq_true hb.2
   have j2 : (0 ≤ b) = True := eq_true hb.1
   have HBE := Aside0.mk hbe
   have hbb := bring_b x.f0
   rw [hbe] at hbb
   have HBB := Aside0.mk hbb
   clear hbe hbb l2_
   go_wp2_with fail
   refine start_ (n := 14) (S := fun w' => w'.cell? (ad.add (k * 3)) = some (.int .i64 x.f0) ∧ w'.cell? ⟨(ad.add (k * 3)).block, (ad.add (k * 3)).off + 1, none⟩ = some (.int .i64 x.f1)) (ds := [13]) #[false, false, false, false, false, false, false, false, false, false, false, false, false, false] (by kernel_rfl) rfl rfl ⟨l0_, l1_⟩ (fun hHeld => ?_)
   refine pureS_ (i := 0) (N := some 14) (v := ?_) (a' := ?_) rfl rfl (by kernel_rfl) (fun _ _ _ h => h) (Or.inl ⟨by rfl, ?_⟩) ?_ ?_
   rotate_left; (· intro w'; go_simp; with_reducible rfl); rotate_left; (· simp only [Act.put, List.setIfInBounds_toArray, List.set_cons_zero, List.set_cons_succ, i64_w, i32_w]; rfl)
   refine pureS_ (i := 1) (N := some 15) (v := ?_) (a' := ?_) rfl rfl (by kernel_rfl) (fun _ _ _ h => h) (Or.inl ⟨by rfl, ?_⟩) ?_ ?_
   rotate_left; (· intro w'; go_simp; with_reducible rfl); rotate_left; (· simp only [Act.put, List.setIfInBounds_toArray, List.set_cons_zero, List.set_cons_succ, i64_w, i32_w]; rfl)
   refine pureS_ (i := 2) (N := some 16) (v := ?_) (a' := ?_) rfl rfl (by kernel_rfl) (fun _ _ _ h => h) (Or.inl ⟨by rfl, ?_⟩) ?_ ?_
   rotate_left; (· intro w'; go_simp; with_reducible rfl); rotate_left; (· simp only [Act.put, List.setIfInBounds_toArray, List.set_cons_zero, List.set_cons_succ, i64_w, i32_w]; rfl)
   refine pureS_ (i := 3) (N := some 17) (v := ?_) (a' := ?_) rfl rfl (by kernel_rfl) (fun _ _ _ h => h) (Or.inl ⟨by rfl, ?_⟩) ?_ ?_
   rotate_left; (· intro w'; go_simp; with_reducible rfl); rotate_left; (· simp only [Act.put, List.setIfInBounds_toArray, List.set_cons_zero, List.set_cons_succ, i64_w, i32_w]; rfl)
   refine pureS_ (i := 6) (N := some 20) (v := ?_) (a' := ?_) rfl rfl (by kernel_rfl) (fun _ _ _ h => h) (Or.inl ⟨by rfl, ?_⟩) ?_ ?_
   rotate_left; (· intro w'; go_simp; with_reducible rfl); rotate_left; (· simp only [Act.put, List.setIfInBounds_toArray, List.set_cons_zero, List.set_cons_succ, i64_w, i32_w]; rfl)
   refine pureS_ (i := 7) (N := some 21) (v := ?_) (a' := ?_) rfl rfl (by kernel_rfl) (fun _ _ _ h => h) (Or.inl ⟨by rfl, ?_⟩) ?_ ?_
   rotate_left; (· intro w'; go_simp; with_reducible rfl); rotate_left; (· simp only [Act.put, List.setIfInBounds_toArray, List.set_cons_zero, List.set_cons_succ, i64_w, i32_w]; rfl)
   refine pureS_ (i := 8) (N := some 22) (v := ?_) (a' := ?_) rfl rfl (by kernel_rfl) (fun _ _ _ h => h) (Or.inl ⟨by rfl, ?_⟩) ?_ ?_
   rotate_left; (· intro w'; go_simp; with_reducible rfl); rotate_left; (· simp only [Act.put, List.setIfInBounds_toArray, List.set_cons_zero, List.set_cons_succ, i64_w, i32_w]; rfl)
   refine pureS_ (i := 9) (N := some 23) (v := ?_) (a' := ?_) rfl rfl (by kernel_rfl) (fun _ _ _ h => h) (Or.inl ⟨by rfl, ?_⟩) ?_ ?_
   rotate_left; (· intro w'; go_simp; with_reducible rfl); rotate_left; (· simp only [Act.put, List.setIfInBounds_toArray, List.set_cons_zero, List.set_cons_succ, i64_w, i32_w]; rfl)
   refine takeS_ (i := 4) (N := some 18) (v := ?_) (a' := ?_) rfl rfl (by kernel_rfl) (fun _ _ _ h => h) (Or.inl ⟨by rfl, ?_⟩) hHeld ?_ ?_
   rotate_left; (· rintro w' ⟨s0, s1⟩; go_simp; with_reducible rfl); rotate_left; (· simp only [Act.put, List.setIfInBounds_toArray, List.set_cons_zero, List.set_cons_succ, i64_w, i32_w]; rfl)
   refine takeS_ (i := 10) (N := some 24) (v := ?_) (a' := ?_) rfl rfl (by kernel_rfl) (fun _ _ _ h => h) (Or.inl ⟨by rfl, ?_⟩) hHeld ?_ ?_
   rotate_left; (· rintro w' ⟨s0, s1⟩; go_simp; with_reducible rfl); rotate_left; (· simp only [Act.put, List.setIfInBounds_toArray, List.set_cons_zero, List.set_cons_succ, i64_w, i32_w]; rfl)
   refine oneS_ (i := 5) (N := some 19) rfl rfl (by kernel_rfl) (by decide) (fun K hK => ?_)
   refine goes_ Try.func44 (by kernel_rfl) rfl #[.int .i64 x.f0, .int .i64 8] (by rfl) rfl rfl (by first | rfl | (go_simp; done) | (simp only [List.map_toArray, List.map_cons, List.map_nil]; rfl)) ?_
   with_reducible refine (HBB.out _).mono ?_
   rintro e W5 ⟨rfl, hb5⟩
   refine ⟨_, rfl, ?_⟩
   refine hK.out _ _ ⟨(pw_cell_below hb5 l0_), (pw_cell_below hb5 l1_)⟩ (fun hHeld => ?_)
   clear hK K
   refine norm_ (a' := ?_) ?_ ?_
   rotate_left
   ·show Act.put _ (some 19) _ = _
    simp only [Act.put, List.setIfInBounds_toArray, List.set_cons_zero, List.set_cons_succ, i64_w, i32_w]
    rfl
   refine oneS_ (i := 11) (N := some 25) rfl rfl (by kernel_rfl) (by decide) (fun K hK => ?_)
   refine goes_ Try.func43 (by kernel_rfl) rfl #[.int .i64 x.f1] (by rfl) rfl rfl (by first | rfl | (go_simp; done) | (simp only [List.map_toArray, List.map_cons, List.map_nil]; rfl)) ?_
   with_reducible refine (value_b _ _).mono ?_
   rintro e W6 ⟨rfl, hb6⟩
   refine ⟨_, rfl, ?_⟩
   have hp6 := blk_below (blk_below (show wr.drew.heap[pa]? = some (.cells (strs (hasA l k)) 67 (0, 0)) from HB.out.1) hb5) hb6
   have hc6 : W6.cell? ⟨pa, b.toNat, none⟩ = some (.string ((hasA l k).getD b.toNat ⟨#[]⟩)) := (blk_cell hp6 _).trans (strs_get _ _ (by rw [hasA_len]; omega))
   have hf6 := blk_frozen hp6 b.toNat
   refine hK.out _ _ ⟨(pw_cell_below hb6 (pw_cell_below hb5 l0_)), (pw_cell_below hb6 (pw_cell_below hb5 l1_))⟩ (fun hHeld => ?_)
   clear hK K
   refine norm_ (a' := ?_) ?_ ?_
   rotate_left
   ·show Act.put _ (some 25) _ = _
    simp only [Act.put, List.setIfInBounds_toArray, List.set_cons_zero, List.set_cons_succ, i64_w, i32_w]
    rfl
   refine pureS_ (i := 12) (N := some 26) (v := ?_) (a' := ?_) rfl rfl (by kernel_rfl) (fun _ _ _ h => h) (Or.inl ⟨by rfl, ?_⟩) ?_ ?_
   rotate_left; (· intro w'; go_simp; with_reducible rfl); rotate_left; (· simp only [Act.put, List.setIfInBounds_toArray, List.set_cons_zero, List.set_cons_succ, i64_w, i32_w]; rfl)
   refine lastS_ (i := 13) (N := none) rfl rfl (by kernel_rfl) (by decide) (fun K hK => ?_)
   refine skip_ (w1 := ?_) (by rfl) rfl ?_ ?_
   rotate_left
   ·go_simp
    rfl
   refine hK.out _ _ ?_
   clear hK K
   refine done_ (by kernel_rfl) ?_
   have hset : Aside0 ((W6.setCell ⟨pa, b.toNat, none⟩ (.string (valT x.f1))).heap[pa]? = some (.cells (strs (hasA l (k + 1))) 67 (0, 0)) ∧ Below w.heap.size w (W6.setCell ⟨pa, b.toNat, none⟩ (.string (valT x.f1)))) :=
    ⟨⟨blk_put hp6 b.toNat _ (by rw [strs_set, hA.out, HBE.out]), below_set (below_step (below_step (below_drew1 HB.out.2) hb5) hb6) (by omega)⟩⟩
   clear hb5 hb6 hp6 hc6 hf6 HB l0_ l1_ i1 i2 j1 j2 hb HBB HBE hA
   go_wp2_with fail
   go_roundw
   case rel => exact ⟨k + 1, by omega, by go_num, hset⟩
   case measure => simp [intOf]; omega
  ·obtain rfl : k = l.length := by omega
   have HA : Aside0 (wr.heap[pa]? = some (.cells (strs h) 67 (0, 0)) ∧ Below w.heap.size w wr) := ⟨by rw [← HH.out]; exact HB.out.1, HB.out.2⟩
   clear HB
   obtain ⟨po, hpo⟩ : ∃ po, wr.heap.size = po := ⟨_, rfl⟩
   have hpp : pa < po := by rw [← hpo]; exact blk_lt HA.out.1
   have hq : Aside0 ((wr.alloc (.cells #[.int .i64 0, .int .i64 5, .int .i64 1, .int .i64 2, .int .i64 3, .int .i64 6, .int .i64 7, .int .i64 4] 3)).heap[po]? = some (.cells #[.int .i64 0, .int .i64 5, .int .i64 1, .int .i64 2, .int .i64 3, .int .i64 6, .int .i64 7, .int .i64 4] 3 (0, 0)) ∧
     (wr.alloc (.cells #[.int .i64 0, .int .i64 5, .int .i64 1, .int .i64 2, .int .i64 3, .int .i64 6, .int .i64 7, .int .i64 4] 3)).heap[pa]? = some (.cells (strs h) 67 (0, 0)) ∧ Below w.heap.size w (wr.alloc (.cells #[.int .i64 0, .int .i64 5, .int .i64 1, .int .i64 2, .int .i64 3, .int .i64 6, .int .i64 7, .int .i64 4] 3))) :=
    ⟨⟨by rw [← hpo]; exact heap_alloc_new wr _, blk_below HA.out.1 (below_alloc (Below.refl _ _) _), below_alloc HA.out.2 _⟩⟩
   clear HA
   go_wp2_with fail
   obtain ⟨wo, rfl⟩ : ∃ wo : World, wo = wr := ⟨_, rfl⟩
   go_loopw [6, 7] (fun v u wq => ∃ k : Nat, k ≤ 8 ∧ u = .int .i64 k ∧ Aside0 (LS w wq pa po h v k)) (fun _ u _ => 8 - (intOf u).toNat)
   case atStart => exact ⟨0, Nat.zero_le _, rfl, ⟨⟨hq.out.1, hq.out.2.1, hq.out.2.2, Kd.R_nil _ _ _ _ _⟩⟩⟩
   case round =>
    clear hq
    obtain ⟨k, hk, rfl, HL⟩ := hrel
    by_cases hlt : k < 8
    ·obtain ⟨o, ho⟩ : ∃ o, ord.getD k 0 = o := ⟨_, rfl⟩
     have ho8 : o < 8 := by rw [← ho]; exact ord_lt k
     have hcp : wr.cell? ⟨po, k, none⟩ = some (.int .i64 (o : Int)) := by rw [← ho]; exact (blk_cell HL.out.o k).trans (ord_get k hlt)
     obtain ⟨s, hs⟩ : ∃ s, h.getD o ⟨#[]⟩ = s := ⟨_, rfl⟩
     have hca : wr.cell? ⟨pa, o, none⟩ = some (.string s) := by rw [← hs]; exact (blk_cell HL.out.a o).trans (strs_get h o (by omega))
     have HO : Aside0 (ord.getD k 0 = o ∧ h.getD o ⟨#[]⟩ = s) := ⟨ho, hs⟩
     obtain ⟨A6, c6, e6⟩ := Kd.R_slice HL.out.r
     subst e6
     obtain ⟨acc, hacc⟩ : ∃ acc, outL h k = acc := ⟨_, rfl⟩
     rw [hacc] at HL
     have HC := Aside0.mk hacc
     have i1 : ((k : Int) < 8) = True := eq_true (by omega)
     have i2 : ((0 : Int) ≤ (k : Int)) = True := eq_true (by omega)
     have j1 : ((o : Int) < 8) = True := eq_true (by omega)
     have j2 : ((0 : Int) ≤ (o : Int)) = True := eq_true (by omega)
     rw [hacc]
     clear ho hs hacc
     have HRr : Aside0 (Kd.R k43 43 wr w.heap.size (fun j => j ≠ pa ∧ j ≠ po) (.slice A6 acc.length c6) acc) := ⟨by have := HL.out.r; rwa [HC.out] at this⟩
     by_cases hs0 : s.toList = []
     ·have b0 : s.toList.isEmpty = true := by rw [hs0]; rfl
      have hst : Aside0 (LS w wr pa po h (.slice A6 acc.length c6) (k + 1)) := ⟨⟨HL.out.o, HL.out.a, HL.out.b, by rw [outL_skip (by rw [HO.out.1, HO.out.2]; exact fun h => h.1 hs0), HC.out]; exact HRr.out⟩⟩
      go_wp2_with fail
      go_roundw
      case rel => exact ⟨k + 1, by omega, by go_num, hst⟩
      case measure => simp [intOf]; omega
     ·have b0 : s.toList.isEmpty = false := by rw [Bool.eq_false_iff]; intro h; exact hs0 (List.isEmpty_iff.1 h)
      by_cases h6 : acc.length < 6
      ·have b1 : decide ((acc.length : Int) < 6) = true := decide_eq_true (by omega)
       have hpal := blk_lt HL.out.a
       have hpol := blk_lt HL.out.o
       go_wp2_with fail
       refine start_ (n := 16) (S := fun w' => w'.cell? ⟨po, k, none⟩ = some (.int .i64 (o : Int)) ∧ w'.cell? ⟨pa, o, none⟩ = some (.string s)) (ds := [14]) #[false, false, false, false, false, false, false, false, false, false, false, false, false, false, false, false] (by kernel_rfl) rfl rfl ⟨hcp, hca⟩ (fun hHeld => ?_)
       refine pureS_ (i := 0) (N := some 44) (v := ?_) (a' := ?_) rfl rfl (by kernel_rfl) (fun _ _ _ h => h) (Or.inl ⟨by rfl, ?_⟩) ?_ ?_
       rotate_left; (· intro w'; go_simp; with_reducible rfl); rotate_left; (· simp only [Act.put, List.setIfInBounds_toArray, List.set_cons_zero, List.set_cons_succ, i64_w, i32_w]; rfl)
       refine pureS_ (i := 1) (N := some 45) (v := ?_) (a' := ?_) rfl rfl (by kernel_rfl) (fun _ _ _ h => h) (Or.inl ⟨by rfl, ?_⟩) ?_ ?_
       rotate_left; (· intro w'; go_simp; with_reducible rfl); rotate_left; (· simp only [Act.put, List.setIfInBounds_toArray, List.set_cons_zero, List.set_cons_succ, i64_w, i32_w]; rfl)
       refine pureS_ (i := 2) (N := some 46) (v := ?_) (a' := ?_) rfl rfl (by kernel_rfl) (fun _ _ _ h => h) (Or.inl ⟨by rfl, ?_⟩) ?_ ?_
       rotate_left; (· intro w'; go_simp; with_reducible rfl); rotate_left; (· simp only [Act.put, List.setIfInBounds_toArray, List.set_cons_zero, List.set_cons_succ, i64_w, i32_w]; rfl)
       refine pureS_ (i := 3) (N := some 47) (v := ?_) (a' := ?_) rfl rfl (by kernel_rfl) (fun _ _ _ h => h) (Or.inl ⟨by rfl, ?_⟩) ?_ ?_
       rotate_left; (· intro w'; go_simp; with_reducible rfl); rotate_left; (· simp only [Act.put, List.setIfInBounds_toArray, List.set_cons_zero, List.set_cons_succ, i64_w, i32_w]; rfl)
       refine pureS_ (i := 6) (N := some 50) (v := ?_) (a' := ?_) rfl rfl (by kernel_rfl) (fun _ _ _ h => h) (Or.inl ⟨by rfl, ?_⟩) ?_ ?_
       rotate_left; (· intro w'; go_simp; with_reducible rfl); rotate_left; (· simp only [Act.put, List.setIfInBounds_toArray, List.set_cons_zero, List.set_cons_succ, i64_w, i32_w]; rfl)
       refine pureS_ (i := 7) (N := some 51) (v := ?_) (a' := ?_) rfl rfl (by kernel_rfl) (fun _ _ _ h => h) (Or.inl ⟨by rfl, ?_⟩) ?_ ?_
       rotate_left; (· intro w'; go_simp; with_reducible rfl); rotate_left; (· simp only [Act.put, List.setIfInBounds_toArray, List.set_cons_zero, List.set_cons_succ, i64_w, i32_w]; rfl)
       refine pureS_ (i := 8) (N := some 52) (v := ?_) (a' := ?_) rfl rfl (by kernel_rfl) (fun _ _ _ h => h) (Or.inl ⟨by rfl, ?_⟩) ?_ ?_
       rotate_left; (· intro w'; go_simp; with_reducible rfl); rotate_left; (· simp only [Act.put, List.setIfInBounds_toArray, List.set_cons_zero, List.set_cons_succ, i64_w, i32_w]; rfl)
       refine takeS_ (i := 4) (N := some 48) (v := ?_) (a' := ?_) rfl rfl (by kernel_rfl) (fun _ _ _ h => h) (Or.inl ⟨by rfl, ?_⟩) hHeld ?_ ?_
       rotate_left; (· rintro w' ⟨s0, s1⟩; go_simp; with_reducible rfl); rotate_left; (· simp only [Act.put, List.setIfInBounds_toArray, List.set_cons_zero, List.set_cons_succ, i64_w, i32_w]; rfl)
       refine takeS_ (i := 9) (N := some 53) (v := ?_) (a' := ?_) rfl rfl (by kernel_rfl) (fun _ _ _ h => h) (Or.inl ⟨by rfl, ?_⟩) hHeld ?_ ?_
       rotate_left; (· rintro w' ⟨s0, s1⟩; go_simp; with_reducible rfl); rotate_left; (· simp only [Act.put, List.setIfInBounds_toArray, List.set_cons_zero, List.set_cons_succ, i64_w, i32_w]; rfl)
       refine pureS_ (i := 10) (N := some 54) (v := ?_) (a' := ?_) rfl rfl (by kernel_rfl) (fun _ _ _ h => h) (Or.inl ⟨by rfl, ?_⟩) ?_ ?_
       rotate_left; (· intro w'; go_simp; with_reducible rfl); rotate_left; (· simp only [Act.put, List.setIfInBounds_toArray, List.set_cons_zero, List.set_cons_succ, i64_w, i32_w]; rfl)
       refine takeS_ (i := 11) (N := some 55) (v := ?_) (a' := ?_) rfl rfl (by kernel_rfl) (fun _ _ _ h => h) (Or.inl ⟨by rfl, ?_⟩) hHeld ?_ ?_
       rotate_left; (· rintro w' ⟨s0, s1⟩; go_simp; with_reducible rfl); rotate_left; (· simp only [Act.put, List.setIfInBounds_toArray, List.set_cons_zero, List.set_cons_succ, i64_w, i32_w]; rfl)
       refine oneS_ (i := 5) (N := some 49) rfl rfl (by kernel_rfl) (by decide) (fun K hK => ?_)
       refine goes_ Try.func45 (by kernel_rfl) rfl #[.int .i64 (o : Int)] (by rfl) rfl rfl (by first | rfl | (go_simp; done) | (simp only [List.map_toArray, List.map_cons, List.map_nil]; rfl)) ?_
       with_reducible refine (small_b _ _).mono ?_
       rintro e W5 ⟨rfl, hb5⟩
       refine ⟨_, rfl, ?_⟩
       refine hK.out _ _ ⟨(pw_cell_below hb5 hcp), (pw_cell_below hb5 hca)⟩ (fun hHeld => ?_)
       clear hK K
       refine norm_ (a' := ?_) ?_ ?_
       rotate_left
       ·show Act.put _ (some 49) _ = _
        simp only [Act.put, List.setIfInBounds_toArray, List.set_cons_zero, List.set_cons_succ, i64_w, i32_w]
        rfl
       refine pureS_ (i := 12) (N := some 56) (v := ?_) (a' := ?_) rfl rfl (by kernel_rfl) (fun _ _ _ h => h) (Or.inl ⟨by rfl, ?_⟩) ?_ ?_
       rotate_left; (· intro w'; go_simp; with_reducible rfl); rotate_left; (· simp only [Act.put, List.setIfInBounds_toArray, List.set_cons_zero, List.set_cons_succ, i64_w, i32_w]; rfl)
       refine oneS_ (i := 13) (N := some 57) rfl rfl (by kernel_rfl) (by decide) (fun K hK => ?_)
       refine value_ (w1 := ?_) (v := ?_) (by rfl) rfl ?_ ?_
       rotate_left 2
       ·go_simp
        constructor
        ·rfl
        ·rfl
       refine hK.out _ _ ⟨(pw_cell_below (below_alloc (Below.refl _ _) _) (pw_cell_below hb5 hcp)), (pw_cell_below (below_alloc (Below.refl _ _) _) (pw_cell_below hb5 hca))⟩ (fun hHeld => ?_)
       clear hK K
       refine norm_ (a' := ?_) ?_ ?_
       rotate_left
       ·show Act.put _ (some 57) _ = _
        simp only [Act.put, List.setIfInBounds_toArray, List.set_cons_zero, List.set_cons_succ, i64_w, i32_w]
        rfl
       refine lastS_ (i := 14) (N := some 58) rfl rfl (by kernel_rfl) (by decide) (fun K hK => ?_)
       refine Kd.R_append_step k43 (w0 := w) w.heap.size (by rfl) (.tmp 44) (.tmp 57) 22 43 (.agg #[(.string ⟨#[]⟩), (.string ⟨#[]⟩)]) 32 rfl Try.underlying22 info43 rfl (by decide) (by omega) (.slice A6 acc.length c6) acc (⟨smaT (o : Int), s⟩ : S43) [.string (smaT (o : Int)), .string s] (fun j => j ≠ pa ∧ j ≠ po) (fun _ => False) rfl rfl ?aP (fun _ hk => hk.elim) ?aF ?aO ?aB ?aS ?aL ?_
       (case aP => exact k43_mkM _ _ _ (⟨smaT (o : Int), s⟩ : S43))
       (case aB => exact below_step (below_drew1 HL.out.b) hb5)
       (case aF => exact fun j hj => by have h1 := hb5.size; have h2 : wr.drew.heap.size = wr.heap.size := rfl; omega)
       (case aO => exact Kd.R_below (Kd.R_drew HRr.out) hb5)
       (case aS => exact below_size (below_step (below_drew1 HL.out.b) hb5))
       (case aL => omega)
       intro v7 W7 HV7 HB7 hg7 hat7
       refine hK.out _ _ ?_
       clear hK K
       refine norm_ (a' := ?_) ?_ ?_
       rotate_left
       ·show Act.put _ (some 58) _ = _
        simp only [Act.put, List.setIfInBounds_toArray, List.set_cons_zero, List.set_cons_succ, i64_w, i32_w]
        rfl
       refine pureS_ (i := 15) (N := some 6) (v := ?_) (a' := ?_) rfl rfl (by kernel_rfl) (fun _ _ _ h => h) (Or.inl ⟨by rfl, ?_⟩) ?_ ?_
       rotate_left; (· intro w'; go_simp; with_reducible rfl); rotate_left; (· simp only [Act.put, List.setIfInBounds_toArray, List.set_cons_zero, List.set_cons_succ, i64_w, i32_w]; rfl)
       refine done_ (by kernel_rfl) ?_
       have hst : Aside0 (LS w W7 pa po h v7 (k + 1)) := ⟨⟨blk_grown (blk_below (show wr.drew.heap[po]? = _ from HL.out.o) hb5) hg7 (fun e => (HRr.out.1 po e.symm).2 rfl), blk_grown (blk_below (show wr.drew.heap[pa]? = _ from HL.out.a) hb5) hg7 (fun e => (HRr.out.1 pa e.symm).1 rfl), HB7,
        by rw [outL_add (by rw [HO.out.1, HO.out.2, HC.out]; exact ⟨hs0, h6⟩), HO.out.1, HO.out.2, HC.out, ← smaT_o o ho8]; exact HV7⟩⟩
       clear HV7 HB7 hg7 hat7 hb5 HRr HL b0 b1 hs0 i1 i2 j1 j2 hcp hca
       go_wp2_with fail
       go_roundw
       case rel => exact ⟨k + 1, by omega, by go_num, hst⟩
       case measure => simp [intOf]; omega
      ·have b1 : decide ((acc.length : Int) < 6) = false := decide_eq_false (by omega)
       have hst : Aside0 (LS w wr pa po h (.slice A6 acc.length c6) (k + 1)) := ⟨⟨HL.out.o, HL.out.a, HL.out.b, by rw [outL_skip (by rw [HC.out]; exact fun h => h6 h.2), HC.out]; exact HRr.out⟩⟩
       go_wp2_with fail
       go_roundw
       case rel => exact ⟨k + 1, by omega, by go_num, hst⟩
       case measure => simp [intOf]; omega
    ·obtain rfl : k = 8 := by omega
     go_wp2_with fail
     go_ret
     exact ⟨_, rfl, Kd.R_mono HL.out.r (fun _ _ => trivial), HL.out.b⟩
def drayagelaw03_labels.f (l : List S35) : Option (List S43) := some (outL (hasA l l.length) 8)
theorem drayagelaw03_labels.calls (A0 : Option Addr) (c0 : Nat) (l0 : List S35) (r : List S43) (w : World) (hr0 : Kd.C k35 w A0 l0.length l0) (hc0 : l0.length ≤ c0) (h : drayagelaw03_labels.f l0 = some r) :
  Calls Try.prog 17 #[.slice A0 l0.length c0] w fun e w' => ∃ v0_ : Value, e = .returned v0_ ∧ Kd.R k43 43 w' w.heap.size (fun _ => True) v0_ r ∧ Below w.heap.size w w' := by
 obtain rfl := Option.some.inj h
 exact labels_walk A0 c0 l0 w hr0 hc0
end Go.Proofs.Ytfnfjkddlnnolaa.P
