import Derived.Test.YtfnfjkddlnnolaaPf60
import Derived.Test.YtfnfjkddlnnolaaPf61
import Derived.Test.YtfnfjkddlnnolaaPf64
import Derived.Test.YtfnfjkddlnnolaaPf71
import Derived.Lib.OthersKept
import Derived.Lib.RuneLoops
namespace Go.Proofs.Ytfnfjkddlnnolaa.P
set_option linter.unusedVariables false
set_option linter.unusedSimpArgs false
open Go.RowKit Go.Proofs.YtfnfjkddlnnolaaW.PrintWords Go.Proofs.YtfnfjkddlnnolaaW.PrintLast Go.Proofs.YtfnfjkddlnnolaaW.PrintMore

def smaB (c : Int) : Bool := decide (97 ≤ c) && decide (c ≤ 122)
def insB (c : Int) : Bool := smaB c || (decide (48 ≤ c) && decide (c ≤ 57)) || decide (c = 45)
def fB (b : Bool) (c : Int) : Bool := if b then smaB c else insB c
def fV (b : Bool) : Value := .func (.func (if b then 71 else 64)) #[] #[]
theorem small_f (c : Int) : label_small.f c = some (smaB c) := by
 unfold label_small.f smaB
 by_cases h : 97 ≤ c
 ·rw [if_pos h, decide_eq_true h]; simp
 ·rw [if_neg h, decide_eq_false h]; simp
theorem inside_f (c : Int) : label_inside.f c = some (insB c) := by
 unfold label_inside.f
 rw [small_f]
 simp only [Option.bind_some]
 unfold insB
 cases smaB c with
 | true => simp
 | false =>
  by_cases h1 : 48 ≤ c
  ·by_cases h2 : c ≤ 57
   ·simp [h1, h2]
   ·simp [h1, h2]; rfl
  ·simp [h1]; rfl
abbrev gb (s : ByteArray) (p : Nat) : Int := bt s (p : Int)
theorem wrap_gb (s : ByteArray) (p : Nat) (h : p < s.size) : wrap32 ((s[p]'h).toNat : Int) = gb s p := by
 have h1 := bt_at s (p : Int) (by simpa using h)
 have h2 := bt_range s (p : Int)
 simp only [Int.toNat_natCast] at h1
 unfold gb
 rw [← h1] at h2 ⊢
 unfold wrap32
 omega
def runE (s : ByteArray) : Nat → Bool → Nat → Nat
 | 0, _, p => p
 | k + 1, b, p => if p < s.size ∧ fB b (gb s p) = true ∧ p ≠ 15 then runE s k false (p + 1) else p
def runF (b : Bool) (t : ByteArray) (at_ e : Int) : Option (ByteArray × ByteArray × Int × Int) :=
 if e = 0 then
  if 0 ≤ at_ ∧ at_ ≤ (t.size : Int) then
   (if runE (t.extract at_.toNat t.size) 16 b 0 = 0 ∨ (at_.toNat + runE (t.extract at_.toNat t.size) 16 b 0 < t.size ∧ insB (gb t (at_.toNat + runE (t.extract at_.toNat t.size) 16 b 0)) = true) then
    some (⟨#[]⟩, t, ((at_.toNat + runE (t.extract at_.toNat t.size) 16 b 0 : Nat) : Int), if at_.toNat + runE (t.extract at_.toNat t.size) 16 b 0 = t.size then 3 else 4)
   else some (t.extract at_.toNat (at_.toNat + runE (t.extract at_.toNat t.size) 16 b 0), t, ((at_.toNat + runE (t.extract at_.toNat t.size) 16 b 0 : Nat) : Int), 0))
  else none
 else some (⟨#[]⟩, t, at_, e)
def dN (b0 b1 b2 b3 : Nat) (c1 c2 c3 : Bool) : Nat × Nat :=
 if b0 < 0x80 then (b0, 1)
 else if (b0 / 32 == 6 && (c1 && b1 / 64 == 2)) = true then
  if (b0 % 32) * 64 + b1 % 64 ≥ 0x80 then ((b0 % 32) * 64 + b1 % 64, 2) else (65533, 1)
 else if (b0 / 16 == 14 && (c1 && b1 / 64 == 2) && (c2 && b2 / 64 == 2)) = true then
  if (decide ((b0 % 16) * 4096 + (b1 % 64) * 64 + b2 % 64 ≥ 0x800) && Utf8.valid (((b0 % 16) * 4096 + (b1 % 64) * 64 + b2 % 64 : Nat) : Int)) = true then ((b0 % 16) * 4096 + (b1 % 64) * 64 + b2 % 64, 3) else (65533, 1)
 else if (b0 / 8 == 30 && (c1 && b1 / 64 == 2) && (c2 && b2 / 64 == 2) && (c3 && b3 / 64 == 2)) = true then
  if (decide ((b0 % 8) * 262144 + (b1 % 64) * 4096 + (b2 % 64) * 64 + b3 % 64 ≥ 0x10000) && Utf8.valid (((b0 % 8) * 262144 + (b1 % 64) * 4096 + (b2 % 64) * 64 + b3 % 64 : Nat) : Int)) = true then ((b0 % 8) * 262144 + (b1 % 64) * 4096 + (b2 % 64) * 64 + b3 % 64, 4) else (65533, 1)
 else (65533, 1)
theorem decode_dN (s : ByteArray) (pos : Nat) : Utf8.decode s pos = dN (s.get! pos).toNat (s.get! (pos + 1)).toNat (s.get! (pos + 2)).toNat (s.get! (pos + 3)).toNat (decide (pos + 1 < s.size)) (decide (pos + 2 < s.size)) (decide (pos + 3 < s.size)) := rfl
theorem dN_big (b0 b1 b2 b3 : Nat) (c1 c2 c3 : Bool) (h : ¬ b0 < 128) : 128 ≤ (dN b0 b1 b2 b3 c1 c2 c3).1 := by
 unfold dN
 rw [if_neg h]
 split
 ·split
  ·dsimp only; omega
  ·dsimp only; omega
 split
 ·split
  ·rename_i hc
   simp only [Bool.and_eq_true, decide_eq_true_eq] at hc
   dsimp only; omega
  ·dsimp only; omega
 split
 ·split
  ·rename_i hc
   simp only [Bool.and_eq_true, decide_eq_true_eq] at hc
   dsimp only; omega
  ·dsimp only; omega
 ·dsimp only; omega
theorem gb_get (s : ByteArray) (p : Nat) (h : p < s.size) : gb s p = ((s.get! p).toNat : Int) := by
 unfold gb bt
 rw [dif_pos (by simpa using h)]
 congr 2
 show s.data[p] = s.data[p]!
 rw [getElem!_pos s.data p h]
theorem fB_lt (b : Bool) (c : Int) (h : fB b c = true) : c < 128 := by
 have h1 : insB c = true := by
  cases b with
  | false => exact h
  | true =>
   unfold fB at h
   unfold insB
   simp only [if_true] at h
   rw [h]
   rfl
 unfold insB smaB at h1
 simp only [Bool.or_eq_true, Bool.and_eq_true, decide_eq_true_eq] at h1
 omega
theorem ascii_fB (b : Bool) (s : ByteArray) (p : Nat) (hp : p < s.size) : fB b (((Utf8.decode s p).1 : Nat) : Int) = fB b (gb s p) ∧ (fB b (gb s p) = true → (Utf8.decode s p).2 = 1) := by
 rw [gb_get s p hp, decode_dN]
 by_cases h : (s.get! p).toNat < 128
 ·unfold dN
  rw [if_pos h]
  exact ⟨rfl, fun _ => rfl⟩
 ·have h1 := dN_big (s.get! p).toNat (s.get! (p + 1)).toNat (s.get! (p + 2)).toNat (s.get! (p + 3)).toNat (decide (p + 1 < s.size)) (decide (p + 2 < s.size)) (decide (p + 3 < s.size)) h
  generalize dN (s.get! p).toNat (s.get! (p + 1)).toNat (s.get! (p + 2)).toNat (s.get! (p + 3)).toNat (decide (p + 1 < s.size)) (decide (p + 2 < s.size)) (decide (p + 3 < s.size)) = d at h1
  have h2 : fB b (((d.1 : Nat)) : Int) = false := by
   cases hv : fB b (((d.1 : Nat)) : Int) with
   | false => rfl
   | true => have := fB_lt _ _ hv; omega
  have h3 : fB b (((s.get! p).toNat : Nat) : Int) = false := by
   cases hv : fB b (((s.get! p).toNat : Nat) : Int) with
   | false => rfl
   | true => have := fB_lt _ _ hv; omega
  rw [h2, h3]
  exact ⟨rfl, fun h => by cases h⟩
structure RS (w0 w W : World) (g it : Nat) (t s : ByteArray) (at_ p : Nat) : Prop where
 i : W.heap[it]? = some (.stringIter s p)
 s : IsS55 w0 W g t ((at_ + p : Nat) : Int) 0
 b : Below w0.heap.size w0 W
 k : KeepBut w W g none
 h : w.heap.size = it
theorem RS.iter {w0 w W : World} {g it : Nat} {t s : ByteArray} {at_ p : Nat} (h : RS w0 w W g it t s at_ p) (hg : g < it) (q : Nat) :
  (W.iterAt it s q).heap[it]? = some (.stringIter s q) ∧ IsS55 w0 (W.iterAt it s q) g t ((at_ + p : Nat) : Int) 0 ∧ Below w0.heap.size w0 (W.iterAt it s q) ∧ KeepBut w (W.iterAt it s q) g none := by
 have h1 := h.s.2
 refine ⟨Lib.iterAt_heap W it s p q h.i, ⟨(Lib.iterAt_other W it g s q (by omega)).trans h.s.1, h.s.2⟩, Lib.below_iterAt h.b (by omega) s q, ?_⟩
 have hb : Below it W (W.iterAt it s q) := Lib.below_iterAt (Below.refl it W) (Nat.le_refl _) s q
 have hh := h.h
 exact ⟨Nat.le_trans h.k.1 hb.size, fun k hk hne hr => (hb.block k (by omega)).trans (h.k.2 k hk hne hr)⟩
theorem runE_stop {s : ByteArray} {k p : Nat} {b : Bool} (h : ¬ (p < s.size ∧ fB b (gb s p) = true ∧ p ≠ 15)) : runE s k b p = p := by
 cases k with
 | zero => rfl
 | succ k => unfold runE; rw [if_neg h]
theorem runE_on {s : ByteArray} {k p : Nat} {b : Bool} (h : p < s.size ∧ fB b (gb s p) = true ∧ p ≠ 15) : runE s (k + 1) b p = runE s k false (p + 1) := by
 conv => lhs; unfold runE
 rw [if_pos h]
theorem runF_at (b : Bool) (t : ByteArray) (at_ n : Nat) (ha : at_ ≤ t.size) (hE : runE (t.extract at_ t.size) 16 b 0 = n) : runF b t (at_ : Int) 0 =
  (if n = 0 ∨ (at_ + n < t.size ∧ insB (gb t (at_ + n)) = true) then some (⟨#[]⟩, t, ((at_ + n : Nat) : Int), if at_ + n = t.size then 3 else 4)
  else some (t.extract at_ (at_ + n), t, ((at_ + n : Nat) : Int), 0)) := by
 unfold runF
 rw [if_pos rfl, if_pos ⟨by omega, by omega⟩, Int.toNat_natCast, hE]
theorem fail_f (t : ByteArray) (n : Nat) : label_reader_fail.f t (n : Int) 0 = some (⟨#[]⟩, t, (n : Int), if n = t.size then 3 else 4) := by
 unfold label_reader_fail.f
 rw [if_pos rfl]
 by_cases h : n = t.size
 ·rw [if_pos (by omega), if_pos h]
 ·rw [if_neg (by omega), if_neg h]
set_option maxRecDepth 100000 in
set_option maxHeartbeats 6400000 in
theorem run_calls (b0 : Bool) (f0 : Value) (hf0 : Aside0 (f0 = fV b0)) (g : Nat) (t : ByteArray) (at_ : Nat) (w0 w : World) (hI : IsS55 w0 w g t at_ 0) (hB : Below w0.heap.size w0 w) (hs : t.size ≤ 140737488355328) (ha : at_ ≤ t.size) (r1 r2 : ByteArray) (r3 r4 : Int) (h : runF b0 t at_ 0 = some (r1, r2, r3, r4)) :
  Calls Try.prog 63 #[.pointer (some ⟨g, 0, none⟩), f0, .func (.func 64) #[] #[]] w fun e w' => e = .returned (.string r1) ∧ IsS55 w0 w' g r2 r3 r4 ∧ Below w0.heap.size w0 w' ∧ KeepBut w w' g none := by
 have c0_ : w.cell? ⟨g, 0, none⟩ = some (.string t) := (blk_cell hI.1 0).trans rfl
 have c1_ : w.cell? ⟨g, 1, none⟩ = some (.int .i64 at_) := (blk_cell hI.1 1).trans rfl
 have c2_ : w.cell? ⟨g, 2, none⟩ = some (.int .i64 0) := (blk_cell hI.1 2).trans rfl
 have ha0 : decide ((at_ : Int) ≤ (t.size : Int)) = true := decide_eq_true (by omega)
 have ha1 : (0 : Int) ≤ (at_ : Int) := by omega
 obtain ⟨s, hs0⟩ : ∃ s, t.extract at_ t.size = s := ⟨_, rfl⟩
 have hsz : s.size = t.size - at_ := by rw [← hs0, ByteArray.size_extract]; omega
 have hgl : g < w.heap.size := hI.lt
 have HS0 : Aside0 (RS w0 w (w.iter s 0) g w.heap.size t s at_ 0) := ⟨by
  have h1 : Below w.heap.size w (w.iter s 0) := below_alloc (Below.refl _ _) _
  refine ⟨World.iter_heap w s 0, hI.below h1, below_then hB hB.size h1, KeepBut.of_below h1 g none, rfl⟩⟩
 have HX := Aside0.mk h
 clear hI hB h
 go_enter Try.func63, Try.ntmps63
 go_wp2_with fail
 generalize w.iter s 0 = W0 at *
 obtain ⟨it, hit⟩ : ∃ it, w.heap.size = it := ⟨_, rfl⟩
 rw [hit] at HS0 hgl ⊢
 clear hit c0_ c1_ c2_
 go_loopw [8] (fun v8 wr => ∃ (b : Bool) (p : Nat), v8 = fV b ∧ p ≤ 15 ∧ p ≤ s.size ∧ Aside0 (RS w0 w wr g it t s at_ p) ∧ Aside0 (runE s 16 b0 0 = runE s (16 - p) b p)) (fun _ wr => s.size - wr.iterPos it)
 case atStart => exact ⟨b0, 0, hf0.out, by omega, Nat.zero_le _, HS0, ⟨rfl⟩⟩
 case round =>
  obtain ⟨b, p, rfl, hp15, hps, HS, HE⟩ := hrel
  have hib := HS.out.i
  by_cases hlt : p < s.size
  ·have hnx := Lib.run_next_any_at (P := Try.prog) wr it s p 0 hib hlt
   have HA := Aside0.mk (ascii_fB b s p hlt)
   have H1 := Aside0.mk (HS.out.iter hgl (p + (Utf8.decode s p).2))
   obtain ⟨c, hc⟩ : ∃ c : Int, (((Utf8.decode s p).1 : Nat) : Int) = c := ⟨_, rfl⟩
   obtain ⟨q, hq⟩ : ∃ q : Nat, (Utf8.decode s p).2 = q := ⟨_, rfl⟩
   rw [hc, hq] at hnx HA
   rw [hq] at H1
   clear hc hq
   cases b with
   | true =>
    unfold fV at *
    go_wp2_with fail
    refine (label_small.calls c _ _ (small_f c)).mono ?_
    rintro e W2 ⟨rfl, hd⟩
    have HA2 : Aside0 (smaB c = smaB (gb s p) ∧ (smaB (gb s p) = true → q = 1)) := ⟨by have := HA.out; unfold fB at this; simpa using this⟩
    have HD2 := Aside0.mk hd.below
    clear hd HA hnx
    generalize hv : smaB c = v at *
    cases v with
    | false =>
     have HE2 : Aside0 (runE s 16 b0 0 = p) := ⟨HE.out.trans (runE_stop (by rintro ⟨_, h2, _⟩; have h3 := HA2.out.1; simp only [fB, Bool.false_eq_true, if_true, if_false] at h2; rw [← h3] at h2; cases h2))⟩
     have HS2 := Aside0.mk (And.intro (H1.out.2.1.below HD2.out) (And.intro (below_then H1.out.2.2.1 H1.out.2.2.1.size HD2.out) (H1.out.2.2.2.trans (KeepBut.of_below HD2.out g none) (.inl rfl))))
     clear HS0 HS H1 hib
     have HX2 := Aside0.mk ((runF_at b0 t at_ p ha (hs0.symm ▸ HE2.out)).symm.trans HX.out)
     clear HX HE HE2
     obtain ⟨qn, hqn⟩ : ∃ qn : Nat, at_ + p = qn := ⟨_, rfl⟩
     have hp0 : p = qn - at_ ∧ at_ ≤ qn := by omega
     rw [hqn] at HS2 HX2
     clear hqn
     have HS := HS2
     clear HS2
     have c0_ : W2.cell? ⟨g, 0, none⟩ = some (.string t) := (blk_cell HS.out.1.1 0).trans rfl
     have c1_ : W2.cell? ⟨g, 1, none⟩ = some (.int .i64 (qn : Int)) := (blk_cell HS.out.1.1 1).trans rfl
     have hq0 : (0 : Int) ≤ (qn : Int) := by omega
     have hqz : qn ≤ t.size := by omega
     have hz : qn < t.size := by omega
     have z0 : decide ((qn : Int) < (t.size : Int)) = true := decide_eq_true (by omega)
     have z1 : ((qn : Int) < (t.size : Int)) = True := eq_true (by omega)
     have z2 : (0 ≤ (qn : Int)) = True := eq_true (by omega)
     go_wp2_with fail
     refine start_ (n := 24) (S := fun w' => w'.cell? ⟨g, 0, none⟩ = some (.string t) ∧ w'.cell? ⟨g, 1, none⟩ = some (.int .i64 (qn : Int))) (ds := []) #[false, false, false, false, false, false, false, false, false, false, false, false, false, false, false, false, false, false, false, false, false, false, false, false] (by kernel_rfl) rfl rfl ⟨c0_, c1_⟩ (fun hHeld => ?_)
     refine pureS_ (i := 0) (N := some 53) (v := ?_) (a' := ?_) rfl rfl (by kernel_rfl) (fun _ _ _ h => h) (Or.inl ⟨by rfl, ?_⟩) ?_ ?_
     rotate_left; (· intro w'; go_simp; with_reducible rfl); rotate_left; (· simp only [Act.put, List.setIfInBounds_toArray, List.set_cons_zero, List.set_cons_succ, i64_w, i32_w]; rfl)
     refine pureS_ (i := 1) (N := some 54) (v := ?_) (a' := ?_) rfl rfl (by kernel_rfl) (fun _ _ _ h => h) (Or.inl ⟨by rfl, ?_⟩) ?_ ?_
     rotate_left; (· intro w'; go_simp; with_reducible rfl); rotate_left; (· simp only [Act.put, List.setIfInBounds_toArray, List.set_cons_zero, List.set_cons_succ, i64_w, i32_w]; rfl)
     refine pureS_ (i := 2) (N := some 55) (v := ?_) (a' := ?_) rfl rfl (by kernel_rfl) (fun _ _ _ h => h) (Or.inl ⟨by rfl, ?_⟩) ?_ ?_
     rotate_left; (· intro w'; go_simp; with_reducible rfl); rotate_left; (· simp only [Act.put, List.setIfInBounds_toArray, List.set_cons_zero, List.set_cons_succ, i64_w, i32_w]; rfl)
     refine pureS_ (i := 4) (N := some 57) (v := ?_) (a' := ?_) rfl rfl (by kernel_rfl) (fun _ _ _ h => h) (Or.inl ⟨by rfl, ?_⟩) ?_ ?_
     rotate_left; (· intro w'; go_simp; with_reducible rfl); rotate_left; (· simp only [Act.put, List.setIfInBounds_toArray, List.set_cons_zero, List.set_cons_succ, i64_w, i32_w]; rfl)
     refine pureS_ (i := 5) (N := some 58) (v := ?_) (a' := ?_) rfl rfl (by kernel_rfl) (fun _ _ _ h => h) (Or.inl ⟨by rfl, ?_⟩) ?_ ?_
     rotate_left; (· intro w'; go_simp; with_reducible rfl); rotate_left; (· simp only [Act.put, List.setIfInBounds_toArray, List.set_cons_zero, List.set_cons_succ, i64_w, i32_w]; rfl)
     refine pureS_ (i := 6) (N := some 59) (v := ?_) (a' := ?_) rfl rfl (by kernel_rfl) (fun _ _ _ h => h) (Or.inl ⟨by rfl, ?_⟩) ?_ ?_
     rotate_left; (· intro w'; go_simp; with_reducible rfl); rotate_left; (· simp only [Act.put, List.setIfInBounds_toArray, List.set_cons_zero, List.set_cons_succ, i64_w, i32_w]; rfl)
     refine takeS_ (i := 3) (N := some 56) (v := ?_) (a' := ?_) rfl rfl (by kernel_rfl) (fun _ _ _ h => h) (Or.inl ⟨by rfl, ?_⟩) hHeld ?_ ?_
     rotate_left; (· rintro w' ⟨s0, s1⟩; go_simp; with_reducible rfl); rotate_left; (· simp only [Act.put, List.setIfInBounds_toArray, List.set_cons_zero, List.set_cons_succ, i64_w, i32_w]; rfl)
     refine takeS_ (i := 7) (N := some 60) (v := ?_) (a' := ?_) rfl rfl (by kernel_rfl) (fun _ _ _ h => h) (Or.inl ⟨by rfl, ?_⟩) hHeld ?_ ?_
     rotate_left; (· rintro w' ⟨s0, s1⟩; go_simp; with_reducible rfl); rotate_left; (· simp only [Act.put, List.setIfInBounds_toArray, List.set_cons_zero, List.set_cons_succ, i64_w, i32_w]; rfl)
     refine pureS_ (i := 8) (N := some 61) (v := ?_) (a' := ?_) rfl rfl (by kernel_rfl) (fun _ _ _ h => h) (Or.inl ⟨by rfl, ?_⟩) ?_ ?_
     rotate_left; (· intro w'; go_simp; with_reducible rfl); rotate_left; (· simp only [Act.put, List.setIfInBounds_toArray, List.set_cons_zero, List.set_cons_succ, i64_w, i32_w]; rfl)
     refine pureS_ (i := 9) (N := some 62) (v := ?_) (a' := ?_) rfl rfl (by kernel_rfl) (fun _ _ _ h => h) (Or.inl ⟨by rfl, ?_⟩) ?_ ?_
     rotate_left; (· intro w'; go_simp; with_reducible rfl); rotate_left; (· simp only [Act.put, List.setIfInBounds_toArray, List.set_cons_zero, List.set_cons_succ, i64_w, i32_w]; rfl)
     refine pureS_ (i := 10) (N := some 63) (v := ?_) (a' := ?_) rfl rfl (by kernel_rfl) (fun _ _ _ h => h) (Or.inl ⟨by rfl, ?_⟩) ?_ ?_
     rotate_left; (· intro w'; go_simp; with_reducible rfl); rotate_left; (· simp only [Act.put, List.setIfInBounds_toArray, List.set_cons_zero, List.set_cons_succ, i64_w, i32_w]; rfl)
     refine pureS_ (i := 11) (N := some 64) (v := ?_) (a' := ?_) rfl rfl (by kernel_rfl) (fun _ _ _ h => h) (Or.inl ⟨by rfl, ?_⟩) ?_ ?_
     rotate_left; (· intro w'; go_simp; with_reducible rfl); rotate_left; (· simp only [Act.put, List.setIfInBounds_toArray, List.set_cons_zero, List.set_cons_succ, i64_w, i32_w]; rfl)
     refine pureS_ (i := 12) (N := some 65) (v := ?_) (a' := ?_) rfl rfl (by kernel_rfl) (fun _ _ _ h => h) (Or.inl ⟨by rfl, ?_⟩) ?_ ?_
     rotate_left; (· intro w'; go_simp; with_reducible rfl); rotate_left; (· simp only [Act.put, List.setIfInBounds_toArray, List.set_cons_zero, List.set_cons_succ, i64_w, i32_w]; rfl)
     refine pureS_ (i := 13) (N := some 66) (v := ?_) (a' := ?_) rfl rfl (by kernel_rfl) (fun _ _ _ h => h) (Or.inl ⟨by rfl, ?_⟩) ?_ ?_
     rotate_left; (· intro w'; go_simp; with_reducible rfl); rotate_left; (· simp only [Act.put, List.setIfInBounds_toArray, List.set_cons_zero, List.set_cons_succ, i64_w, i32_w]; rfl)
     refine pureS_ (i := 15) (N := some 68) (v := ?_) (a' := ?_) rfl rfl (by kernel_rfl) (fun _ _ _ h => h) (Or.inl ⟨by rfl, ?_⟩) ?_ ?_
     rotate_left; (· intro w'; go_simp; with_reducible rfl); rotate_left; (· simp only [Act.put, List.setIfInBounds_toArray, List.set_cons_zero, List.set_cons_succ, i64_w, i32_w]; rfl)
     refine pureS_ (i := 16) (N := some 69) (v := ?_) (a' := ?_) rfl rfl (by kernel_rfl) (fun _ _ _ h => h) (Or.inl ⟨by rfl, ?_⟩) ?_ ?_
     rotate_left; (· intro w'; go_simp; with_reducible rfl); rotate_left; (· simp only [Act.put, List.setIfInBounds_toArray, List.set_cons_zero, List.set_cons_succ, i64_w, i32_w]; rfl)
     refine pureS_ (i := 17) (N := some 70) (v := ?_) (a' := ?_) rfl rfl (by kernel_rfl) (fun _ _ _ h => h) (Or.inl ⟨by rfl, ?_⟩) ?_ ?_
     rotate_left; (· intro w'; go_simp; with_reducible rfl); rotate_left; (· simp only [Act.put, List.setIfInBounds_toArray, List.set_cons_zero, List.set_cons_succ, i64_w, i32_w]; rfl)
     refine takeS_ (i := 14) (N := some 67) (v := ?_) (a' := ?_) rfl rfl (by kernel_rfl) (fun _ _ _ h => h) (Or.inl ⟨by rfl, ?_⟩) hHeld ?_ ?_
     rotate_left; (· rintro w' ⟨s0, s1⟩; go_simp; with_reducible rfl); rotate_left; (· simp only [Act.put, List.setIfInBounds_toArray, List.set_cons_zero, List.set_cons_succ, i64_w, i32_w]; rfl)
     refine takeS_ (i := 18) (N := some 71) (v := ?_) (a' := ?_) rfl rfl (by kernel_rfl) (fun _ _ _ h => h) (Or.inl ⟨by rfl, ?_⟩) hHeld ?_ ?_
     rotate_left; (· rintro w' ⟨s0, s1⟩; go_simp; with_reducible rfl); rotate_left; (· simp only [Act.put, List.setIfInBounds_toArray, List.set_cons_zero, List.set_cons_succ, i64_w, i32_w]; rfl)
     refine takeS_ (i := 19) (N := some 72) (v := ?_) (a' := ?_) rfl rfl (by kernel_rfl) (fun _ _ _ h => h) (Or.inl ⟨by rfl, ?_⟩) hHeld ?_ ?_
     rotate_left; (· rintro w' ⟨s0, s1⟩; go_simp; with_reducible rfl); rotate_left; (· simp only [Act.put, List.setIfInBounds_toArray, List.set_cons_zero, List.set_cons_succ, i64_w, i32_w]; rfl)
     refine pureS_ (i := 20) (N := some 73) (v := ?_) (a' := ?_) rfl rfl (by kernel_rfl) (fun _ _ _ h => h) (Or.inl ⟨by rfl, ?_⟩) ?_ ?_
     rotate_left; (· intro w'; go_simp; with_reducible rfl); rotate_left; (· simp only [Act.put, List.setIfInBounds_toArray, List.set_cons_zero, List.set_cons_succ, i64_w, i32_w]; rfl)
     refine oneS_ (i := 21) (N := some 74) rfl rfl (by kernel_rfl) (by decide) (fun K hK => ?_)
     refine goes_ Try.func64 (by kernel_rfl) rfl #[.int .i32 (gb t qn)] (by rfl) rfl rfl (by simp only [List.map_toArray, List.map_cons, List.map_nil]; go_simp; exact wrap_gb t qn _) ?_
     with_reducible refine (label_inside.calls _ _ _ (inside_f _)).mono ?_
     rintro e W1_ ⟨rfl, hd⟩
     refine ⟨_, rfl, ?_⟩
     have hb := hd.below
     have HB1 := Aside0.mk hb
     refine hK.out _ _ ⟨(pw_cell_below hb c0_), (pw_cell_below hb c1_)⟩ (fun hHeld => ?_)
     clear hK K
     refine norm_ (a' := ?_) ?_ ?_
     rotate_left
     ·show Act.put _ (some 74) _ = _
      simp only [Act.put, List.setIfInBounds_toArray, List.set_cons_zero, List.set_cons_succ, i64_w, i32_w]
      rfl
     refine pureS_ (i := 22) (N := some 75) (v := ?_) (a' := ?_) rfl rfl (by kernel_rfl) (fun _ _ _ h => h) (Or.inl ⟨by rfl, ?_⟩) ?_ ?_
     rotate_left; (· intro w'; go_simp; with_reducible rfl); rotate_left; (· simp only [Act.put, List.setIfInBounds_toArray, List.set_cons_zero, List.set_cons_succ, i64_w, i32_w]; rfl)
     refine pureS_ (i := 23) (N := some 11) (v := ?_) (a' := ?_) rfl rfl (by kernel_rfl) (fun _ _ _ h => h) (Or.inl ⟨by rfl, ?_⟩) ?_ ?_
     rotate_left; (· intro w'; go_simp; with_reducible rfl); rotate_left; (· simp only [Act.put, List.setIfInBounds_toArray, List.set_cons_zero, List.set_cons_succ, i64_w, i32_w]; rfl)
     refine done_ (by kernel_rfl) ?_
     have HS1 := Aside0.mk (And.intro (IsS55.below (IsS55.drew HS.out.1) HB1.out) (And.intro (below_then (below_drew1 HS.out.2.1) (below_drew1 HS.out.2.1).size HB1.out) ((keep_drew HS.out.2.2).trans (KeepBut.of_below HB1.out g none) (.inl rfl))))
     have c0_ := hHeld.1
     have c1_ := hHeld.2
     clear hHeld HS HB1
     by_cases hqa : qn = at_
     ·have a0 : ((qn : Int) == (at_ : Int)) = true := by rw [hqa]; exact beq_self_eq_true _
      have hqb := Aside0.mk hqa
      clear hqa
      have HX3 := HX2.out
      rw [if_pos (.inl (by have := hqb.out; omega))] at HX3
      cases HX3
      go_wp2_with fail
      refine (label_reader_fail.calls g t (qn : Int) 0 _ _ _ _ w0 _ HS1.out.1 HS1.out.2.1 (fail_f t qn)).mono ?_
      rintro e W3 ⟨rfl, hI3, hb3, hk3⟩
      rw [if_neg (by omega)] at hI3
      go_wp2_with fail
      go_ret
      first | exact ⟨rfl, hI3, hb3, HS1.out.2.2.trans hk3 (.inl rfl)⟩ | exact ⟨rfl, ((show qn = t.size by omega) ▸ hI3), hb3, HS1.out.2.2.trans hk3 (.inl rfl)⟩
     ·have a0 : ((qn : Int) == (at_ : Int)) = false := beq_eq_false_iff_ne.mpr (by omega)
      cases hi : insB (gb t qn) with
      | true =>
       have HX3 := HX2.out
       rw [if_pos (.inr ⟨hz, hi⟩)] at HX3
       cases HX3
       go_wp2_with fail
       refine (label_reader_fail.calls g t (qn : Int) 0 _ _ _ _ w0 _ HS1.out.1 HS1.out.2.1 (fail_f t qn)).mono ?_
       rintro e W3 ⟨rfl, hI3, hb3, hk3⟩
       rw [if_neg (by omega)] at hI3
       go_wp2_with fail
       go_ret
       first | exact ⟨rfl, hI3, hb3, HS1.out.2.2.trans hk3 (.inl rfl)⟩ | exact ⟨rfl, ((show qn = t.size by omega) ▸ hI3), hb3, HS1.out.2.2.trans hk3 (.inl rfl)⟩
       | false =>
       have HX3 := HX2.out
       rw [if_neg (fun h => h.elim (fun h => by omega) (fun h => absurd (hi.symm.trans h.2) (by simp)))] at HX3
       cases HX3
       have s0 : decide ((at_ : Int) ≤ (qn : Int)) = true := decide_eq_true (by omega)
       have s1 : ((at_ : Int) ≤ (qn : Int)) = True := eq_true (by omega)
       have s2 : decide ((qn : Int) ≤ (t.size : Int)) = true := decide_eq_true (by omega)
       have s3 : ((qn : Int) ≤ (t.size : Int)) = True := eq_true (by omega)
       have s4 : (0 ≤ (at_ : Int)) = True := eq_true (by omega)
       have s5 : (0 ≤ (qn : Int)) = True := eq_true (by omega)
       go_wp2_with fail
       refine start_ (n := 11) (S := fun w' => w'.cell? ⟨g, 0, none⟩ = some (.string t) ∧ w'.cell? ⟨g, 1, none⟩ = some (.int .i64 (qn : Int))) (ds := []) #[false, false, false, false, false, false, false, false, false, false, false] (by kernel_rfl) rfl rfl ⟨c0_, c1_⟩ (fun hHeld => ?_)
       refine pureS_ (i := 0) (N := some 87) (v := ?_) (a' := ?_) rfl rfl (by kernel_rfl) (fun _ _ _ h => h) (Or.inl ⟨by rfl, ?_⟩) ?_ ?_
       rotate_left; (· intro w'; go_simp; with_reducible rfl); rotate_left; (· simp only [Act.put, List.setIfInBounds_toArray, List.set_cons_zero, List.set_cons_succ, i64_w, i32_w]; rfl)
       refine pureS_ (i := 1) (N := some 88) (v := ?_) (a' := ?_) rfl rfl (by kernel_rfl) (fun _ _ _ h => h) (Or.inl ⟨by rfl, ?_⟩) ?_ ?_
       rotate_left; (· intro w'; go_simp; with_reducible rfl); rotate_left; (· simp only [Act.put, List.setIfInBounds_toArray, List.set_cons_zero, List.set_cons_succ, i64_w, i32_w]; rfl)
       refine pureS_ (i := 2) (N := some 89) (v := ?_) (a' := ?_) rfl rfl (by kernel_rfl) (fun _ _ _ h => h) (Or.inl ⟨by rfl, ?_⟩) ?_ ?_
       rotate_left; (· intro w'; go_simp; with_reducible rfl); rotate_left; (· simp only [Act.put, List.setIfInBounds_toArray, List.set_cons_zero, List.set_cons_succ, i64_w, i32_w]; rfl)
       refine pureS_ (i := 4) (N := some 91) (v := ?_) (a' := ?_) rfl rfl (by kernel_rfl) (fun _ _ _ h => h) (Or.inl ⟨by rfl, ?_⟩) ?_ ?_
       rotate_left; (· intro w'; go_simp; with_reducible rfl); rotate_left; (· simp only [Act.put, List.setIfInBounds_toArray, List.set_cons_zero, List.set_cons_succ, i64_w, i32_w]; rfl)
       refine pureS_ (i := 5) (N := some 92) (v := ?_) (a' := ?_) rfl rfl (by kernel_rfl) (fun _ _ _ h => h) (Or.inl ⟨by rfl, ?_⟩) ?_ ?_
       rotate_left; (· intro w'; go_simp; with_reducible rfl); rotate_left; (· simp only [Act.put, List.setIfInBounds_toArray, List.set_cons_zero, List.set_cons_succ, i64_w, i32_w]; rfl)
       refine pureS_ (i := 6) (N := some 93) (v := ?_) (a' := ?_) rfl rfl (by kernel_rfl) (fun _ _ _ h => h) (Or.inl ⟨by rfl, ?_⟩) ?_ ?_
       rotate_left; (· intro w'; go_simp; with_reducible rfl); rotate_left; (· simp only [Act.put, List.setIfInBounds_toArray, List.set_cons_zero, List.set_cons_succ, i64_w, i32_w]; rfl)
       refine pureS_ (i := 7) (N := some 94) (v := ?_) (a' := ?_) rfl rfl (by kernel_rfl) (fun _ _ _ h => h) (Or.inl ⟨by rfl, ?_⟩) ?_ ?_
       rotate_left; (· intro w'; go_simp; with_reducible rfl); rotate_left; (· simp only [Act.put, List.setIfInBounds_toArray, List.set_cons_zero, List.set_cons_succ, i64_w, i32_w]; rfl)
       refine takeS_ (i := 3) (N := some 90) (v := ?_) (a' := ?_) rfl rfl (by kernel_rfl) (fun _ _ _ h => h) (Or.inl ⟨by rfl, ?_⟩) hHeld ?_ ?_
       rotate_left; (· rintro w' ⟨s0, s1⟩; go_simp; with_reducible rfl); rotate_left; (· simp only [Act.put, List.setIfInBounds_toArray, List.set_cons_zero, List.set_cons_succ, i64_w, i32_w]; rfl)
       refine takeS_ (i := 8) (N := some 95) (v := ?_) (a' := ?_) rfl rfl (by kernel_rfl) (fun _ _ _ h => h) (Or.inl ⟨by rfl, ?_⟩) hHeld ?_ ?_
       rotate_left; (· rintro w' ⟨s0, s1⟩; go_simp; with_reducible rfl); rotate_left; (· simp only [Act.put, List.setIfInBounds_toArray, List.set_cons_zero, List.set_cons_succ, i64_w, i32_w]; rfl)
       refine pureS_ (i := 9) (N := some 96) (v := ?_) (a' := ?_) rfl rfl (by kernel_rfl) (fun _ _ _ h => h) (Or.inl ⟨by rfl, ?_⟩) ?_ ?_
       rotate_left; (· intro w'; go_simp; with_reducible rfl); rotate_left; (· simp only [Act.put, List.setIfInBounds_toArray, List.set_cons_zero, List.set_cons_succ, i64_w, i32_w]; rfl)
       refine pureS_ (i := 10) (N := some 6) (v := ?_) (a' := ?_) rfl rfl (by kernel_rfl) (fun _ _ _ h => h) (Or.inl ⟨by rfl, ?_⟩) ?_ ?_
       rotate_left; (· intro w'; go_simp; with_reducible rfl); rotate_left; (· simp only [Act.put, List.setIfInBounds_toArray, List.set_cons_zero, List.set_cons_succ, i64_w, i32_w]; rfl)
       refine done_ (by kernel_rfl) ?_
       go_wp2_with fail
       go_ret
       exact ⟨rfl, IsS55.drew HS1.out.1, below_drew1 HS1.out.2.1, keep_drew HS1.out.2.2⟩
    | true =>
     obtain rfl : q = 1 := HA2.out.2 HA2.out.1.symm
     have HSq : Aside0 (W2.heap[it]? = some (.stringIter s (p + 1)) ∧ IsS55 w0 W2 g t ((at_ + p : Nat) : Int) 0 ∧ Below w0.heap.size w0 W2 ∧ KeepBut w W2 g none) :=
      ⟨(HD2.out.block it (blk_lt H1.out.1)).trans H1.out.1, H1.out.2.1.below HD2.out, below_then H1.out.2.2.1 H1.out.2.2.1.size HD2.out, H1.out.2.2.2.trans (KeepBut.of_below HD2.out g none) (.inl rfl)⟩
     have HT := Aside0.mk (HS.out.h)
     have HIB := Aside0.mk hib
     have HFT : Aside0 (fB true (gb s p) = true) := ⟨by have h3 := HA2.out.1; simp only [fB, Bool.false_eq_true, if_true, if_false]; exact h3.symm⟩
     clear HS0 HS H1 hib HD2 HA2
     obtain ⟨aq, haq⟩ : ∃ aq : Nat, at_ + p = aq := ⟨_, rfl⟩
     rw [haq] at HSq
     have c1_ : W2.cell? ⟨g, 1, none⟩ = some (.int .i64 (aq : Int)) := (blk_cell HSq.out.2.1.1 1).trans rfl
     have hw15 : wrap64 ((at_ : Int) + 15) = (at_ : Int) + 15 := by unfold wrap64; omega
     by_cases h15 : p = 15
     ·have e15 : ((aq : Int) == (at_ : Int) + 15) = true := by rw [beq_iff_eq]; omega
      have HE2 : Aside0 (runE s 16 b0 0 = p) := ⟨HE.out.trans (runE_stop (fun h => h.2.2 h15))⟩
      have HS2 := Aside0.mk HSq.out.2
      rw [← haq] at HS2
      have hlt2 : at_ + p < t.size := by omega
      go_wp2_with fail
      clear HSq HT HIB HFT c1_ hw15 e15
      have HX2 := Aside0.mk ((runF_at b0 t at_ p ha (hs0.symm ▸ HE2.out)).symm.trans HX.out)
      clear HX HE HE2
      obtain ⟨qn, hqn⟩ : ∃ qn : Nat, at_ + p = qn := ⟨_, rfl⟩
      have hp0 : p = qn - at_ ∧ at_ ≤ qn := by omega
      rw [hqn] at HS2 HX2
      clear hqn
      have HS := HS2
      clear HS2
      have c0_ : W2.cell? ⟨g, 0, none⟩ = some (.string t) := (blk_cell HS.out.1.1 0).trans rfl
      have c1_ : W2.cell? ⟨g, 1, none⟩ = some (.int .i64 (qn : Int)) := (blk_cell HS.out.1.1 1).trans rfl
      have hq0 : (0 : Int) ≤ (qn : Int) := by omega
      have hqz : qn ≤ t.size := by omega
      have hz : qn < t.size := by omega
      have z0 : decide ((qn : Int) < (t.size : Int)) = true := decide_eq_true (by omega)
      have z1 : ((qn : Int) < (t.size : Int)) = True := eq_true (by omega)
      have z2 : (0 ≤ (qn : Int)) = True := eq_true (by omega)
      go_wp2_with fail
      refine start_ (n := 24) (S := fun w' => w'.cell? ⟨g, 0, none⟩ = some (.string t) ∧ w'.cell? ⟨g, 1, none⟩ = some (.int .i64 (qn : Int))) (ds := []) #[false, false, false, false, false, false, false, false, false, false, false, false, false, false, false, false, false, false, false, false, false, false, false, false] (by kernel_rfl) rfl rfl ⟨c0_, c1_⟩ (fun hHeld => ?_)
      refine pureS_ (i := 0) (N := some 53) (v := ?_) (a' := ?_) rfl rfl (by kernel_rfl) (fun _ _ _ h => h) (Or.inl ⟨by rfl, ?_⟩) ?_ ?_
      rotate_left; (· intro w'; go_simp; with_reducible rfl); rotate_left; (· simp only [Act.put, List.setIfInBounds_toArray, List.set_cons_zero, List.set_cons_succ, i64_w, i32_w]; rfl)
      refine pureS_ (i := 1) (N := some 54) (v := ?_) (a' := ?_) rfl rfl (by kernel_rfl) (fun _ _ _ h => h) (Or.inl ⟨by rfl, ?_⟩) ?_ ?_
      rotate_left; (· intro w'; go_simp; with_reducible rfl); rotate_left; (· simp only [Act.put, List.setIfInBounds_toArray, List.set_cons_zero, List.set_cons_succ, i64_w, i32_w]; rfl)
      refine pureS_ (i := 2) (N := some 55) (v := ?_) (a' := ?_) rfl rfl (by kernel_rfl) (fun _ _ _ h => h) (Or.inl ⟨by rfl, ?_⟩) ?_ ?_
      rotate_left; (· intro w'; go_simp; with_reducible rfl); rotate_left; (· simp only [Act.put, List.setIfInBounds_toArray, List.set_cons_zero, List.set_cons_succ, i64_w, i32_w]; rfl)
      refine pureS_ (i := 4) (N := some 57) (v := ?_) (a' := ?_) rfl rfl (by kernel_rfl) (fun _ _ _ h => h) (Or.inl ⟨by rfl, ?_⟩) ?_ ?_
      rotate_left; (· intro w'; go_simp; with_reducible rfl); rotate_left; (· simp only [Act.put, List.setIfInBounds_toArray, List.set_cons_zero, List.set_cons_succ, i64_w, i32_w]; rfl)
      refine pureS_ (i := 5) (N := some 58) (v := ?_) (a' := ?_) rfl rfl (by kernel_rfl) (fun _ _ _ h => h) (Or.inl ⟨by rfl, ?_⟩) ?_ ?_
      rotate_left; (· intro w'; go_simp; with_reducible rfl); rotate_left; (· simp only [Act.put, List.setIfInBounds_toArray, List.set_cons_zero, List.set_cons_succ, i64_w, i32_w]; rfl)
      refine pureS_ (i := 6) (N := some 59) (v := ?_) (a' := ?_) rfl rfl (by kernel_rfl) (fun _ _ _ h => h) (Or.inl ⟨by rfl, ?_⟩) ?_ ?_
      rotate_left; (· intro w'; go_simp; with_reducible rfl); rotate_left; (· simp only [Act.put, List.setIfInBounds_toArray, List.set_cons_zero, List.set_cons_succ, i64_w, i32_w]; rfl)
      refine takeS_ (i := 3) (N := some 56) (v := ?_) (a' := ?_) rfl rfl (by kernel_rfl) (fun _ _ _ h => h) (Or.inl ⟨by rfl, ?_⟩) hHeld ?_ ?_
      rotate_left; (· rintro w' ⟨s0, s1⟩; go_simp; with_reducible rfl); rotate_left; (· simp only [Act.put, List.setIfInBounds_toArray, List.set_cons_zero, List.set_cons_succ, i64_w, i32_w]; rfl)
      refine takeS_ (i := 7) (N := some 60) (v := ?_) (a' := ?_) rfl rfl (by kernel_rfl) (fun _ _ _ h => h) (Or.inl ⟨by rfl, ?_⟩) hHeld ?_ ?_
      rotate_left; (· rintro w' ⟨s0, s1⟩; go_simp; with_reducible rfl); rotate_left; (· simp only [Act.put, List.setIfInBounds_toArray, List.set_cons_zero, List.set_cons_succ, i64_w, i32_w]; rfl)
      refine pureS_ (i := 8) (N := some 61) (v := ?_) (a' := ?_) rfl rfl (by kernel_rfl) (fun _ _ _ h => h) (Or.inl ⟨by rfl, ?_⟩) ?_ ?_
      rotate_left; (· intro w'; go_simp; with_reducible rfl); rotate_left; (· simp only [Act.put, List.setIfInBounds_toArray, List.set_cons_zero, List.set_cons_succ, i64_w, i32_w]; rfl)
      refine pureS_ (i := 9) (N := some 62) (v := ?_) (a' := ?_) rfl rfl (by kernel_rfl) (fun _ _ _ h => h) (Or.inl ⟨by rfl, ?_⟩) ?_ ?_
      rotate_left; (· intro w'; go_simp; with_reducible rfl); rotate_left; (· simp only [Act.put, List.setIfInBounds_toArray, List.set_cons_zero, List.set_cons_succ, i64_w, i32_w]; rfl)
      refine pureS_ (i := 10) (N := some 63) (v := ?_) (a' := ?_) rfl rfl (by kernel_rfl) (fun _ _ _ h => h) (Or.inl ⟨by rfl, ?_⟩) ?_ ?_
      rotate_left; (· intro w'; go_simp; with_reducible rfl); rotate_left; (· simp only [Act.put, List.setIfInBounds_toArray, List.set_cons_zero, List.set_cons_succ, i64_w, i32_w]; rfl)
      refine pureS_ (i := 11) (N := some 64) (v := ?_) (a' := ?_) rfl rfl (by kernel_rfl) (fun _ _ _ h => h) (Or.inl ⟨by rfl, ?_⟩) ?_ ?_
      rotate_left; (· intro w'; go_simp; with_reducible rfl); rotate_left; (· simp only [Act.put, List.setIfInBounds_toArray, List.set_cons_zero, List.set_cons_succ, i64_w, i32_w]; rfl)
      refine pureS_ (i := 12) (N := some 65) (v := ?_) (a' := ?_) rfl rfl (by kernel_rfl) (fun _ _ _ h => h) (Or.inl ⟨by rfl, ?_⟩) ?_ ?_
      rotate_left; (· intro w'; go_simp; with_reducible rfl); rotate_left; (· simp only [Act.put, List.setIfInBounds_toArray, List.set_cons_zero, List.set_cons_succ, i64_w, i32_w]; rfl)
      refine pureS_ (i := 13) (N := some 66) (v := ?_) (a' := ?_) rfl rfl (by kernel_rfl) (fun _ _ _ h => h) (Or.inl ⟨by rfl, ?_⟩) ?_ ?_
      rotate_left; (· intro w'; go_simp; with_reducible rfl); rotate_left; (· simp only [Act.put, List.setIfInBounds_toArray, List.set_cons_zero, List.set_cons_succ, i64_w, i32_w]; rfl)
      refine pureS_ (i := 15) (N := some 68) (v := ?_) (a' := ?_) rfl rfl (by kernel_rfl) (fun _ _ _ h => h) (Or.inl ⟨by rfl, ?_⟩) ?_ ?_
      rotate_left; (· intro w'; go_simp; with_reducible rfl); rotate_left; (· simp only [Act.put, List.setIfInBounds_toArray, List.set_cons_zero, List.set_cons_succ, i64_w, i32_w]; rfl)
      refine pureS_ (i := 16) (N := some 69) (v := ?_) (a' := ?_) rfl rfl (by kernel_rfl) (fun _ _ _ h => h) (Or.inl ⟨by rfl, ?_⟩) ?_ ?_
      rotate_left; (· intro w'; go_simp; with_reducible rfl); rotate_left; (· simp only [Act.put, List.setIfInBounds_toArray, List.set_cons_zero, List.set_cons_succ, i64_w, i32_w]; rfl)
      refine pureS_ (i := 17) (N := some 70) (v := ?_) (a' := ?_) rfl rfl (by kernel_rfl) (fun _ _ _ h => h) (Or.inl ⟨by rfl, ?_⟩) ?_ ?_
      rotate_left; (· intro w'; go_simp; with_reducible rfl); rotate_left; (· simp only [Act.put, List.setIfInBounds_toArray, List.set_cons_zero, List.set_cons_succ, i64_w, i32_w]; rfl)
      refine takeS_ (i := 14) (N := some 67) (v := ?_) (a' := ?_) rfl rfl (by kernel_rfl) (fun _ _ _ h => h) (Or.inl ⟨by rfl, ?_⟩) hHeld ?_ ?_
      rotate_left; (· rintro w' ⟨s0, s1⟩; go_simp; with_reducible rfl); rotate_left; (· simp only [Act.put, List.setIfInBounds_toArray, List.set_cons_zero, List.set_cons_succ, i64_w, i32_w]; rfl)
      refine takeS_ (i := 18) (N := some 71) (v := ?_) (a' := ?_) rfl rfl (by kernel_rfl) (fun _ _ _ h => h) (Or.inl ⟨by rfl, ?_⟩) hHeld ?_ ?_
      rotate_left; (· rintro w' ⟨s0, s1⟩; go_simp; with_reducible rfl); rotate_left; (· simp only [Act.put, List.setIfInBounds_toArray, List.set_cons_zero, List.set_cons_succ, i64_w, i32_w]; rfl)
      refine takeS_ (i := 19) (N := some 72) (v := ?_) (a' := ?_) rfl rfl (by kernel_rfl) (fun _ _ _ h => h) (Or.inl ⟨by rfl, ?_⟩) hHeld ?_ ?_
      rotate_left; (· rintro w' ⟨s0, s1⟩; go_simp; with_reducible rfl); rotate_left; (· simp only [Act.put, List.setIfInBounds_toArray, List.set_cons_zero, List.set_cons_succ, i64_w, i32_w]; rfl)
      refine pureS_ (i := 20) (N := some 73) (v := ?_) (a' := ?_) rfl rfl (by kernel_rfl) (fun _ _ _ h => h) (Or.inl ⟨by rfl, ?_⟩) ?_ ?_
      rotate_left; (· intro w'; go_simp; with_reducible rfl); rotate_left; (· simp only [Act.put, List.setIfInBounds_toArray, List.set_cons_zero, List.set_cons_succ, i64_w, i32_w]; rfl)
      refine oneS_ (i := 21) (N := some 74) rfl rfl (by kernel_rfl) (by decide) (fun K hK => ?_)
      refine goes_ Try.func64 (by kernel_rfl) rfl #[.int .i32 (gb t qn)] (by rfl) rfl rfl (by simp only [List.map_toArray, List.map_cons, List.map_nil]; go_simp; exact wrap_gb t qn _) ?_
      with_reducible refine (label_inside.calls _ _ _ (inside_f _)).mono ?_
      rintro e W1_ ⟨rfl, hd⟩
      refine ⟨_, rfl, ?_⟩
      have hb := hd.below
      have HB1 := Aside0.mk hb
      refine hK.out _ _ ⟨(pw_cell_below hb c0_), (pw_cell_below hb c1_)⟩ (fun hHeld => ?_)
      clear hK K
      refine norm_ (a' := ?_) ?_ ?_
      rotate_left
      ·show Act.put _ (some 74) _ = _
       simp only [Act.put, List.setIfInBounds_toArray, List.set_cons_zero, List.set_cons_succ, i64_w, i32_w]
       rfl
      refine pureS_ (i := 22) (N := some 75) (v := ?_) (a' := ?_) rfl rfl (by kernel_rfl) (fun _ _ _ h => h) (Or.inl ⟨by rfl, ?_⟩) ?_ ?_
      rotate_left; (· intro w'; go_simp; with_reducible rfl); rotate_left; (· simp only [Act.put, List.setIfInBounds_toArray, List.set_cons_zero, List.set_cons_succ, i64_w, i32_w]; rfl)
      refine pureS_ (i := 23) (N := some 11) (v := ?_) (a' := ?_) rfl rfl (by kernel_rfl) (fun _ _ _ h => h) (Or.inl ⟨by rfl, ?_⟩) ?_ ?_
      rotate_left; (· intro w'; go_simp; with_reducible rfl); rotate_left; (· simp only [Act.put, List.setIfInBounds_toArray, List.set_cons_zero, List.set_cons_succ, i64_w, i32_w]; rfl)
      refine done_ (by kernel_rfl) ?_
      have HS1 := Aside0.mk (And.intro (IsS55.below (IsS55.drew HS.out.1) HB1.out) (And.intro (below_then (below_drew1 HS.out.2.1) (below_drew1 HS.out.2.1).size HB1.out) ((keep_drew HS.out.2.2).trans (KeepBut.of_below HB1.out g none) (.inl rfl))))
      have c0_ := hHeld.1
      have c1_ := hHeld.2
      clear hHeld HS HB1
      by_cases hqa : qn = at_
      ·have a0 : ((qn : Int) == (at_ : Int)) = true := by rw [hqa]; exact beq_self_eq_true _
       have hqb := Aside0.mk hqa
       clear hqa
       have HX3 := HX2.out
       rw [if_pos (.inl (by have := hqb.out; omega))] at HX3
       cases HX3
       go_wp2_with fail
       refine (label_reader_fail.calls g t (qn : Int) 0 _ _ _ _ w0 _ HS1.out.1 HS1.out.2.1 (fail_f t qn)).mono ?_
       rintro e W3 ⟨rfl, hI3, hb3, hk3⟩
       rw [if_neg (by omega)] at hI3
       go_wp2_with fail
       go_ret
       first | exact ⟨rfl, hI3, hb3, HS1.out.2.2.trans hk3 (.inl rfl)⟩ | exact ⟨rfl, ((show qn = t.size by omega) ▸ hI3), hb3, HS1.out.2.2.trans hk3 (.inl rfl)⟩
      ·have a0 : ((qn : Int) == (at_ : Int)) = false := beq_eq_false_iff_ne.mpr (by omega)
       cases hi : insB (gb t qn) with
       | true =>
        have HX3 := HX2.out
        rw [if_pos (.inr ⟨hz, hi⟩)] at HX3
        cases HX3
        go_wp2_with fail
        refine (label_reader_fail.calls g t (qn : Int) 0 _ _ _ _ w0 _ HS1.out.1 HS1.out.2.1 (fail_f t qn)).mono ?_
        rintro e W3 ⟨rfl, hI3, hb3, hk3⟩
        rw [if_neg (by omega)] at hI3
        go_wp2_with fail
        go_ret
        first | exact ⟨rfl, hI3, hb3, HS1.out.2.2.trans hk3 (.inl rfl)⟩ | exact ⟨rfl, ((show qn = t.size by omega) ▸ hI3), hb3, HS1.out.2.2.trans hk3 (.inl rfl)⟩
        | false =>
        have HX3 := HX2.out
        rw [if_neg (fun h => h.elim (fun h => by omega) (fun h => absurd (hi.symm.trans h.2) (by simp)))] at HX3
        cases HX3
        have s0 : decide ((at_ : Int) ≤ (qn : Int)) = true := decide_eq_true (by omega)
        have s1 : ((at_ : Int) ≤ (qn : Int)) = True := eq_true (by omega)
        have s2 : decide ((qn : Int) ≤ (t.size : Int)) = true := decide_eq_true (by omega)
        have s3 : ((qn : Int) ≤ (t.size : Int)) = True := eq_true (by omega)
        have s4 : (0 ≤ (at_ : Int)) = True := eq_true (by omega)
        have s5 : (0 ≤ (qn : Int)) = True := eq_true (by omega)
        go_wp2_with fail
        refine start_ (n := 11) (S := fun w' => w'.cell? ⟨g, 0, none⟩ = some (.string t) ∧ w'.cell? ⟨g, 1, none⟩ = some (.int .i64 (qn : Int))) (ds := []) #[false, false, false, false, false, false, false, false, false, false, false] (by kernel_rfl) rfl rfl ⟨c0_, c1_⟩ (fun hHeld => ?_)
        refine pureS_ (i := 0) (N := some 87) (v := ?_) (a' := ?_) rfl rfl (by kernel_rfl) (fun _ _ _ h => h) (Or.inl ⟨by rfl, ?_⟩) ?_ ?_
        rotate_left; (· intro w'; go_simp; with_reducible rfl); rotate_left; (· simp only [Act.put, List.setIfInBounds_toArray, List.set_cons_zero, List.set_cons_succ, i64_w, i32_w]; rfl)
        refine pureS_ (i := 1) (N := some 88) (v := ?_) (a' := ?_) rfl rfl (by kernel_rfl) (fun _ _ _ h => h) (Or.inl ⟨by rfl, ?_⟩) ?_ ?_
        rotate_left; (· intro w'; go_simp; with_reducible rfl); rotate_left; (· simp only [Act.put, List.setIfInBounds_toArray, List.set_cons_zero, List.set_cons_succ, i64_w, i32_w]; rfl)
        refine pureS_ (i := 2) (N := some 89) (v := ?_) (a' := ?_) rfl rfl (by kernel_rfl) (fun _ _ _ h => h) (Or.inl ⟨by rfl, ?_⟩) ?_ ?_
        rotate_left; (· intro w'; go_simp; with_reducible rfl); rotate_left; (· simp only [Act.put, List.setIfInBounds_toArray, List.set_cons_zero, List.set_cons_succ, i64_w, i32_w]; rfl)
        refine pureS_ (i := 4) (N := some 91) (v := ?_) (a' := ?_) rfl rfl (by kernel_rfl) (fun _ _ _ h => h) (Or.inl ⟨by rfl, ?_⟩) ?_ ?_
        rotate_left; (· intro w'; go_simp; with_reducible rfl); rotate_left; (· simp only [Act.put, List.setIfInBounds_toArray, List.set_cons_zero, List.set_cons_succ, i64_w, i32_w]; rfl)
        refine pureS_ (i := 5) (N := some 92) (v := ?_) (a' := ?_) rfl rfl (by kernel_rfl) (fun _ _ _ h => h) (Or.inl ⟨by rfl, ?_⟩) ?_ ?_
        rotate_left; (· intro w'; go_simp; with_reducible rfl); rotate_left; (· simp only [Act.put, List.setIfInBounds_toArray, List.set_cons_zero, List.set_cons_succ, i64_w, i32_w]; rfl)
        refine pureS_ (i := 6) (N := some 93) (v := ?_) (a' := ?_) rfl rfl (by kernel_rfl) (fun _ _ _ h => h) (Or.inl ⟨by rfl, ?_⟩) ?_ ?_
        rotate_left; (· intro w'; go_simp; with_reducible rfl); rotate_left; (· simp only [Act.put, List.setIfInBounds_toArray, List.set_cons_zero, List.set_cons_succ, i64_w, i32_w]; rfl)
        refine pureS_ (i := 7) (N := some 94) (v := ?_) (a' := ?_) rfl rfl (by kernel_rfl) (fun _ _ _ h => h) (Or.inl ⟨by rfl, ?_⟩) ?_ ?_
        rotate_left; (· intro w'; go_simp; with_reducible rfl); rotate_left; (· simp only [Act.put, List.setIfInBounds_toArray, List.set_cons_zero, List.set_cons_succ, i64_w, i32_w]; rfl)
        refine takeS_ (i := 3) (N := some 90) (v := ?_) (a' := ?_) rfl rfl (by kernel_rfl) (fun _ _ _ h => h) (Or.inl ⟨by rfl, ?_⟩) hHeld ?_ ?_
        rotate_left; (· rintro w' ⟨s0, s1⟩; go_simp; with_reducible rfl); rotate_left; (· simp only [Act.put, List.setIfInBounds_toArray, List.set_cons_zero, List.set_cons_succ, i64_w, i32_w]; rfl)
        refine takeS_ (i := 8) (N := some 95) (v := ?_) (a' := ?_) rfl rfl (by kernel_rfl) (fun _ _ _ h => h) (Or.inl ⟨by rfl, ?_⟩) hHeld ?_ ?_
        rotate_left; (· rintro w' ⟨s0, s1⟩; go_simp; with_reducible rfl); rotate_left; (· simp only [Act.put, List.setIfInBounds_toArray, List.set_cons_zero, List.set_cons_succ, i64_w, i32_w]; rfl)
        refine pureS_ (i := 9) (N := some 96) (v := ?_) (a' := ?_) rfl rfl (by kernel_rfl) (fun _ _ _ h => h) (Or.inl ⟨by rfl, ?_⟩) ?_ ?_
        rotate_left; (· intro w'; go_simp; with_reducible rfl); rotate_left; (· simp only [Act.put, List.setIfInBounds_toArray, List.set_cons_zero, List.set_cons_succ, i64_w, i32_w]; rfl)
        refine pureS_ (i := 10) (N := some 6) (v := ?_) (a' := ?_) rfl rfl (by kernel_rfl) (fun _ _ _ h => h) (Or.inl ⟨by rfl, ?_⟩) ?_ ?_
        rotate_left; (· intro w'; go_simp; with_reducible rfl); rotate_left; (· simp only [Act.put, List.setIfInBounds_toArray, List.set_cons_zero, List.set_cons_succ, i64_w, i32_w]; rfl)
        refine done_ (by kernel_rfl) ?_
        go_wp2_with fail
        go_ret
        exact ⟨rfl, IsS55.drew HS1.out.1, below_drew1 HS1.out.2.1, keep_drew HS1.out.2.2⟩
     ·have e15 : ((aq : Int) == (at_ : Int) + 15) = false := beq_eq_false_iff_ne.mpr (by omega)
      have hw1 : wrap64 ((aq : Int) + 1) = (aq : Int) + 1 := by unfold wrap64; omega
      have HNX : Aside0 ((aq : Int) + 1 = ((at_ + (p + 1) : Nat) : Int)) := ⟨by omega⟩
      have e1_ := blk_frozen HSq.out.2.1.1 1
      go_wp2_with fail
      go_roundw
      case rel =>
       refine ⟨false, p + 1, rfl, by omega, by omega, ⟨⟨?_, ?_, below_set HSq.out.2.2.1 HSq.out.2.1.2, KeepBut.set_ HSq.out.2.2.2 _ _, HT.out⟩⟩, ⟨?_⟩⟩
       ·exact (Below.heap_setCell W2 ⟨g, 1, none⟩ _ it (show it ≠ g by omega)).trans HSq.out.1
       ·rw [← HNX.out]; exact IsS55.set_1 HSq.out.2.1 _
       ·rw [HE.out, show 16 - p = (16 - (p + 1)) + 1 by omega]
        exact runE_on ⟨hlt, HFT.out, h15⟩
      case measure =>
       have h1 := (Below.heap_setCell W2 ⟨g, 1, none⟩ (.int .i64 ((aq : Int) + 1)) it (show it ≠ g by omega)).trans HSq.out.1
       have h2 := HIB.out
       unfold World.iterPos
       rw [h1, h2]
       dsimp only
       omega
   | false =>
    unfold fV at *
    go_wp2_with fail
    refine (label_inside.calls c _ _ (inside_f c)).mono ?_
    rintro e W2 ⟨rfl, hd⟩
    have HA2 : Aside0 (insB c = insB (gb s p) ∧ (insB (gb s p) = true → q = 1)) := ⟨by have := HA.out; unfold fB at this; simpa using this⟩
    have HD2 := Aside0.mk hd.below
    clear hd HA hnx
    generalize hv : insB c = v at *
    cases v with
    | false =>
     have HE2 : Aside0 (runE s 16 b0 0 = p) := ⟨HE.out.trans (runE_stop (by rintro ⟨_, h2, _⟩; have h3 := HA2.out.1; simp only [fB, Bool.false_eq_true, if_true, if_false] at h2; rw [← h3] at h2; cases h2))⟩
     have HS2 := Aside0.mk (And.intro (H1.out.2.1.below HD2.out) (And.intro (below_then H1.out.2.2.1 H1.out.2.2.1.size HD2.out) (H1.out.2.2.2.trans (KeepBut.of_below HD2.out g none) (.inl rfl))))
     clear HS0 HS H1 hib
     have HX2 := Aside0.mk ((runF_at b0 t at_ p ha (hs0.symm ▸ HE2.out)).symm.trans HX.out)
     clear HX HE HE2
     obtain ⟨qn, hqn⟩ : ∃ qn : Nat, at_ + p = qn := ⟨_, rfl⟩
     have hp0 : p = qn - at_ ∧ at_ ≤ qn := by omega
     rw [hqn] at HS2 HX2
     clear hqn
     have HS := HS2
     clear HS2
     have c0_ : W2.cell? ⟨g, 0, none⟩ = some (.string t) := (blk_cell HS.out.1.1 0).trans rfl
     have c1_ : W2.cell? ⟨g, 1, none⟩ = some (.int .i64 (qn : Int)) := (blk_cell HS.out.1.1 1).trans rfl
     have hq0 : (0 : Int) ≤ (qn : Int) := by omega
     have hqz : qn ≤ t.size := by omega
     have hz : qn < t.size := by omega
     have z0 : decide ((qn : Int) < (t.size : Int)) = true := decide_eq_true (by omega)
     have z1 : ((qn : Int) < (t.size : Int)) = True := eq_true (by omega)
     have z2 : (0 ≤ (qn : Int)) = True := eq_true (by omega)
     go_wp2_with fail
     refine start_ (n := 24) (S := fun w' => w'.cell? ⟨g, 0, none⟩ = some (.string t) ∧ w'.cell? ⟨g, 1, none⟩ = some (.int .i64 (qn : Int))) (ds := []) #[false, false, false, false, false, false, false, false, false, false, false, false, false, false, false, false, false, false, false, false, false, false, false, false] (by kernel_rfl) rfl rfl ⟨c0_, c1_⟩ (fun hHeld => ?_)
     refine pureS_ (i := 0) (N := some 53) (v := ?_) (a' := ?_) rfl rfl (by kernel_rfl) (fun _ _ _ h => h) (Or.inl ⟨by rfl, ?_⟩) ?_ ?_
     rotate_left; (· intro w'; go_simp; with_reducible rfl); rotate_left; (· simp only [Act.put, List.setIfInBounds_toArray, List.set_cons_zero, List.set_cons_succ, i64_w, i32_w]; rfl)
     refine pureS_ (i := 1) (N := some 54) (v := ?_) (a' := ?_) rfl rfl (by kernel_rfl) (fun _ _ _ h => h) (Or.inl ⟨by rfl, ?_⟩) ?_ ?_
     rotate_left; (· intro w'; go_simp; with_reducible rfl); rotate_left; (· simp only [Act.put, List.setIfInBounds_toArray, List.set_cons_zero, List.set_cons_succ, i64_w, i32_w]; rfl)
     refine pureS_ (i := 2) (N := some 55) (v := ?_) (a' := ?_) rfl rfl (by kernel_rfl) (fun _ _ _ h => h) (Or.inl ⟨by rfl, ?_⟩) ?_ ?_
     rotate_left; (· intro w'; go_simp; with_reducible rfl); rotate_left; (· simp only [Act.put, List.setIfInBounds_toArray, List.set_cons_zero, List.set_cons_succ, i64_w, i32_w]; rfl)
     refine pureS_ (i := 4) (N := some 57) (v := ?_) (a' := ?_) rfl rfl (by kernel_rfl) (fun _ _ _ h => h) (Or.inl ⟨by rfl, ?_⟩) ?_ ?_
     rotate_left; (· intro w'; go_simp; with_reducible rfl); rotate_left; (· simp only [Act.put, List.setIfInBounds_toArray, List.set_cons_zero, List.set_cons_succ, i64_w, i32_w]; rfl)
     refine pureS_ (i := 5) (N := some 58) (v := ?_) (a' := ?_) rfl rfl (by kernel_rfl) (fun _ _ _ h => h) (Or.inl ⟨by rfl, ?_⟩) ?_ ?_
     rotate_left; (· intro w'; go_simp; with_reducible rfl); rotate_left; (· simp only [Act.put, List.setIfInBounds_toArray, List.set_cons_zero, List.set_cons_succ, i64_w, i32_w]; rfl)
     refine pureS_ (i := 6) (N := some 59) (v := ?_) (a' := ?_) rfl rfl (by kernel_rfl) (fun _ _ _ h => h) (Or.inl ⟨by rfl, ?_⟩) ?_ ?_
     rotate_left; (· intro w'; go_simp; with_reducible rfl); rotate_left; (· simp only [Act.put, List.setIfInBounds_toArray, List.set_cons_zero, List.set_cons_succ, i64_w, i32_w]; rfl)
     refine takeS_ (i := 3) (N := some 56) (v := ?_) (a' := ?_) rfl rfl (by kernel_rfl) (fun _ _ _ h => h) (Or.inl ⟨by rfl, ?_⟩) hHeld ?_ ?_
     rotate_left; (· rintro w' ⟨s0, s1⟩; go_simp; with_reducible rfl); rotate_left; (· simp only [Act.put, List.setIfInBounds_toArray, List.set_cons_zero, List.set_cons_succ, i64_w, i32_w]; rfl)
     refine takeS_ (i := 7) (N := some 60) (v := ?_) (a' := ?_) rfl rfl (by kernel_rfl) (fun _ _ _ h => h) (Or.inl ⟨by rfl, ?_⟩) hHeld ?_ ?_
     rotate_left; (· rintro w' ⟨s0, s1⟩; go_simp; with_reducible rfl); rotate_left; (· simp only [Act.put, List.setIfInBounds_toArray, List.set_cons_zero, List.set_cons_succ, i64_w, i32_w]; rfl)
     refine pureS_ (i := 8) (N := some 61) (v := ?_) (a' := ?_) rfl rfl (by kernel_rfl) (fun _ _ _ h => h) (Or.inl ⟨by rfl, ?_⟩) ?_ ?_
     rotate_left; (· intro w'; go_simp; with_reducible rfl); rotate_left; (· simp only [Act.put, List.setIfInBounds_toArray, List.set_cons_zero, List.set_cons_succ, i64_w, i32_w]; rfl)
     refine pureS_ (i := 9) (N := some 62) (v := ?_) (a' := ?_) rfl rfl (by kernel_rfl) (fun _ _ _ h => h) (Or.inl ⟨by rfl, ?_⟩) ?_ ?_
     rotate_left; (· intro w'; go_simp; with_reducible rfl); rotate_left; (· simp only [Act.put, List.setIfInBounds_toArray, List.set_cons_zero, List.set_cons_succ, i64_w, i32_w]; rfl)
     refine pureS_ (i := 10) (N := some 63) (v := ?_) (a' := ?_) rfl rfl (by kernel_rfl) (fun _ _ _ h => h) (Or.inl ⟨by rfl, ?_⟩) ?_ ?_
     rotate_left; (· intro w'; go_simp; with_reducible rfl); rotate_left; (· simp only [Act.put, List.setIfInBounds_toArray, List.set_cons_zero, List.set_cons_succ, i64_w, i32_w]; rfl)
     refine pureS_ (i := 11) (N := some 64) (v := ?_) (a' := ?_) rfl rfl (by kernel_rfl) (fun _ _ _ h => h) (Or.inl ⟨by rfl, ?_⟩) ?_ ?_
     rotate_left; (· intro w'; go_simp; with_reducible rfl); rotate_left; (· simp only [Act.put, List.setIfInBounds_toArray, List.set_cons_zero, List.set_cons_succ, i64_w, i32_w]; rfl)
     refine pureS_ (i := 12) (N := some 65) (v := ?_) (a' := ?_) rfl rfl (by kernel_rfl) (fun _ _ _ h => h) (Or.inl ⟨by rfl, ?_⟩) ?_ ?_
     rotate_left; (· intro w'; go_simp; with_reducible rfl); rotate_left; (· simp only [Act.put, List.setIfInBounds_toArray, List.set_cons_zero, List.set_cons_succ, i64_w, i32_w]; rfl)
     refine pureS_ (i := 13) (N := some 66) (v := ?_) (a' := ?_) rfl rfl (by kernel_rfl) (fun _ _ _ h => h) (Or.inl ⟨by rfl, ?_⟩) ?_ ?_
     rotate_left; (· intro w'; go_simp; with_reducible rfl); rotate_left; (· simp only [Act.put, List.setIfInBounds_toArray, List.set_cons_zero, List.set_cons_succ, i64_w, i32_w]; rfl)
     refine pureS_ (i := 15) (N := some 68) (v := ?_) (a' := ?_) rfl rfl (by kernel_rfl) (fun _ _ _ h => h) (Or.inl ⟨by rfl, ?_⟩) ?_ ?_
     rotate_left; (· intro w'; go_simp; with_reducible rfl); rotate_left; (· simp only [Act.put, List.setIfInBounds_toArray, List.set_cons_zero, List.set_cons_succ, i64_w, i32_w]; rfl)
     refine pureS_ (i := 16) (N := some 69) (v := ?_) (a' := ?_) rfl rfl (by kernel_rfl) (fun _ _ _ h => h) (Or.inl ⟨by rfl, ?_⟩) ?_ ?_
     rotate_left; (· intro w'; go_simp; with_reducible rfl); rotate_left; (· simp only [Act.put, List.setIfInBounds_toArray, List.set_cons_zero, List.set_cons_succ, i64_w, i32_w]; rfl)
     refine pureS_ (i := 17) (N := some 70) (v := ?_) (a' := ?_) rfl rfl (by kernel_rfl) (fun _ _ _ h => h) (Or.inl ⟨by rfl, ?_⟩) ?_ ?_
     rotate_left; (· intro w'; go_simp; with_reducible rfl); rotate_left; (· simp only [Act.put, List.setIfInBounds_toArray, List.set_cons_zero, List.set_cons_succ, i64_w, i32_w]; rfl)
     refine takeS_ (i := 14) (N := some 67) (v := ?_) (a' := ?_) rfl rfl (by kernel_rfl) (fun _ _ _ h => h) (Or.inl ⟨by rfl, ?_⟩) hHeld ?_ ?_
     rotate_left; (· rintro w' ⟨s0, s1⟩; go_simp; with_reducible rfl); rotate_left; (· simp only [Act.put, List.setIfInBounds_toArray, List.set_cons_zero, List.set_cons_succ, i64_w, i32_w]; rfl)
     refine takeS_ (i := 18) (N := some 71) (v := ?_) (a' := ?_) rfl rfl (by kernel_rfl) (fun _ _ _ h => h) (Or.inl ⟨by rfl, ?_⟩) hHeld ?_ ?_
     rotate_left; (· rintro w' ⟨s0, s1⟩; go_simp; with_reducible rfl); rotate_left; (· simp only [Act.put, List.setIfInBounds_toArray, List.set_cons_zero, List.set_cons_succ, i64_w, i32_w]; rfl)
     refine takeS_ (i := 19) (N := some 72) (v := ?_) (a' := ?_) rfl rfl (by kernel_rfl) (fun _ _ _ h => h) (Or.inl ⟨by rfl, ?_⟩) hHeld ?_ ?_
     rotate_left; (· rintro w' ⟨s0, s1⟩; go_simp; with_reducible rfl); rotate_left; (· simp only [Act.put, List.setIfInBounds_toArray, List.set_cons_zero, List.set_cons_succ, i64_w, i32_w]; rfl)
     refine pureS_ (i := 20) (N := some 73) (v := ?_) (a' := ?_) rfl rfl (by kernel_rfl) (fun _ _ _ h => h) (Or.inl ⟨by rfl, ?_⟩) ?_ ?_
     rotate_left; (· intro w'; go_simp; with_reducible rfl); rotate_left; (· simp only [Act.put, List.setIfInBounds_toArray, List.set_cons_zero, List.set_cons_succ, i64_w, i32_w]; rfl)
     refine oneS_ (i := 21) (N := some 74) rfl rfl (by kernel_rfl) (by decide) (fun K hK => ?_)
     refine goes_ Try.func64 (by kernel_rfl) rfl #[.int .i32 (gb t qn)] (by rfl) rfl rfl (by simp only [List.map_toArray, List.map_cons, List.map_nil]; go_simp; exact wrap_gb t qn _) ?_
     with_reducible refine (label_inside.calls _ _ _ (inside_f _)).mono ?_
     rintro e W1_ ⟨rfl, hd⟩
     refine ⟨_, rfl, ?_⟩
     have hb := hd.below
     have HB1 := Aside0.mk hb
     refine hK.out _ _ ⟨(pw_cell_below hb c0_), (pw_cell_below hb c1_)⟩ (fun hHeld => ?_)
     clear hK K
     refine norm_ (a' := ?_) ?_ ?_
     rotate_left
     ·show Act.put _ (some 74) _ = _
      simp only [Act.put, List.setIfInBounds_toArray, List.set_cons_zero, List.set_cons_succ, i64_w, i32_w]
      rfl
     refine pureS_ (i := 22) (N := some 75) (v := ?_) (a' := ?_) rfl rfl (by kernel_rfl) (fun _ _ _ h => h) (Or.inl ⟨by rfl, ?_⟩) ?_ ?_
     rotate_left; (· intro w'; go_simp; with_reducible rfl); rotate_left; (· simp only [Act.put, List.setIfInBounds_toArray, List.set_cons_zero, List.set_cons_succ, i64_w, i32_w]; rfl)
     refine pureS_ (i := 23) (N := some 11) (v := ?_) (a' := ?_) rfl rfl (by kernel_rfl) (fun _ _ _ h => h) (Or.inl ⟨by rfl, ?_⟩) ?_ ?_
     rotate_left; (· intro w'; go_simp; with_reducible rfl); rotate_left; (· simp only [Act.put, List.setIfInBounds_toArray, List.set_cons_zero, List.set_cons_succ, i64_w, i32_w]; rfl)
     refine done_ (by kernel_rfl) ?_
     have HS1 := Aside0.mk (And.intro (IsS55.below (IsS55.drew HS.out.1) HB1.out) (And.intro (below_then (below_drew1 HS.out.2.1) (below_drew1 HS.out.2.1).size HB1.out) ((keep_drew HS.out.2.2).trans (KeepBut.of_below HB1.out g none) (.inl rfl))))
     have c0_ := hHeld.1
     have c1_ := hHeld.2
     clear hHeld HS HB1
     by_cases hqa : qn = at_
     ·have a0 : ((qn : Int) == (at_ : Int)) = true := by rw [hqa]; exact beq_self_eq_true _
      have hqb := Aside0.mk hqa
      clear hqa
      have HX3 := HX2.out
      rw [if_pos (.inl (by have := hqb.out; omega))] at HX3
      cases HX3
      go_wp2_with fail
      refine (label_reader_fail.calls g t (qn : Int) 0 _ _ _ _ w0 _ HS1.out.1 HS1.out.2.1 (fail_f t qn)).mono ?_
      rintro e W3 ⟨rfl, hI3, hb3, hk3⟩
      rw [if_neg (by omega)] at hI3
      go_wp2_with fail
      go_ret
      first | exact ⟨rfl, hI3, hb3, HS1.out.2.2.trans hk3 (.inl rfl)⟩ | exact ⟨rfl, ((show qn = t.size by omega) ▸ hI3), hb3, HS1.out.2.2.trans hk3 (.inl rfl)⟩
     ·have a0 : ((qn : Int) == (at_ : Int)) = false := beq_eq_false_iff_ne.mpr (by omega)
      cases hi : insB (gb t qn) with
      | true =>
       have HX3 := HX2.out
       rw [if_pos (.inr ⟨hz, hi⟩)] at HX3
       cases HX3
       go_wp2_with fail
       refine (label_reader_fail.calls g t (qn : Int) 0 _ _ _ _ w0 _ HS1.out.1 HS1.out.2.1 (fail_f t qn)).mono ?_
       rintro e W3 ⟨rfl, hI3, hb3, hk3⟩
       rw [if_neg (by omega)] at hI3
       go_wp2_with fail
       go_ret
       first | exact ⟨rfl, hI3, hb3, HS1.out.2.2.trans hk3 (.inl rfl)⟩ | exact ⟨rfl, ((show qn = t.size by omega) ▸ hI3), hb3, HS1.out.2.2.trans hk3 (.inl rfl)⟩
       | false =>
       have HX3 := HX2.out
       rw [if_neg (fun h => h.elim (fun h => by omega) (fun h => absurd (hi.symm.trans h.2) (by simp)))] at HX3
       cases HX3
       have s0 : decide ((at_ : Int) ≤ (qn : Int)) = true := decide_eq_true (by omega)
       have s1 : ((at_ : Int) ≤ (qn : Int)) = True := eq_true (by omega)
       have s2 : decide ((qn : Int) ≤ (t.size : Int)) = true := decide_eq_true (by omega)
       have s3 : ((qn : Int) ≤ (t.size : Int)) = True := eq_true (by omega)
       have s4 : (0 ≤ (at_ : Int)) = True := eq_true (by omega)
       have s5 : (0 ≤ (qn : Int)) = True := eq_true (by omega)
       go_wp2_with fail
       refine start_ (n := 11) (S := fun w' => w'.cell? ⟨g, 0, none⟩ = some (.string t) ∧ w'.cell? ⟨g, 1, none⟩ = some (.int .i64 (qn : Int))) (ds := []) #[false, false, false, false, false, false, false, false, false, false, false] (by kernel_rfl) rfl rfl ⟨c0_, c1_⟩ (fun hHeld => ?_)
       refine pureS_ (i := 0) (N := some 87) (v := ?_) (a' := ?_) rfl rfl (by kernel_rfl) (fun _ _ _ h => h) (Or.inl ⟨by rfl, ?_⟩) ?_ ?_
       rotate_left; (· intro w'; go_simp; with_reducible rfl); rotate_left; (· simp only [Act.put, List.setIfInBounds_toArray, List.set_cons_zero, List.set_cons_succ, i64_w, i32_w]; rfl)
       refine pureS_ (i := 1) (N := some 88) (v := ?_) (a' := ?_) rfl rfl (by kernel_rfl) (fun _ _ _ h => h) (Or.inl ⟨by rfl, ?_⟩) ?_ ?_
       rotate_left; (· intro w'; go_simp; with_reducible rfl); rotate_left; (· simp only [Act.put, List.setIfInBounds_toArray, List.set_cons_zero, List.set_cons_succ, i64_w, i32_w]; rfl)
       refine pureS_ (i := 2) (N := some 89) (v := ?_) (a' := ?_) rfl rfl (by kernel_rfl) (fun _ _ _ h => h) (Or.inl ⟨by rfl, ?_⟩) ?_ ?_
       rotate_left; (· intro w'; go_simp; with_reducible rfl); rotate_left; (· simp only [Act.put, List.setIfInBounds_toArray, List.set_cons_zero, List.set_cons_succ, i64_w, i32_w]; rfl)
       refine pureS_ (i := 4) (N := some 91) (v := ?_) (a' := ?_) rfl rfl (by kernel_rfl) (fun _ _ _ h => h) (Or.inl ⟨by rfl, ?_⟩) ?_ ?_
       rotate_left; (· intro w'; go_simp; with_reducible rfl); rotate_left; (· simp only [Act.put, List.setIfInBounds_toArray, List.set_cons_zero, List.set_cons_succ, i64_w, i32_w]; rfl)
       refine pureS_ (i := 5) (N := some 92) (v := ?_) (a' := ?_) rfl rfl (by kernel_rfl) (fun _ _ _ h => h) (Or.inl ⟨by rfl, ?_⟩) ?_ ?_
       rotate_left; (· intro w'; go_simp; with_reducible rfl); rotate_left; (· simp only [Act.put, List.setIfInBounds_toArray, List.set_cons_zero, List.set_cons_succ, i64_w, i32_w]; rfl)
       refine pureS_ (i := 6) (N := some 93) (v := ?_) (a' := ?_) rfl rfl (by kernel_rfl) (fun _ _ _ h => h) (Or.inl ⟨by rfl, ?_⟩) ?_ ?_
       rotate_left; (· intro w'; go_simp; with_reducible rfl); rotate_left; (· simp only [Act.put, List.setIfInBounds_toArray, List.set_cons_zero, List.set_cons_succ, i64_w, i32_w]; rfl)
       refine pureS_ (i := 7) (N := some 94) (v := ?_) (a' := ?_) rfl rfl (by kernel_rfl) (fun _ _ _ h => h) (Or.inl ⟨by rfl, ?_⟩) ?_ ?_
       rotate_left; (· intro w'; go_simp; with_reducible rfl); rotate_left; (· simp only [Act.put, List.setIfInBounds_toArray, List.set_cons_zero, List.set_cons_succ, i64_w, i32_w]; rfl)
       refine takeS_ (i := 3) (N := some 90) (v := ?_) (a' := ?_) rfl rfl (by kernel_rfl) (fun _ _ _ h => h) (Or.inl ⟨by rfl, ?_⟩) hHeld ?_ ?_
       rotate_left; (· rintro w' ⟨s0, s1⟩; go_simp; with_reducible rfl); rotate_left; (· simp only [Act.put, List.setIfInBounds_toArray, List.set_cons_zero, List.set_cons_succ, i64_w, i32_w]; rfl)
       refine takeS_ (i := 8) (N := some 95) (v := ?_) (a' := ?_) rfl rfl (by kernel_rfl) (fun _ _ _ h => h) (Or.inl ⟨by rfl, ?_⟩) hHeld ?_ ?_
       rotate_left; (· rintro w' ⟨s0, s1⟩; go_simp; with_reducible rfl); rotate_left; (· simp only [Act.put, List.setIfInBounds_toArray, List.set_cons_zero, List.set_cons_succ, i64_w, i32_w]; rfl)
       refine pureS_ (i := 9) (N := some 96) (v := ?_) (a' := ?_) rfl rfl (by kernel_rfl) (fun _ _ _ h => h) (Or.inl ⟨by rfl, ?_⟩) ?_ ?_
       rotate_left; (· intro w'; go_simp; with_reducible rfl); rotate_left; (· simp only [Act.put, List.setIfInBounds_toArray, List.set_cons_zero, List.set_cons_succ, i64_w, i32_w]; rfl)
       refine pureS_ (i := 10) (N := some 6) (v := ?_) (a' := ?_) rfl rfl (by kernel_rfl) (fun _ _ _ h => h) (Or.inl ⟨by rfl, ?_⟩) ?_ ?_
       rotate_left; (· intro w'; go_simp; with_reducible rfl); rotate_left; (· simp only [Act.put, List.setIfInBounds_toArray, List.set_cons_zero, List.set_cons_succ, i64_w, i32_w]; rfl)
       refine done_ (by kernel_rfl) ?_
       go_wp2_with fail
       go_ret
       exact ⟨rfl, IsS55.drew HS1.out.1, below_drew1 HS1.out.2.1, keep_drew HS1.out.2.2⟩
    | true =>
     obtain rfl : q = 1 := HA2.out.2 HA2.out.1.symm
     have HSq : Aside0 (W2.heap[it]? = some (.stringIter s (p + 1)) ∧ IsS55 w0 W2 g t ((at_ + p : Nat) : Int) 0 ∧ Below w0.heap.size w0 W2 ∧ KeepBut w W2 g none) :=
      ⟨(HD2.out.block it (blk_lt H1.out.1)).trans H1.out.1, H1.out.2.1.below HD2.out, below_then H1.out.2.2.1 H1.out.2.2.1.size HD2.out, H1.out.2.2.2.trans (KeepBut.of_below HD2.out g none) (.inl rfl)⟩
     have HT := Aside0.mk (HS.out.h)
     have HIB := Aside0.mk hib
     have HFT : Aside0 (fB false (gb s p) = true) := ⟨by have h3 := HA2.out.1; simp only [fB, Bool.false_eq_true, if_true, if_false]; exact h3.symm⟩
     clear HS0 HS H1 hib HD2 HA2
     obtain ⟨aq, haq⟩ : ∃ aq : Nat, at_ + p = aq := ⟨_, rfl⟩
     rw [haq] at HSq
     have c1_ : W2.cell? ⟨g, 1, none⟩ = some (.int .i64 (aq : Int)) := (blk_cell HSq.out.2.1.1 1).trans rfl
     have hw15 : wrap64 ((at_ : Int) + 15) = (at_ : Int) + 15 := by unfold wrap64; omega
     by_cases h15 : p = 15
     ·have e15 : ((aq : Int) == (at_ : Int) + 15) = true := by rw [beq_iff_eq]; omega
      have HE2 : Aside0 (runE s 16 b0 0 = p) := ⟨HE.out.trans (runE_stop (fun h => h.2.2 h15))⟩
      have HS2 := Aside0.mk HSq.out.2
      rw [← haq] at HS2
      have hlt2 : at_ + p < t.size := by omega
      go_wp2_with fail
      clear HSq HT HIB HFT c1_ hw15 e15
      have HX2 := Aside0.mk ((runF_at b0 t at_ p ha (hs0.symm ▸ HE2.out)).symm.trans HX.out)
      clear HX HE HE2
      obtain ⟨qn, hqn⟩ : ∃ qn : Nat, at_ + p = qn := ⟨_, rfl⟩
      have hp0 : p = qn - at_ ∧ at_ ≤ qn := by omega
      rw [hqn] at HS2 HX2
      clear hqn
      have HS := HS2
      clear HS2
      have c0_ : W2.cell? ⟨g, 0, none⟩ = some (.string t) := (blk_cell HS.out.1.1 0).trans rfl
      have c1_ : W2.cell? ⟨g, 1, none⟩ = some (.int .i64 (qn : Int)) := (blk_cell HS.out.1.1 1).trans rfl
      have hq0 : (0 : Int) ≤ (qn : Int) := by omega
      have hqz : qn ≤ t.size := by omega
      have hz : qn < t.size := by omega
      have z0 : decide ((qn : Int) < (t.size : Int)) = true := decide_eq_true (by omega)
      have z1 : ((qn : Int) < (t.size : Int)) = True := eq_true (by omega)
      have z2 : (0 ≤ (qn : Int)) = True := eq_true (by omega)
      go_wp2_with fail
      refine start_ (n := 24) (S := fun w' => w'.cell? ⟨g, 0, none⟩ = some (.string t) ∧ w'.cell? ⟨g, 1, none⟩ = some (.int .i64 (qn : Int))) (ds := []) #[false, false, false, false, false, false, false, false, false, false, false, false, false, false, false, false, false, false, false, false, false, false, false, false] (by kernel_rfl) rfl rfl ⟨c0_, c1_⟩ (fun hHeld => ?_)
      refine pureS_ (i := 0) (N := some 53) (v := ?_) (a' := ?_) rfl rfl (by kernel_rfl) (fun _ _ _ h => h) (Or.inl ⟨by rfl, ?_⟩) ?_ ?_
      rotate_left; (· intro w'; go_simp; with_reducible rfl); rotate_left; (· simp only [Act.put, List.setIfInBounds_toArray, List.set_cons_zero, List.set_cons_succ, i64_w, i32_w]; rfl)
      refine pureS_ (i := 1) (N := some 54) (v := ?_) (a' := ?_) rfl rfl (by kernel_rfl) (fun _ _ _ h => h) (Or.inl ⟨by rfl, ?_⟩) ?_ ?_
      rotate_left; (· intro w'; go_simp; with_reducible rfl); rotate_left; (· simp only [Act.put, List.setIfInBounds_toArray, List.set_cons_zero, List.set_cons_succ, i64_w, i32_w]; rfl)
      refine pureS_ (i := 2) (N := some 55) (v := ?_) (a' := ?_) rfl rfl (by kernel_rfl) (fun _ _ _ h => h) (Or.inl ⟨by rfl, ?_⟩) ?_ ?_
      rotate_left; (· intro w'; go_simp; with_reducible rfl); rotate_left; (· simp only [Act.put, List.setIfInBounds_toArray, List.set_cons_zero, List.set_cons_succ, i64_w, i32_w]; rfl)
      refine pureS_ (i := 4) (N := some 57) (v := ?_) (a' := ?_) rfl rfl (by kernel_rfl) (fun _ _ _ h => h) (Or.inl ⟨by rfl, ?_⟩) ?_ ?_
      rotate_left; (· intro w'; go_simp; with_reducible rfl); rotate_left; (· simp only [Act.put, List.setIfInBounds_toArray, List.set_cons_zero, List.set_cons_succ, i64_w, i32_w]; rfl)
      refine pureS_ (i := 5) (N := some 58) (v := ?_) (a' := ?_) rfl rfl (by kernel_rfl) (fun _ _ _ h => h) (Or.inl ⟨by rfl, ?_⟩) ?_ ?_
      rotate_left; (· intro w'; go_simp; with_reducible rfl); rotate_left; (· simp only [Act.put, List.setIfInBounds_toArray, List.set_cons_zero, List.set_cons_succ, i64_w, i32_w]; rfl)
      refine pureS_ (i := 6) (N := some 59) (v := ?_) (a' := ?_) rfl rfl (by kernel_rfl) (fun _ _ _ h => h) (Or.inl ⟨by rfl, ?_⟩) ?_ ?_
      rotate_left; (· intro w'; go_simp; with_reducible rfl); rotate_left; (· simp only [Act.put, List.setIfInBounds_toArray, List.set_cons_zero, List.set_cons_succ, i64_w, i32_w]; rfl)
      refine takeS_ (i := 3) (N := some 56) (v := ?_) (a' := ?_) rfl rfl (by kernel_rfl) (fun _ _ _ h => h) (Or.inl ⟨by rfl, ?_⟩) hHeld ?_ ?_
      rotate_left; (· rintro w' ⟨s0, s1⟩; go_simp; with_reducible rfl); rotate_left; (· simp only [Act.put, List.setIfInBounds_toArray, List.set_cons_zero, List.set_cons_succ, i64_w, i32_w]; rfl)
      refine takeS_ (i := 7) (N := some 60) (v := ?_) (a' := ?_) rfl rfl (by kernel_rfl) (fun _ _ _ h => h) (Or.inl ⟨by rfl, ?_⟩) hHeld ?_ ?_
      rotate_left; (· rintro w' ⟨s0, s1⟩; go_simp; with_reducible rfl); rotate_left; (· simp only [Act.put, List.setIfInBounds_toArray, List.set_cons_zero, List.set_cons_succ, i64_w, i32_w]; rfl)
      refine pureS_ (i := 8) (N := some 61) (v := ?_) (a' := ?_) rfl rfl (by kernel_rfl) (fun _ _ _ h => h) (Or.inl ⟨by rfl, ?_⟩) ?_ ?_
      rotate_left; (· intro w'; go_simp; with_reducible rfl); rotate_left; (· simp only [Act.put, List.setIfInBounds_toArray, List.set_cons_zero, List.set_cons_succ, i64_w, i32_w]; rfl)
      refine pureS_ (i := 9) (N := some 62) (v := ?_) (a' := ?_) rfl rfl (by kernel_rfl) (fun _ _ _ h => h) (Or.inl ⟨by rfl, ?_⟩) ?_ ?_
      rotate_left; (· intro w'; go_simp; with_reducible rfl); rotate_left; (· simp only [Act.put, List.setIfInBounds_toArray, List.set_cons_zero, List.set_cons_succ, i64_w, i32_w]; rfl)
      refine pureS_ (i := 10) (N := some 63) (v := ?_) (a' := ?_) rfl rfl (by kernel_rfl) (fun _ _ _ h => h) (Or.inl ⟨by rfl, ?_⟩) ?_ ?_
      rotate_left; (· intro w'; go_simp; with_reducible rfl); rotate_left; (· simp only [Act.put, List.setIfInBounds_toArray, List.set_cons_zero, List.set_cons_succ, i64_w, i32_w]; rfl)
      refine pureS_ (i := 11) (N := some 64) (v := ?_) (a' := ?_) rfl rfl (by kernel_rfl) (fun _ _ _ h => h) (Or.inl ⟨by rfl, ?_⟩) ?_ ?_
      rotate_left; (· intro w'; go_simp; with_reducible rfl); rotate_left; (· simp only [Act.put, List.setIfInBounds_toArray, List.set_cons_zero, List.set_cons_succ, i64_w, i32_w]; rfl)
      refine pureS_ (i := 12) (N := some 65) (v := ?_) (a' := ?_) rfl rfl (by kernel_rfl) (fun _ _ _ h => h) (Or.inl ⟨by rfl, ?_⟩) ?_ ?_
      rotate_left; (· intro w'; go_simp; with_reducible rfl); rotate_left; (· simp only [Act.put, List.setIfInBounds_toArray, List.set_cons_zero, List.set_cons_succ, i64_w, i32_w]; rfl)
      refine pureS_ (i := 13) (N := some 66) (v := ?_) (a' := ?_) rfl rfl (by kernel_rfl) (fun _ _ _ h => h) (Or.inl ⟨by rfl, ?_⟩) ?_ ?_
      rotate_left; (· intro w'; go_simp; with_reducible rfl); rotate_left; (· simp only [Act.put, List.setIfInBounds_toArray, List.set_cons_zero, List.set_cons_succ, i64_w, i32_w]; rfl)
      refine pureS_ (i := 15) (N := some 68) (v := ?_) (a' := ?_) rfl rfl (by kernel_rfl) (fun _ _ _ h => h) (Or.inl ⟨by rfl, ?_⟩) ?_ ?_
      rotate_left; (· intro w'; go_simp; with_reducible rfl); rotate_left; (· simp only [Act.put, List.setIfInBounds_toArray, List.set_cons_zero, List.set_cons_succ, i64_w, i32_w]; rfl)
      refine pureS_ (i := 16) (N := some 69) (v := ?_) (a' := ?_) rfl rfl (by kernel_rfl) (fun _ _ _ h => h) (Or.inl ⟨by rfl, ?_⟩) ?_ ?_
      rotate_left; (· intro w'; go_simp; with_reducible rfl); rotate_left; (· simp only [Act.put, List.setIfInBounds_toArray, List.set_cons_zero, List.set_cons_succ, i64_w, i32_w]; rfl)
      refine pureS_ (i := 17) (N := some 70) (v := ?_) (a' := ?_) rfl rfl (by kernel_rfl) (fun _ _ _ h => h) (Or.inl ⟨by rfl, ?_⟩) ?_ ?_
      rotate_left; (· intro w'; go_simp; with_reducible rfl); rotate_left; (· simp only [Act.put, List.setIfInBounds_toArray, List.set_cons_zero, List.set_cons_succ, i64_w, i32_w]; rfl)
      refine takeS_ (i := 14) (N := some 67) (v := ?_) (a' := ?_) rfl rfl (by kernel_rfl) (fun _ _ _ h => h) (Or.inl ⟨by rfl, ?_⟩) hHeld ?_ ?_
      rotate_left; (· rintro w' ⟨s0, s1⟩; go_simp; with_reducible rfl); rotate_left; (· simp only [Act.put, List.setIfInBounds_toArray, List.set_cons_zero, List.set_cons_succ, i64_w, i32_w]; rfl)
      refine takeS_ (i := 18) (N := some 71) (v := ?_) (a' := ?_) rfl rfl (by kernel_rfl) (fun _ _ _ h => h) (Or.inl ⟨by rfl, ?_⟩) hHeld ?_ ?_
      rotate_left; (· rintro w' ⟨s0, s1⟩; go_simp; with_reducible rfl); rotate_left; (· simp only [Act.put, List.setIfInBounds_toArray, List.set_cons_zero, List.set_cons_succ, i64_w, i32_w]; rfl)
      refine takeS_ (i := 19) (N := some 72) (v := ?_) (a' := ?_) rfl rfl (by kernel_rfl) (fun _ _ _ h => h) (Or.inl ⟨by rfl, ?_⟩) hHeld ?_ ?_
      rotate_left; (· rintro w' ⟨s0, s1⟩; go_simp; with_reducible rfl); rotate_left; (· simp only [Act.put, List.setIfInBounds_toArray, List.set_cons_zero, List.set_cons_succ, i64_w, i32_w]; rfl)
      refine pureS_ (i := 20) (N := some 73) (v := ?_) (a' := ?_) rfl rfl (by kernel_rfl) (fun _ _ _ h => h) (Or.inl ⟨by rfl, ?_⟩) ?_ ?_
      rotate_left; (· intro w'; go_simp; with_reducible rfl); rotate_left; (· simp only [Act.put, List.setIfInBounds_toArray, List.set_cons_zero, List.set_cons_succ, i64_w, i32_w]; rfl)
      refine oneS_ (i := 21) (N := some 74) rfl rfl (by kernel_rfl) (by decide) (fun K hK => ?_)
      refine goes_ Try.func64 (by kernel_rfl) rfl #[.int .i32 (gb t qn)] (by rfl) rfl rfl (by simp only [List.map_toArray, List.map_cons, List.map_nil]; go_simp; exact wrap_gb t qn _) ?_
      with_reducible refine (label_inside.calls _ _ _ (inside_f _)).mono ?_
      rintro e W1_ ⟨rfl, hd⟩
      refine ⟨_, rfl, ?_⟩
      have hb := hd.below
      have HB1 := Aside0.mk hb
      refine hK.out _ _ ⟨(pw_cell_below hb c0_), (pw_cell_below hb c1_)⟩ (fun hHeld => ?_)
      clear hK K
      refine norm_ (a' := ?_) ?_ ?_
      rotate_left
      ·show Act.put _ (some 74) _ = _
       simp only [Act.put, List.setIfInBounds_toArray, List.set_cons_zero, List.set_cons_succ, i64_w, i32_w]
       rfl
      refine pureS_ (i := 22) (N := some 75) (v := ?_) (a' := ?_) rfl rfl (by kernel_rfl) (fun _ _ _ h => h) (Or.inl ⟨by rfl, ?_⟩) ?_ ?_
      rotate_left; (· intro w'; go_simp; with_reducible rfl); rotate_left; (· simp only [Act.put, List.setIfInBounds_toArray, List.set_cons_zero, List.set_cons_succ, i64_w, i32_w]; rfl)
      refine pureS_ (i := 23) (N := some 11) (v := ?_) (a' := ?_) rfl rfl (by kernel_rfl) (fun _ _ _ h => h) (Or.inl ⟨by rfl, ?_⟩) ?_ ?_
      rotate_left; (· intro w'; go_simp; with_reducible rfl); rotate_left; (· simp only [Act.put, List.setIfInBounds_toArray, List.set_cons_zero, List.set_cons_succ, i64_w, i32_w]; rfl)
      refine done_ (by kernel_rfl) ?_
      have HS1 := Aside0.mk (And.intro (IsS55.below (IsS55.drew HS.out.1) HB1.out) (And.intro (below_then (below_drew1 HS.out.2.1) (below_drew1 HS.out.2.1).size HB1.out) ((keep_drew HS.out.2.2).trans (KeepBut.of_below HB1.out g none) (.inl rfl))))
      have c0_ := hHeld.1
      have c1_ := hHeld.2
      clear hHeld HS HB1
      by_cases hqa : qn = at_
      ·have a0 : ((qn : Int) == (at_ : Int)) = true := by rw [hqa]; exact beq_self_eq_true _
       have hqb := Aside0.mk hqa
       clear hqa
       have HX3 := HX2.out
       rw [if_pos (.inl (by have := hqb.out; omega))] at HX3
       cases HX3
       go_wp2_with fail
       refine (label_reader_fail.calls g t (qn : Int) 0 _ _ _ _ w0 _ HS1.out.1 HS1.out.2.1 (fail_f t qn)).mono ?_
       rintro e W3 ⟨rfl, hI3, hb3, hk3⟩
       rw [if_neg (by omega)] at hI3
       go_wp2_with fail
       go_ret
       first | exact ⟨rfl, hI3, hb3, HS1.out.2.2.trans hk3 (.inl rfl)⟩ | exact ⟨rfl, ((show qn = t.size by omega) ▸ hI3), hb3, HS1.out.2.2.trans hk3 (.inl rfl)⟩
      ·have a0 : ((qn : Int) == (at_ : Int)) = false := beq_eq_false_iff_ne.mpr (by omega)
       cases hi : insB (gb t qn) with
       | true =>
        have HX3 := HX2.out
        rw [if_pos (.inr ⟨hz, hi⟩)] at HX3
        cases HX3
        go_wp2_with fail
        refine (label_reader_fail.calls g t (qn : Int) 0 _ _ _ _ w0 _ HS1.out.1 HS1.out.2.1 (fail_f t qn)).mono ?_
        rintro e W3 ⟨rfl, hI3, hb3, hk3⟩
        rw [if_neg (by omega)] at hI3
        go_wp2_with fail
        go_ret
        first | exact ⟨rfl, hI3, hb3, HS1.out.2.2.trans hk3 (.inl rfl)⟩ | exact ⟨rfl, ((show qn = t.size by omega) ▸ hI3), hb3, HS1.out.2.2.trans hk3 (.inl rfl)⟩
        | false =>
        have HX3 := HX2.out
        rw [if_neg (fun h => h.elim (fun h => by omega) (fun h => absurd (hi.symm.trans h.2) (by simp)))] at HX3
        cases HX3
        have s0 : decide ((at_ : Int) ≤ (qn : Int)) = true := decide_eq_true (by omega)
        have s1 : ((at_ : Int) ≤ (qn : Int)) = True := eq_true (by omega)
        have s2 : decide ((qn : Int) ≤ (t.size : Int)) = true := decide_eq_true (by omega)
        have s3 : ((qn : Int) ≤ (t.size : Int)) = True := eq_true (by omega)
        have s4 : (0 ≤ (at_ : Int)) = True := eq_true (by omega)
        have s5 : (0 ≤ (qn : Int)) = True := eq_true (by omega)
        go_wp2_with fail
        refine start_ (n := 11) (S := fun w' => w'.cell? ⟨g, 0, none⟩ = some (.string t) ∧ w'.cell? ⟨g, 1, none⟩ = some (.int .i64 (qn : Int))) (ds := []) #[false, false, false, false, false, false, false, false, false, false, false] (by kernel_rfl) rfl rfl ⟨c0_, c1_⟩ (fun hHeld => ?_)
        refine pureS_ (i := 0) (N := some 87) (v := ?_) (a' := ?_) rfl rfl (by kernel_rfl) (fun _ _ _ h => h) (Or.inl ⟨by rfl, ?_⟩) ?_ ?_
        rotate_left; (· intro w'; go_simp; with_reducible rfl); rotate_left; (· simp only [Act.put, List.setIfInBounds_toArray, List.set_cons_zero, List.set_cons_succ, i64_w, i32_w]; rfl)
        refine pureS_ (i := 1) (N := some 88) (v := ?_) (a' := ?_) rfl rfl (by kernel_rfl) (fun _ _ _ h => h) (Or.inl ⟨by rfl, ?_⟩) ?_ ?_
        rotate_left; (· intro w'; go_simp; with_reducible rfl); rotate_left; (· simp only [Act.put, List.setIfInBounds_toArray, List.set_cons_zero, List.set_cons_succ, i64_w, i32_w]; rfl)
        refine pureS_ (i := 2) (N := some 89) (v := ?_) (a' := ?_) rfl rfl (by kernel_rfl) (fun _ _ _ h => h) (Or.inl ⟨by rfl, ?_⟩) ?_ ?_
        rotate_left; (· intro w'; go_simp; with_reducible rfl); rotate_left; (· simp only [Act.put, List.setIfInBounds_toArray, List.set_cons_zero, List.set_cons_succ, i64_w, i32_w]; rfl)
        refine pureS_ (i := 4) (N := some 91) (v := ?_) (a' := ?_) rfl rfl (by kernel_rfl) (fun _ _ _ h => h) (Or.inl ⟨by rfl, ?_⟩) ?_ ?_
        rotate_left; (· intro w'; go_simp; with_reducible rfl); rotate_left; (· simp only [Act.put, List.setIfInBounds_toArray, List.set_cons_zero, List.set_cons_succ, i64_w, i32_w]; rfl)
        refine pureS_ (i := 5) (N := some 92) (v := ?_) (a' := ?_) rfl rfl (by kernel_rfl) (fun _ _ _ h => h) (Or.inl ⟨by rfl, ?_⟩) ?_ ?_
        rotate_left; (· intro w'; go_simp; with_reducible rfl); rotate_left; (· simp only [Act.put, List.setIfInBounds_toArray, List.set_cons_zero, List.set_cons_succ, i64_w, i32_w]; rfl)
        refine pureS_ (i := 6) (N := some 93) (v := ?_) (a' := ?_) rfl rfl (by kernel_rfl) (fun _ _ _ h => h) (Or.inl ⟨by rfl, ?_⟩) ?_ ?_
        rotate_left; (· intro w'; go_simp; with_reducible rfl); rotate_left; (· simp only [Act.put, List.setIfInBounds_toArray, List.set_cons_zero, List.set_cons_succ, i64_w, i32_w]; rfl)
        refine pureS_ (i := 7) (N := some 94) (v := ?_) (a' := ?_) rfl rfl (by kernel_rfl) (fun _ _ _ h => h) (Or.inl ⟨by rfl, ?_⟩) ?_ ?_
        rotate_left; (· intro w'; go_simp; with_reducible rfl); rotate_left; (· simp only [Act.put, List.setIfInBounds_toArray, List.set_cons_zero, List.set_cons_succ, i64_w, i32_w]; rfl)
        refine takeS_ (i := 3) (N := some 90) (v := ?_) (a' := ?_) rfl rfl (by kernel_rfl) (fun _ _ _ h => h) (Or.inl ⟨by rfl, ?_⟩) hHeld ?_ ?_
        rotate_left; (· rintro w' ⟨s0, s1⟩; go_simp; with_reducible rfl); rotate_left; (· simp only [Act.put, List.setIfInBounds_toArray, List.set_cons_zero, List.set_cons_succ, i64_w, i32_w]; rfl)
        refine takeS_ (i := 8) (N := some 95) (v := ?_) (a' := ?_) rfl rfl (by kernel_rfl) (fun _ _ _ h => h) (Or.inl ⟨by rfl, ?_⟩) hHeld ?_ ?_
        rotate_left; (· rintro w' ⟨s0, s1⟩; go_simp; with_reducible rfl); rotate_left; (· simp only [Act.put, List.setIfInBounds_toArray, List.set_cons_zero, List.set_cons_succ, i64_w, i32_w]; rfl)
        refine pureS_ (i := 9) (N := some 96) (v := ?_) (a' := ?_) rfl rfl (by kernel_rfl) (fun _ _ _ h => h) (Or.inl ⟨by rfl, ?_⟩) ?_ ?_
        rotate_left; (· intro w'; go_simp; with_reducible rfl); rotate_left; (· simp only [Act.put, List.setIfInBounds_toArray, List.set_cons_zero, List.set_cons_succ, i64_w, i32_w]; rfl)
        refine pureS_ (i := 10) (N := some 6) (v := ?_) (a' := ?_) rfl rfl (by kernel_rfl) (fun _ _ _ h => h) (Or.inl ⟨by rfl, ?_⟩) ?_ ?_
        rotate_left; (· intro w'; go_simp; with_reducible rfl); rotate_left; (· simp only [Act.put, List.setIfInBounds_toArray, List.set_cons_zero, List.set_cons_succ, i64_w, i32_w]; rfl)
        refine done_ (by kernel_rfl) ?_
        go_wp2_with fail
        go_ret
        exact ⟨rfl, IsS55.drew HS1.out.1, below_drew1 HS1.out.2.1, keep_drew HS1.out.2.2⟩
     ·have e15 : ((aq : Int) == (at_ : Int) + 15) = false := beq_eq_false_iff_ne.mpr (by omega)
      have hw1 : wrap64 ((aq : Int) + 1) = (aq : Int) + 1 := by unfold wrap64; omega
      have HNX : Aside0 ((aq : Int) + 1 = ((at_ + (p + 1) : Nat) : Int)) := ⟨by omega⟩
      have e1_ := blk_frozen HSq.out.2.1.1 1
      go_wp2_with fail
      go_roundw
      case rel =>
       refine ⟨false, p + 1, rfl, by omega, by omega, ⟨⟨?_, ?_, below_set HSq.out.2.2.1 HSq.out.2.1.2, KeepBut.set_ HSq.out.2.2.2 _ _, HT.out⟩⟩, ⟨?_⟩⟩
       ·exact (Below.heap_setCell W2 ⟨g, 1, none⟩ _ it (show it ≠ g by omega)).trans HSq.out.1
       ·rw [← HNX.out]; exact IsS55.set_1 HSq.out.2.1 _
       ·rw [HE.out, show 16 - p = (16 - (p + 1)) + 1 by omega]
        exact runE_on ⟨hlt, HFT.out, h15⟩
      case measure =>
       have h1 := (Below.heap_setCell W2 ⟨g, 1, none⟩ (.int .i64 ((aq : Int) + 1)) it (show it ≠ g by omega)).trans HSq.out.1
       have h2 := HIB.out
       unfold World.iterPos
       rw [h1, h2]
       dsimp only
       omega
  ·have hnx := Lib.run_next_end_at (P := Try.prog) wr it s p 0 hib hlt
   have HE2 : Aside0 (runE s 16 b0 0 = p) := ⟨HE.out.trans (runE_stop (fun h => hlt h.1))⟩
   have HS2 := Aside0.mk (And.intro HS.out.s (And.intro HS.out.b HS.out.k))
   go_wp2_with fail
   clear HS0 HS hib hnx
   have HX2 := Aside0.mk ((runF_at b0 t at_ p ha (hs0.symm ▸ HE2.out)).symm.trans HX.out)
   clear HX HE HE2
   obtain ⟨qn, hqn⟩ : ∃ qn : Nat, at_ + p = qn := ⟨_, rfl⟩
   have hp0 : p = qn - at_ ∧ at_ ≤ qn := by omega
   rw [hqn] at HS2 HX2
   clear hqn
   have HS := HS2
   clear HS2
   have c0_ : wr.cell? ⟨g, 0, none⟩ = some (.string t) := (blk_cell HS.out.1.1 0).trans rfl
   have c1_ : wr.cell? ⟨g, 1, none⟩ = some (.int .i64 (qn : Int)) := (blk_cell HS.out.1.1 1).trans rfl
   have hq0 : (0 : Int) ≤ (qn : Int) := by omega
   have hqz : qn ≤ t.size := by omega
   have hz : ¬ qn < t.size := by omega
   have z0 : decide ((qn : Int) < (t.size : Int)) = false := decide_eq_false (by omega)
   go_wp2_with fail
   refine start_ (n := 24) (S := fun w' => w'.cell? ⟨g, 0, none⟩ = some (.string t) ∧ w'.cell? ⟨g, 1, none⟩ = some (.int .i64 (qn : Int))) (ds := []) #[false, false, false, false, false, false, false, false, false, false, false, false, false, false, false, false, false, false, false, false, false, false, false, false] (by kernel_rfl) rfl rfl ⟨c0_, c1_⟩ (fun hHeld => ?_)
   refine pureS_ (i := 0) (N := some 53) (v := ?_) (a' := ?_) rfl rfl (by kernel_rfl) (fun _ _ _ h => h) (Or.inl ⟨by rfl, ?_⟩) ?_ ?_
   rotate_left; (· intro w'; go_simp; with_reducible rfl); rotate_left; (· simp only [Act.put, List.setIfInBounds_toArray, List.set_cons_zero, List.set_cons_succ, i64_w, i32_w]; rfl)
   refine pureS_ (i := 1) (N := some 54) (v := ?_) (a' := ?_) rfl rfl (by kernel_rfl) (fun _ _ _ h => h) (Or.inl ⟨by rfl, ?_⟩) ?_ ?_
   rotate_left; (· intro w'; go_simp; with_reducible rfl); rotate_left; (· simp only [Act.put, List.setIfInBounds_toArray, List.set_cons_zero, List.set_cons_succ, i64_w, i32_w]; rfl)
   refine pureS_ (i := 2) (N := some 55) (v := ?_) (a' := ?_) rfl rfl (by kernel_rfl) (fun _ _ _ h => h) (Or.inl ⟨by rfl, ?_⟩) ?_ ?_
   rotate_left; (· intro w'; go_simp; with_reducible rfl); rotate_left; (· simp only [Act.put, List.setIfInBounds_toArray, List.set_cons_zero, List.set_cons_succ, i64_w, i32_w]; rfl)
   refine pureS_ (i := 4) (N := some 57) (v := ?_) (a' := ?_) rfl rfl (by kernel_rfl) (fun _ _ _ h => h) (Or.inl ⟨by rfl, ?_⟩) ?_ ?_
   rotate_left; (· intro w'; go_simp; with_reducible rfl); rotate_left; (· simp only [Act.put, List.setIfInBounds_toArray, List.set_cons_zero, List.set_cons_succ, i64_w, i32_w]; rfl)
   refine pureS_ (i := 5) (N := some 58) (v := ?_) (a' := ?_) rfl rfl (by kernel_rfl) (fun _ _ _ h => h) (Or.inl ⟨by rfl, ?_⟩) ?_ ?_
   rotate_left; (· intro w'; go_simp; with_reducible rfl); rotate_left; (· simp only [Act.put, List.setIfInBounds_toArray, List.set_cons_zero, List.set_cons_succ, i64_w, i32_w]; rfl)
   refine pureS_ (i := 6) (N := some 59) (v := ?_) (a' := ?_) rfl rfl (by kernel_rfl) (fun _ _ _ h => h) (Or.inl ⟨by rfl, ?_⟩) ?_ ?_
   rotate_left; (· intro w'; go_simp; with_reducible rfl); rotate_left; (· simp only [Act.put, List.setIfInBounds_toArray, List.set_cons_zero, List.set_cons_succ, i64_w, i32_w]; rfl)
   refine takeS_ (i := 3) (N := some 56) (v := ?_) (a' := ?_) rfl rfl (by kernel_rfl) (fun _ _ _ h => h) (Or.inl ⟨by rfl, ?_⟩) hHeld ?_ ?_
   rotate_left; (· rintro w' ⟨s0, s1⟩; go_simp; with_reducible rfl); rotate_left; (· simp only [Act.put, List.setIfInBounds_toArray, List.set_cons_zero, List.set_cons_succ, i64_w, i32_w]; rfl)
   refine takeS_ (i := 7) (N := some 60) (v := ?_) (a' := ?_) rfl rfl (by kernel_rfl) (fun _ _ _ h => h) (Or.inl ⟨by rfl, ?_⟩) hHeld ?_ ?_
   rotate_left; (· rintro w' ⟨s0, s1⟩; go_simp; with_reducible rfl); rotate_left; (· simp only [Act.put, List.setIfInBounds_toArray, List.set_cons_zero, List.set_cons_succ, i64_w, i32_w]; rfl)
   refine pureS_ (i := 8) (N := some 61) (v := ?_) (a' := ?_) rfl rfl (by kernel_rfl) (fun _ _ _ h => h) (Or.inl ⟨by rfl, ?_⟩) ?_ ?_
   rotate_left; (· intro w'; go_simp; with_reducible rfl); rotate_left; (· simp only [Act.put, List.setIfInBounds_toArray, List.set_cons_zero, List.set_cons_succ, i64_w, i32_w]; rfl)
   refine pureS_ (i := 9) (N := some 62) (v := ?_) (a' := ?_) rfl rfl (by kernel_rfl) (fun _ _ _ h => h) (Or.inl ⟨by rfl, ?_⟩) ?_ ?_
   rotate_left; (· intro w'; go_simp; with_reducible rfl); rotate_left; (· simp only [Act.put, List.setIfInBounds_toArray, List.set_cons_zero, List.set_cons_succ, i64_w, i32_w]; rfl)
   refine pureS_ (i := 10) (N := some 63) (v := ?_) (a' := ?_) rfl rfl (by kernel_rfl) (fun _ _ _ h => h) (Or.inl ⟨by rfl, ?_⟩) ?_ ?_
   rotate_left; (· intro w'; go_simp; with_reducible rfl); rotate_left; (· simp only [Act.put, List.setIfInBounds_toArray, List.set_cons_zero, List.set_cons_succ, i64_w, i32_w]; rfl)
   refine pureS_ (i := 11) (N := some 64) (v := undef) (a' := ?_) rfl rfl (by kernel_rfl) (fun _ _ _ h => h) (Or.inr ⟨by rfl, rfl⟩) ?_ ?_
   rotate_left
   ·simp only [Act.put, List.setIfInBounds_toArray, List.set_cons_zero, List.set_cons_succ, i64_w, i32_w]
    rfl
   refine pureS_ (i := 12) (N := some 65) (v := undef) (a' := ?_) rfl rfl (by kernel_rfl) (fun _ _ _ h => h) (Or.inr ⟨by rfl, rfl⟩) ?_ ?_
   rotate_left
   ·simp only [Act.put, List.setIfInBounds_toArray, List.set_cons_zero, List.set_cons_succ, i64_w, i32_w]
    rfl
   refine pureS_ (i := 13) (N := some 66) (v := undef) (a' := ?_) rfl rfl (by kernel_rfl) (fun _ _ _ h => h) (Or.inr ⟨by rfl, rfl⟩) ?_ ?_
   rotate_left
   ·simp only [Act.put, List.setIfInBounds_toArray, List.set_cons_zero, List.set_cons_succ, i64_w, i32_w]
    rfl
   refine pureS_ (i := 14) (N := some 67) (v := undef) (a' := ?_) rfl rfl (by kernel_rfl) (fun _ _ _ h => h) (Or.inr ⟨by rfl, rfl⟩) ?_ ?_
   rotate_left
   ·simp only [Act.put, List.setIfInBounds_toArray, List.set_cons_zero, List.set_cons_succ, i64_w, i32_w]
    rfl
   refine pureS_ (i := 15) (N := some 68) (v := undef) (a' := ?_) rfl rfl (by kernel_rfl) (fun _ _ _ h => h) (Or.inr ⟨by rfl, rfl⟩) ?_ ?_
   rotate_left
   ·simp only [Act.put, List.setIfInBounds_toArray, List.set_cons_zero, List.set_cons_succ, i64_w, i32_w]
    rfl
   refine pureS_ (i := 16) (N := some 69) (v := undef) (a' := ?_) rfl rfl (by kernel_rfl) (fun _ _ _ h => h) (Or.inr ⟨by rfl, rfl⟩) ?_ ?_
   rotate_left
   ·simp only [Act.put, List.setIfInBounds_toArray, List.set_cons_zero, List.set_cons_succ, i64_w, i32_w]
    rfl
   refine pureS_ (i := 17) (N := some 70) (v := undef) (a' := ?_) rfl rfl (by kernel_rfl) (fun _ _ _ h => h) (Or.inr ⟨by rfl, rfl⟩) ?_ ?_
   rotate_left
   ·simp only [Act.put, List.setIfInBounds_toArray, List.set_cons_zero, List.set_cons_succ, i64_w, i32_w]
    rfl
   refine pureS_ (i := 18) (N := some 71) (v := undef) (a' := ?_) rfl rfl (by kernel_rfl) (fun _ _ _ h => h) (Or.inr ⟨by rfl, rfl⟩) ?_ ?_
   rotate_left
   ·simp only [Act.put, List.setIfInBounds_toArray, List.set_cons_zero, List.set_cons_succ, i64_w, i32_w]
    rfl
   refine pureS_ (i := 19) (N := some 72) (v := undef) (a' := ?_) rfl rfl (by kernel_rfl) (fun _ _ _ h => h) (Or.inr ⟨by rfl, rfl⟩) ?_ ?_
   rotate_left
   ·simp only [Act.put, List.setIfInBounds_toArray, List.set_cons_zero, List.set_cons_succ, i64_w, i32_w]
    rfl
   refine pureS_ (i := 20) (N := some 73) (v := undef) (a' := ?_) rfl rfl (by kernel_rfl) (fun _ _ _ h => h) (Or.inr ⟨by rfl, rfl⟩) ?_ ?_
   rotate_left
   ·simp only [Act.put, List.setIfInBounds_toArray, List.set_cons_zero, List.set_cons_succ, i64_w, i32_w]
    rfl
   refine pureS_ (i := 21) (N := some 74) (v := undef) (a' := ?_) rfl rfl (by kernel_rfl) (fun _ _ _ h => h) (Or.inr ⟨by rfl, rfl⟩) ?_ ?_
   rotate_left
   ·simp only [Act.put, List.setIfInBounds_toArray, List.set_cons_zero, List.set_cons_succ, i64_w, i32_w]
    rfl
   refine pureS_ (i := 22) (N := some 75) (v := ?_) (a' := ?_) rfl rfl (by kernel_rfl) (fun _ _ _ h => h) (Or.inl ⟨by rfl, ?_⟩) ?_ ?_
   rotate_left; (· intro w'; go_simp; with_reducible rfl); rotate_left; (· simp only [Act.put, List.setIfInBounds_toArray, List.set_cons_zero, List.set_cons_succ, i64_w, i32_w]; rfl)
   refine pureS_ (i := 23) (N := some 11) (v := ?_) (a' := ?_) rfl rfl (by kernel_rfl) (fun _ _ _ h => h) (Or.inl ⟨by rfl, ?_⟩) ?_ ?_
   rotate_left; (· intro w'; go_simp; with_reducible rfl); rotate_left; (· simp only [Act.put, List.setIfInBounds_toArray, List.set_cons_zero, List.set_cons_succ, i64_w, i32_w]; rfl)
   refine done_ (by kernel_rfl) ?_
   have HS1 := Aside0.mk (And.intro (IsS55.drew HS.out.1) (And.intro (below_drew1 HS.out.2.1) (keep_drew HS.out.2.2)))
   generalize wr.drew = W1_ at HS1 hHeld ⊢
   clear c0_ c1_ z0
   have c0_ := hHeld.1
   have c1_ := hHeld.2
   clear hHeld HS
   by_cases hqa : qn = at_
   ·have a0 : ((qn : Int) == (at_ : Int)) = true := by rw [hqa]; exact beq_self_eq_true _
    have hqb := Aside0.mk hqa
    clear hqa
    have HX3 := HX2.out
    rw [if_pos (.inl (by have := hqb.out; omega))] at HX3
    cases HX3
    go_wp2_with fail
    refine (label_reader_fail.calls g t (qn : Int) 0 _ _ _ _ w0 _ HS1.out.1 HS1.out.2.1 (fail_f t qn)).mono ?_
    rintro e W3 ⟨rfl, hI3, hb3, hk3⟩
    rw [if_pos (by omega)] at hI3
    go_wp2_with fail
    go_ret
    first | exact ⟨rfl, hI3, hb3, HS1.out.2.2.trans hk3 (.inl rfl)⟩ | exact ⟨rfl, ((show qn = t.size by omega) ▸ hI3), hb3, HS1.out.2.2.trans hk3 (.inl rfl)⟩
   ·have a0 : ((qn : Int) == (at_ : Int)) = false := beq_eq_false_iff_ne.mpr (by omega)
    have HX3 := HX2.out
    rw [if_neg (fun h => h.elim (fun h => by omega) (fun h => by omega))] at HX3
    cases HX3
    have s0 : decide ((at_ : Int) ≤ (qn : Int)) = true := decide_eq_true (by omega)
    have s1 : ((at_ : Int) ≤ (qn : Int)) = True := eq_true (by omega)
    have s2 : decide ((qn : Int) ≤ (t.size : Int)) = true := decide_eq_true (by omega)
    have s3 : ((qn : Int) ≤ (t.size : Int)) = True := eq_true (by omega)
    have s4 : (0 ≤ (at_ : Int)) = True := eq_true (by omega)
    have s5 : (0 ≤ (qn : Int)) = True := eq_true (by omega)
    go_wp2_with fail
    refine start_ (n := 11) (S := fun w' => w'.cell? ⟨g, 0, none⟩ = some (.string t) ∧ w'.cell? ⟨g, 1, none⟩ = some (.int .i64 (qn : Int))) (ds := []) #[false, false, false, false, false, false, false, false, false, false, false] (by kernel_rfl) rfl rfl ⟨c0_, c1_⟩ (fun hHeld => ?_)
    refine pureS_ (i := 0) (N := some 87) (v := ?_) (a' := ?_) rfl rfl (by kernel_rfl) (fun _ _ _ h => h) (Or.inl ⟨by rfl, ?_⟩) ?_ ?_
    rotate_left; (· intro w'; go_simp; with_reducible rfl); rotate_left; (· simp only [Act.put, List.setIfInBounds_toArray, List.set_cons_zero, List.set_cons_succ, i64_w, i32_w]; rfl)
    refine pureS_ (i := 1) (N := some 88) (v := ?_) (a' := ?_) rfl rfl (by kernel_rfl) (fun _ _ _ h => h) (Or.inl ⟨by rfl, ?_⟩) ?_ ?_
    rotate_left; (· intro w'; go_simp; with_reducible rfl); rotate_left; (· simp only [Act.put, List.setIfInBounds_toArray, List.set_cons_zero, List.set_cons_succ, i64_w, i32_w]; rfl)
    refine pureS_ (i := 2) (N := some 89) (v := ?_) (a' := ?_) rfl rfl (by kernel_rfl) (fun _ _ _ h => h) (Or.inl ⟨by rfl, ?_⟩) ?_ ?_
    rotate_left; (· intro w'; go_simp; with_reducible rfl); rotate_left; (· simp only [Act.put, List.setIfInBounds_toArray, List.set_cons_zero, List.set_cons_succ, i64_w, i32_w]; rfl)
    refine pureS_ (i := 4) (N := some 91) (v := ?_) (a' := ?_) rfl rfl (by kernel_rfl) (fun _ _ _ h => h) (Or.inl ⟨by rfl, ?_⟩) ?_ ?_
    rotate_left; (· intro w'; go_simp; with_reducible rfl); rotate_left; (· simp only [Act.put, List.setIfInBounds_toArray, List.set_cons_zero, List.set_cons_succ, i64_w, i32_w]; rfl)
    refine pureS_ (i := 5) (N := some 92) (v := ?_) (a' := ?_) rfl rfl (by kernel_rfl) (fun _ _ _ h => h) (Or.inl ⟨by rfl, ?_⟩) ?_ ?_
    rotate_left; (· intro w'; go_simp; with_reducible rfl); rotate_left; (· simp only [Act.put, List.setIfInBounds_toArray, List.set_cons_zero, List.set_cons_succ, i64_w, i32_w]; rfl)
    refine pureS_ (i := 6) (N := some 93) (v := ?_) (a' := ?_) rfl rfl (by kernel_rfl) (fun _ _ _ h => h) (Or.inl ⟨by rfl, ?_⟩) ?_ ?_
    rotate_left; (· intro w'; go_simp; with_reducible rfl); rotate_left; (· simp only [Act.put, List.setIfInBounds_toArray, List.set_cons_zero, List.set_cons_succ, i64_w, i32_w]; rfl)
    refine pureS_ (i := 7) (N := some 94) (v := ?_) (a' := ?_) rfl rfl (by kernel_rfl) (fun _ _ _ h => h) (Or.inl ⟨by rfl, ?_⟩) ?_ ?_
    rotate_left; (· intro w'; go_simp; with_reducible rfl); rotate_left; (· simp only [Act.put, List.setIfInBounds_toArray, List.set_cons_zero, List.set_cons_succ, i64_w, i32_w]; rfl)
    refine takeS_ (i := 3) (N := some 90) (v := ?_) (a' := ?_) rfl rfl (by kernel_rfl) (fun _ _ _ h => h) (Or.inl ⟨by rfl, ?_⟩) hHeld ?_ ?_
    rotate_left; (· rintro w' ⟨s0, s1⟩; go_simp; with_reducible rfl); rotate_left; (· simp only [Act.put, List.setIfInBounds_toArray, List.set_cons_zero, List.set_cons_succ, i64_w, i32_w]; rfl)
    refine takeS_ (i := 8) (N := some 95) (v := ?_) (a' := ?_) rfl rfl (by kernel_rfl) (fun _ _ _ h => h) (Or.inl ⟨by rfl, ?_⟩) hHeld ?_ ?_
    rotate_left; (· rintro w' ⟨s0, s1⟩; go_simp; with_reducible rfl); rotate_left; (· simp only [Act.put, List.setIfInBounds_toArray, List.set_cons_zero, List.set_cons_succ, i64_w, i32_w]; rfl)
    refine pureS_ (i := 9) (N := some 96) (v := ?_) (a' := ?_) rfl rfl (by kernel_rfl) (fun _ _ _ h => h) (Or.inl ⟨by rfl, ?_⟩) ?_ ?_
    rotate_left; (· intro w'; go_simp; with_reducible rfl); rotate_left; (· simp only [Act.put, List.setIfInBounds_toArray, List.set_cons_zero, List.set_cons_succ, i64_w, i32_w]; rfl)
    refine pureS_ (i := 10) (N := some 6) (v := ?_) (a' := ?_) rfl rfl (by kernel_rfl) (fun _ _ _ h => h) (Or.inl ⟨by rfl, ?_⟩) ?_ ?_
    rotate_left; (· intro w'; go_simp; with_reducible rfl); rotate_left; (· simp only [Act.put, List.setIfInBounds_toArray, List.set_cons_zero, List.set_cons_succ, i64_w, i32_w]; rfl)
    refine done_ (by kernel_rfl) ?_
    go_wp2_with fail
    go_ret
    exact ⟨rfl, IsS55.drew HS1.out.1, below_drew1 HS1.out.2.1, keep_drew HS1.out.2.2⟩
set_option maxRecDepth 100000 in
set_option maxHeartbeats 1600000 in
theorem run_all (b0 : Bool) (g : Nat) (t : ByteArray) (at_ e : Int) (w0 w : World) (hI : IsS55 w0 w g t at_ e) (hB : Below w0.heap.size w0 w) (hs : t.size ≤ 140737488355328) (r1 r2 : ByteArray) (r3 r4 : Int) (h : runF b0 t at_ e = some (r1, r2, r3, r4)) :
  Calls Try.prog 63 #[.pointer (some ⟨g, 0, none⟩), fV b0, .func (.func 64) #[] #[]] w fun e w' => e = .returned (.string r1) ∧ IsS55 w0 w' g r2 r3 r4 ∧ Below w0.heap.size w0 w' ∧ KeepBut w w' g none := by
 by_cases he : e = 0
 ·subst he
  have h0 : 0 ≤ at_ ∧ at_ ≤ (t.size : Int) := by
   unfold runF at h
   rw [if_pos rfl] at h
   by_cases hc : 0 ≤ at_ ∧ at_ ≤ (t.size : Int)
   ·exact hc
   ·rw [if_neg hc] at h; cases h
  obtain ⟨n, rfl⟩ := Int.eq_ofNat_of_zero_le h0.1
  exact run_calls b0 (fV b0) ⟨rfl⟩ g t n w0 w hI hB hs (by omega) r1 r2 r3 r4 h
 ·unfold runF at h
  rw [if_neg he] at h
  cases h
  have c2_ : w.cell? ⟨g, 2, none⟩ = some (.int .i64 e) := (blk_cell hI.1 2).trans rfl
  have e0 : ((e : Int) != 0) = true := by rw [bne_iff_ne]; exact he
  have HX := Aside0.mk (And.intro hI hB)
  generalize fV b0 = f0
  clear hI hB he
  go_enter Try.func63, Try.ntmps63
  go_wp2_with fail
  go_ret
  exact ⟨rfl, HX.out.1, HX.out.2, KeepBut.refl _ _ _⟩
def label_reader_name.f (s0 : ByteArray) (s1 s2 : Int) : Option (ByteArray × ByteArray × Int × Int) := if s0.size ≤ 140737488355328 then runF true s0 s1 s2 else none
def label_reader_value.f (s0 : ByteArray) (s1 s2 : Int) : Option (ByteArray × ByteArray × Int × Int) := if s0.size ≤ 140737488355328 then runF false s0 s1 s2 else none
theorem label_reader_name.calls (g : Nat) (s0_0 : ByteArray) (s0_1 : Int) (s0_2 : Int) (r1 : ByteArray) (r2 : ByteArray) (r3 : Int) (r4 : Int) (w0 w : World) (hI : IsS55 w0 w g s0_0 s0_1 s0_2) (hB : Below w0.heap.size w0 w) (h : label_reader_name.f s0_0 s0_1 s0_2 = some (r1, r2, r3, r4)) :
  Calls Try.prog 62 #[.pointer (some ⟨g, 0, none⟩)] w fun e w' => e = .returned (.string r1) ∧ IsS55 w0 w' g r2 r3 r4 ∧ Below w0.heap.size w0 w' ∧ KeepBut w w' g none := by
 unfold label_reader_name.f at h
 split at h
 ·rename_i hs
  have HC := Aside0.mk (run_all true g s0_0 s0_1 s0_2 w0 w hI hB hs r1 r2 r3 r4 h)
  clear h hI hB
  go_enter Try.func62, Try.ntmps62
  go_wp2_with fail
  refine HC.out.mono ?_
  rintro e W1 ⟨rfl, h1, h2, h3⟩
  go_wp2_with fail
  go_ret
  exact ⟨rfl, h1, h2, h3⟩
 ·cases h
theorem label_reader_value.calls (g : Nat) (s0_0 : ByteArray) (s0_1 : Int) (s0_2 : Int) (r1 : ByteArray) (r2 : ByteArray) (r3 : Int) (r4 : Int) (w0 w : World) (hI : IsS55 w0 w g s0_0 s0_1 s0_2) (hB : Below w0.heap.size w0 w) (h : label_reader_value.f s0_0 s0_1 s0_2 = some (r1, r2, r3, r4)) :
  Calls Try.prog 32 #[.pointer (some ⟨g, 0, none⟩)] w fun e w' => e = .returned (.string r1) ∧ IsS55 w0 w' g r2 r3 r4 ∧ Below w0.heap.size w0 w' ∧ KeepBut w w' g none := by
 unfold label_reader_value.f at h
 split at h
 ·rename_i hs
  have HC := Aside0.mk (run_all false g s0_0 s0_1 s0_2 w0 w hI hB hs r1 r2 r3 r4 h)
  clear h hI hB
  go_enter Try.func32, Try.ntmps32
  go_wp2_with fail
  refine HC.out.mono ?_
  rintro e W1 ⟨rfl, h1, h2, h3⟩
  go_wp2_with fail
  go_ret
  exact ⟨rfl, h1, h2, h3⟩
 ·cases h
end Go.Proofs.Ytfnfjkddlnnolaa.P
