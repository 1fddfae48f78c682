import Derived.Test.YtfnfjkddlnnolaaHparts
import Derived.Test.YtfnfjkddlnnolaaPf39
namespace Go.Proofs.Ytfnfjkddlnnolaa.P
set_option linter.unusedVariables false
set_option linter.unusedSimpArgs false
open Go.RowKit Go.Proofs.YtfnfjkddlnnolaaW.PrintWords Go.Proofs.YtfnfjkddlnnolaaW.PrintLast Go.Proofs.YtfnfjkddlnnolaaW.PrintMore

def oneT (t : ByteArray) (at_ e : Int) : Option (S38 × ByteArray × Int × Int) := (label_reader_term.f t at_ e).bind fun x => some (⟨x.1, x.2.1, x.2.2.1⟩, x.2.2.2.1, x.2.2.2.2.1, x.2.2.2.2.2)
def anyT (_ _ : S38) : Option Bool := some true
theorem any_calls (x0 : Int) (x1 x2 : ByteArray) (y0 : Int) (y1 y2 : ByteArray) (w : World) :
  Calls Try.prog 40 #[.agg #[.int .i64 x0, .string x1, .string x2], .agg #[.int .i64 y0, .string y1, .string y2]] w fun e w' => e = .returned (.bool true) ∧ Below w.heap.size w w' := by
 have hu38 := Try.underlying38
 go_enter Try.func40, Try.ntmps40
 go_wp2_with fail
 go_ret
 exact ⟨rfl, below_alloc (below_alloc (Below.refl _ _) _) _⟩
structure PT (w0 W : World) (g : Nat) (t : ByteArray) (at_ : Int) (v : Value) (out : List S38) : Prop where
 s : IsS55 w0 W g t at_ 0
 b : Below w0.heap.size w0 W
 o : Kd.R k38 38 W w0.heap.size (fun k => k ≠ g) v out
structure QT (w0 W : World) (g px : Nat) (t : ByteArray) (at_ e : Int) (v : Value) (out : List S38) (y0 : Int) (y1 y2 : ByteArray) : Prop where
 s : IsS55 w0 W g t at_ e
 b : Below w0.heap.size w0 W
 o : Kd.R k38 38 W w0.heap.size (fun k => k ≠ g ∧ k ≠ px) v out
 x : W.heap[px]? = some (.cells #[.int .i64 y0, .string y1, .string y2] 38 (0, 0))
theorem QT.keep {w0 W W' : World} {g px : Nat} {t t' : ByteArray} {at_ at' e e' : Int} {v : Value} {out : List S38} {y0 : Int} {y1 y2 : ByteArray} (h : QT w0 W g px t at_ e v out y0 y1 y2) (hxg : px ≠ g)
  (hI : IsS55 w0 W' g t' at' e') (hB : Below w0.heap.size w0 W') (hK : KeepBut W W' g none) : QT w0 W' g px t' at' e' v out y0 y1 y2 :=
 ⟨hI, hB, Kd.R_keep h.o hK (fun k hk => hk.1), hK.blk h.x hxg (by simp)⟩
theorem last_rdT (out : List S38) (h : out.length ≠ 0) : out.getLast? = some (rd_T38 out ((out.length : Int) - 1)) := by
 unfold rd_T38
 rw [List.getLast?_eq_getElem?, show ((out.length : Int) - 1).toNat = out.length - 1 by omega, List.getD_eq_getElem?_getD, List.getElem?_eq_getElem (by omega)]
 rfl
set_option maxRecDepth 100000 in
set_option maxHeartbeats 3200000 in
theorem partsT_calls (K : Nat) (g : Nat) (t : ByteArray) (w0 w : World) (hI : IsS55 w0 w g t 0 0) (hB : Below w0.heap.size w0 w)
  (r1 : List S38) (r2 r3 : Int) (h : partsF oneT anyT K t 0 (!t.toList.isEmpty) [] = some (r1, r2, r3)) :
  Calls Try.prog 38 #[.pointer (some ⟨g, 0, none⟩), .func (.func 39) #[.pointer (some ⟨g, 0, none⟩)] #[], .func (.func 40) #[] #[]] w fun e w' => ∃ v0 : Value, e = .returned (.tuple #[v0, .int .i64 r2, .int .i64 r3]) ∧ Kd.R k38 38 w' w0.heap.size (fun _ => True) v0 r1 ∧ Below w0.heap.size w0 w' := by
 have hu38 := Try.underlying38
 have c0_ : w.cell? ⟨g, 0, none⟩ = some (.string t) := (blk_cell hI.1 0).trans rfl
 obtain ⟨p1, hp1⟩ : ∃ p1, w.heap.size = p1 := ⟨_, rfl⟩
 have hg : g < p1 := by rw [← hp1]; exact hI.lt
 have H' := Aside0.mk h
 have S0 := Aside0.mk (And.intro hI hB)
 clear h hI hB
 go_enter Try.func38, Try.ntmps38
 go_wp2_with fail
 go_loopg [6, 9] K (fun kq v6 v9 w' => ∃ (t' : ByteArray) (at_ : Int) (more : Bool) (out : List S38), v9 = .bool more ∧ Aside0 (partsF oneT anyT kq t' at_ more out = some (r1, r2, r3)) ∧ Aside0 (kq ≤ K) ∧ out.length ≤ 6 ∧ Aside0 (PT w0 w' g t' at_ v6 out))
 case atStart => exact ⟨t, 0, _, [], rfl, H', ⟨Nat.le_refl _⟩, by simp, ⟨⟨S0.out.1, S0.out.2, Kd.R_nil _ _ _ _ _⟩⟩⟩
 case round =>
  clear H' S0 c0_
  obtain ⟨t', at_, more, out, rfl, HA, HK1, hlen, HP⟩ := hrel
  cases gk with
  | zero => exact absurd HA.out (by simp [partsF])
  | succ k1 =>
   have H := HA.out
   clear HA
   unfold partsF at H
   cases more with
   | false =>
    rw [if_neg (by simp)] at H
    cases H
    obtain ⟨A6, c6, e6⟩ := Kd.R_slice HP.out.o
    subst e6
    go_wp2_with fail
    go_ret3
    exact ⟨_, rfl, Kd.R_mono HP.out.o (fun _ _ => trivial), HP.out.b⟩
   | true =>
    rw [if_pos rfl] at H
    obtain ⟨⟨x, t1, at1, e1⟩, a10, h1⟩ := Option.bind_eq_some_iff.mp H
    unfold oneT at a10
    obtain ⟨⟨y0, y1, y2, y3, y4, y5⟩, a1, a11⟩ := Option.bind_eq_some_iff.mp a10
    clear a10
    cases a11
    obtain ⟨⟨m, t2, at2, e2⟩, a2, h2⟩ := Option.bind_eq_some_iff.mp h1
    obtain ⟨⟨t3, at3, e3⟩, a3, h3⟩ := Option.bind_eq_some_iff.mp h2
    dsimp only at a1 a2 a3 h3
    clear H h1 h2
    have A1 := Aside0.mk a1
    have A2 := Aside0.mk a2
    have A3 := Aside0.mk a3
    have H3 := Aside0.mk h3
    clear a1 a2 a3 h3
    have c1_ : wr.cell? ⟨g, 1, none⟩ = some (.int .i64 at_) := (blk_cell HP.out.s.1 1).trans rfl
    go_wp2_with fail
    refine (label_reader_term.calls g t' at_ 0 _ _ _ _ _ _ w0 _ HP.out.s HP.out.b A1.out).mono ?_
    rintro _ W2 ⟨rfl, hI2, hB2, hK2⟩
    have ho2 := Kd.R_keep HP.out.o hK2 (fun k hk => hk)
    obtain ⟨px, hpx⟩ : ∃ px, W2.heap.size = px := ⟨_, rfl⟩
    have hgx : g < px := by rw [← hpx]; exact hI2.lt
    have hb3 : Below W2.heap.size W2 (W2.alloc (.cells #[.int .i64 y0, .string y1, .string y2] 38)) := below_alloc (Below.refl _ _) _
    have Q3 : Aside0 (QT w0 (W2.alloc (.cells #[.int .i64 y0, .string y1, .string y2] 38)) g px y3 y4 y5 u6 out y0 y1 y2) :=
     ⟨⟨hI2.below hb3, below_alloc hB2 _, Kd.R_mono (Kd.R_alloc (Kd.R_bound ho2) _) (fun k hk => ⟨hk.1, by have := hk.2.2; omega⟩), by rw [← hpx]; exact heap_alloc_new W2 _⟩⟩
    clear HP hI2 hB2 hK2 ho2 hb3 c1_ A1
    go_wp2_with fail
    have hxg : px ≠ g := by omega
    refine (label_reader_sign.calls g y3 y4 y5 _ m t2 at2 e2 w0 _ Q3.out.s Q3.out.b A2.out).mono ?_
    rintro _ W4 ⟨rfl, hI4, hB4, hK4⟩
    have Q4 := Aside0.mk (Q3.out.keep hxg hI4 hB4 hK4)
    clear Q3 hI4 hB4 hK4 A2
    have c0_ : W4.cell? ⟨g, 0, none⟩ = some (.string t2) := (blk_cell Q4.out.s.1 0).trans rfl
    have c1_ : W4.cell? ⟨g, 1, none⟩ = some (.int .i64 at2) := (blk_cell Q4.out.s.1 1).trans rfl
    have c2_ : W4.cell? ⟨g, 2, none⟩ = some (.int .i64 e2) := (blk_cell Q4.out.s.1 2).trans rfl
    by_cases he : e2 = 0
    ·have b0 : ((e2 : Int) == 0) = true := by rw [he]; rfl
     cases m with
     | true =>
      go_wp2_with fail
      refine start_ (n := 21) (S := fun w' => w'.cell? ⟨g, 0, none⟩ = some (.string t2) ∧ w'.cell? ⟨g, 1, none⟩ = some (.int .i64 at2) ∧ w'.cell? ⟨g, 2, none⟩ = some (.int .i64 e2)) (ds := []) #[false, false, false, false, false, false, false, false, false, false, false, false, false, false, false, false, false, false, false, false, false] (by kernel_rfl) rfl rfl ⟨c0_, c1_, c2_⟩ (fun hHeld => ?_)
      refine pureS_ (i := 0) (N := some 26) (v := ?_) (a' := ?_) rfl rfl (by kernel_rfl) (fun _ _ _ h => h) (Or.inl ⟨by rfl, ?_⟩) ?_ ?_
      rotate_left; (· intro w'; go_simp; with_reducible rfl); rotate_left; (· simp only [Act.put, List.setIfInBounds_toArray, List.set_cons_zero, List.set_cons_succ, i64_w, i32_w]; rfl)
      refine pureS_ (i := 1) (N := some 27) (v := ?_) (a' := ?_) rfl rfl (by kernel_rfl) (fun _ _ _ h => h) (Or.inl ⟨by rfl, ?_⟩) ?_ ?_
      rotate_left; (· intro w'; go_simp; with_reducible rfl); rotate_left; (· simp only [Act.put, List.setIfInBounds_toArray, List.set_cons_zero, List.set_cons_succ, i64_w, i32_w]; rfl)
      refine pureS_ (i := 2) (N := some 28) (v := ?_) (a' := ?_) rfl rfl (by kernel_rfl) (fun _ _ _ h => h) (Or.inl ⟨by rfl, ?_⟩) ?_ ?_
      rotate_left; (· intro w'; go_simp; with_reducible rfl); rotate_left; (· simp only [Act.put, List.setIfInBounds_toArray, List.set_cons_zero, List.set_cons_succ, i64_w, i32_w]; rfl)
      refine takeS_ (i := 3) (N := some 29) (v := ?_) (a' := ?_) rfl rfl (by kernel_rfl) (fun _ _ _ h => h) (Or.inl ⟨by rfl, ?_⟩) hHeld ?_ ?_
      rotate_left; (· rintro w' ⟨s0, s1, s2⟩; go_simp; with_reducible rfl); rotate_left; (· simp only [Act.put, List.setIfInBounds_toArray, List.set_cons_zero, List.set_cons_succ, i64_w, i32_w]; rfl)
      refine pureS_ (i := 4) (N := some 30) (v := ?_) (a' := ?_) rfl rfl (by kernel_rfl) (fun _ _ _ h => h) (Or.inl ⟨by rfl, ?_⟩) ?_ ?_
      rotate_left; (· intro w'; go_simp; with_reducible rfl); rotate_left; (· simp only [Act.put, List.setIfInBounds_toArray, List.set_cons_zero, List.set_cons_succ, i64_w, i32_w]; rfl)
      refine pureS_ (i := 5) (N := some 31) (v := ?_) (a' := ?_) rfl rfl (by kernel_rfl) (fun _ _ _ h => h) (Or.inl ⟨by rfl, ?_⟩) ?_ ?_
      rotate_left; (· intro w'; go_simp; with_reducible rfl); rotate_left; (· simp only [Act.put, List.setIfInBounds_toArray, List.set_cons_zero, List.set_cons_succ, i64_w, i32_w]; rfl)
      refine pureS_ (i := 6) (N := some 32) (v := ?_) (a' := ?_) rfl rfl (by kernel_rfl) (fun _ _ _ h => h) (Or.inl ⟨by rfl, ?_⟩) ?_ ?_
      rotate_left; (· intro w'; go_simp; with_reducible rfl); rotate_left; (· simp only [Act.put, List.setIfInBounds_toArray, List.set_cons_zero, List.set_cons_succ, i64_w, i32_w]; rfl)
      refine pureS_ (i := 7) (N := some 33) (v := ?_) (a' := ?_) rfl rfl (by kernel_rfl) (fun _ _ _ h => h) (Or.inl ⟨by rfl, ?_⟩) ?_ ?_
      rotate_left; (· intro w'; go_simp; with_reducible rfl); rotate_left; (· simp only [Act.put, List.setIfInBounds_toArray, List.set_cons_zero, List.set_cons_succ, i64_w, i32_w]; rfl)
      refine pureS_ (i := 8) (N := some 34) (v := ?_) (a' := ?_) rfl rfl (by kernel_rfl) (fun _ _ _ h => h) (Or.inl ⟨by rfl, ?_⟩) ?_ ?_
      rotate_left; (· intro w'; go_simp; with_reducible rfl); rotate_left; (· simp only [Act.put, List.setIfInBounds_toArray, List.set_cons_zero, List.set_cons_succ, i64_w, i32_w]; rfl)
      refine pureS_ (i := 9) (N := some 35) (v := ?_) (a' := ?_) rfl rfl (by kernel_rfl) (fun _ _ _ h => h) (Or.inl ⟨by rfl, ?_⟩) ?_ ?_
      rotate_left; (· intro w'; go_simp; with_reducible rfl); rotate_left; (· simp only [Act.put, List.setIfInBounds_toArray, List.set_cons_zero, List.set_cons_succ, i64_w, i32_w]; rfl)
      refine pureS_ (i := 10) (N := some 36) (v := undef) (a' := ?_) rfl rfl (by kernel_rfl) (fun _ _ _ h => h) (Or.inr ⟨by rfl, rfl⟩) ?_ ?_
      rotate_left
      ·simp only [Act.put, List.setIfInBounds_toArray, List.set_cons_zero, List.set_cons_succ, i64_w, i32_w]
       rfl
      refine pureS_ (i := 11) (N := some 37) (v := undef) (a' := ?_) rfl rfl (by kernel_rfl) (fun _ _ _ h => h) (Or.inr ⟨by rfl, rfl⟩) ?_ ?_
      rotate_left
      ·simp only [Act.put, List.setIfInBounds_toArray, List.set_cons_zero, List.set_cons_succ, i64_w, i32_w]
       rfl
      refine pureS_ (i := 12) (N := some 38) (v := undef) (a' := ?_) rfl rfl (by kernel_rfl) (fun _ _ _ h => h) (Or.inr ⟨by rfl, rfl⟩) ?_ ?_
      rotate_left
      ·simp only [Act.put, List.setIfInBounds_toArray, List.set_cons_zero, List.set_cons_succ, i64_w, i32_w]
       rfl
      refine pureS_ (i := 13) (N := some 39) (v := undef) (a' := ?_) rfl rfl (by kernel_rfl) (fun _ _ _ h => h) (Or.inr ⟨by rfl, rfl⟩) ?_ ?_
      rotate_left
      ·simp only [Act.put, List.setIfInBounds_toArray, List.set_cons_zero, List.set_cons_succ, i64_w, i32_w]
       rfl
      refine pureS_ (i := 14) (N := some 40) (v := undef) (a' := ?_) rfl rfl (by kernel_rfl) (fun _ _ _ h => h) (Or.inr ⟨by rfl, rfl⟩) ?_ ?_
      rotate_left
      ·simp only [Act.put, List.setIfInBounds_toArray, List.set_cons_zero, List.set_cons_succ, i64_w, i32_w]
       rfl
      refine pureS_ (i := 15) (N := some 41) (v := undef) (a' := ?_) rfl rfl (by kernel_rfl) (fun _ _ _ h => h) (Or.inr ⟨by rfl, rfl⟩) ?_ ?_
      rotate_left
      ·simp only [Act.put, List.setIfInBounds_toArray, List.set_cons_zero, List.set_cons_succ, i64_w, i32_w]
       rfl
      refine pureS_ (i := 16) (N := some 42) (v := undef) (a' := ?_) rfl rfl (by kernel_rfl) (fun _ _ _ h => h) (Or.inr ⟨by rfl, rfl⟩) ?_ ?_
      rotate_left
      ·simp only [Act.put, List.setIfInBounds_toArray, List.set_cons_zero, List.set_cons_succ, i64_w, i32_w]
       rfl
      refine pureS_ (i := 17) (N := some 43) (v := undef) (a' := ?_) rfl rfl (by kernel_rfl) (fun _ _ _ h => h) (Or.inr ⟨by rfl, rfl⟩) ?_ ?_
      rotate_left
      ·simp only [Act.put, List.setIfInBounds_toArray, List.set_cons_zero, List.set_cons_succ, i64_w, i32_w]
       rfl
      refine pureS_ (i := 18) (N := some 44) (v := undef) (a' := ?_) rfl rfl (by kernel_rfl) (fun _ _ _ h => h) (Or.inr ⟨by rfl, rfl⟩) ?_ ?_
      rotate_left
      ·simp only [Act.put, List.setIfInBounds_toArray, List.set_cons_zero, List.set_cons_succ, i64_w, i32_w]
       rfl
      refine pureS_ (i := 19) (N := some 45) (v := undef) (a' := ?_) rfl rfl (by kernel_rfl) (fun _ _ _ h => h) (Or.inr ⟨by rfl, rfl⟩) ?_ ?_
      rotate_left
      ·simp only [Act.put, List.setIfInBounds_toArray, List.set_cons_zero, List.set_cons_succ, i64_w, i32_w]
       rfl
      refine pureS_ (i := 20) (N := some 46) (v := ?_) (a' := ?_) rfl rfl (by kernel_rfl) (fun _ _ _ h => h) (Or.inl ⟨by rfl, ?_⟩) ?_ ?_
      rotate_left; (· intro w'; go_simp; with_reducible rfl); rotate_left; (· simp only [Act.put, List.setIfInBounds_toArray, List.set_cons_zero, List.set_cons_succ, i64_w, i32_w]; rfl)
      refine done_ (by kernel_rfl) ?_
      have Q5 := Aside0.mk (Q4.out.keep hxg (IsS55.drew Q4.out.s) (below_drew1 Q4.out.b) (keep_drew (KeepBut.refl _ _ _)))
      generalize W4.drew = W5 at Q5 hHeld ⊢
      clear hHeld c0_ c1_ c2_ Q4
      obtain ⟨q1, q2, q3⟩ : t2 = t3 ∧ at2 = at3 ∧ e2 = e3 := by
       have a3 := A3.out
       rw [if_neg (by simp)] at a3
       simpa using a3
      rw [← q1, ← q2, ← q3] at H3
      clear q1 q2 q3 A3
      have H4 := H3.out
      rw [if_neg (fun h => h he)] at H4
      clear H3
      have d2_ : W5.cell? ⟨g, 2, none⟩ = some (.int .i64 e2) := (blk_cell Q5.out.s.1 2).trans rfl
      have b3 : ((e2 : Int) != 0) = false := by rw [he]; rfl
      obtain ⟨A6, c6, e6⟩ := Kd.R_slice Q5.out.o
      subst e6
      by_cases h6 : out.length = 6
      ·rw [if_pos h6] at H4
       cases H4
       have b4 : ((out.length : Int) == 6) = true := by rw [h6]; rfl
       go_wp2_with fail
       go_ret3
       exact ⟨_, rfl, Kd.R_nil _ _ _ _ _, Q5.out.b⟩
      ·rw [if_neg h6] at H4
       have b4 : ((out.length : Int) == 6) = false := beq_eq_false_iff_ne.mpr (by omega)
       obtain ⟨ok, a7, a8⟩ := Option.bind_eq_some_iff.mp H4
       have A7 := Aside0.mk a7
       have A8 := Aside0.mk a8
       clear H4 a7 a8
       by_cases hn : out.length = 0
       ·have b5 : decide ((out.length : Int) > 0) = false := decide_eq_false (by omega)
        go_wp2_with fail
        refine start_ (n := 16) (S := fun w' => True) (ds := []) #[false, false, false, false, false, false, false, false, false, false, false, false, false, false, false, false] (by kernel_rfl) rfl rfl trivial (fun hHeld => ?_)
        refine pureS_ (i := 0) (N := some 69) (v := ?_) (a' := ?_) rfl rfl (by kernel_rfl) (fun _ _ _ h => h) (Or.inl ⟨by rfl, ?_⟩) ?_ ?_
        rotate_left; (· intro w'; go_simp; with_reducible rfl); rotate_left; (· simp only [Act.put, List.setIfInBounds_toArray, List.set_cons_zero, List.set_cons_succ, i64_w, i32_w]; rfl)
        refine pureS_ (i := 1) (N := some 70) (v := ?_) (a' := ?_) rfl rfl (by kernel_rfl) (fun _ _ _ h => h) (Or.inl ⟨by rfl, ?_⟩) ?_ ?_
        rotate_left; (· intro w'; go_simp; with_reducible rfl); rotate_left; (· simp only [Act.put, List.setIfInBounds_toArray, List.set_cons_zero, List.set_cons_succ, i64_w, i32_w]; rfl)
        refine pureS_ (i := 2) (N := some 71) (v := ?_) (a' := ?_) rfl rfl (by kernel_rfl) (fun _ _ _ h => h) (Or.inl ⟨by rfl, ?_⟩) ?_ ?_
        rotate_left; (· intro w'; go_simp; with_reducible rfl); rotate_left; (· simp only [Act.put, List.setIfInBounds_toArray, List.set_cons_zero, List.set_cons_succ, i64_w, i32_w]; rfl)
        refine pureS_ (i := 3) (N := some 72) (v := ?_) (a' := ?_) rfl rfl (by kernel_rfl) (fun _ _ _ h => h) (Or.inl ⟨by rfl, ?_⟩) ?_ ?_
        rotate_left; (· intro w'; go_simp; with_reducible rfl); rotate_left; (· simp only [Act.put, List.setIfInBounds_toArray, List.set_cons_zero, List.set_cons_succ, i64_w, i32_w]; rfl)
        refine pureS_ (i := 4) (N := some 73) (v := undef) (a' := ?_) rfl rfl (by kernel_rfl) (fun _ _ _ h => h) (Or.inr ⟨by rfl, rfl⟩) ?_ ?_
        rotate_left
        ·simp only [Act.put, List.setIfInBounds_toArray, List.set_cons_zero, List.set_cons_succ, i64_w, i32_w]
         rfl
        refine pureS_ (i := 5) (N := some 74) (v := undef) (a' := ?_) rfl rfl (by kernel_rfl) (fun _ _ _ h => h) (Or.inr ⟨by rfl, rfl⟩) ?_ ?_
        rotate_left
        ·simp only [Act.put, List.setIfInBounds_toArray, List.set_cons_zero, List.set_cons_succ, i64_w, i32_w]
         rfl
        refine pureS_ (i := 6) (N := some 75) (v := undef) (a' := ?_) rfl rfl (by kernel_rfl) (fun _ _ _ h => h) (Or.inr ⟨by rfl, rfl⟩) ?_ ?_
        rotate_left
        ·simp only [Act.put, List.setIfInBounds_toArray, List.set_cons_zero, List.set_cons_succ, i64_w, i32_w]
         rfl
        refine pureS_ (i := 7) (N := some 76) (v := undef) (a' := ?_) rfl rfl (by kernel_rfl) (fun _ _ _ h => h) (Or.inr ⟨by rfl, rfl⟩) ?_ ?_
        rotate_left
        ·simp only [Act.put, List.setIfInBounds_toArray, List.set_cons_zero, List.set_cons_succ, i64_w, i32_w]
         rfl
        refine pureS_ (i := 8) (N := some 77) (v := undef) (a' := ?_) rfl rfl (by kernel_rfl) (fun _ _ _ h => h) (Or.inr ⟨by rfl, rfl⟩) ?_ ?_
        rotate_left
        ·simp only [Act.put, List.setIfInBounds_toArray, List.set_cons_zero, List.set_cons_succ, i64_w, i32_w]
         rfl
        refine pureS_ (i := 9) (N := some 78) (v := undef) (a' := ?_) rfl rfl (by kernel_rfl) (fun _ _ _ h => h) (Or.inr ⟨by rfl, rfl⟩) ?_ ?_
        rotate_left
        ·simp only [Act.put, List.setIfInBounds_toArray, List.set_cons_zero, List.set_cons_succ, i64_w, i32_w]
         rfl
        refine pureS_ (i := 10) (N := some 79) (v := undef) (a' := ?_) rfl rfl (by kernel_rfl) (fun _ _ _ h => h) (Or.inr ⟨by rfl, rfl⟩) ?_ ?_
        rotate_left
        ·simp only [Act.put, List.setIfInBounds_toArray, List.set_cons_zero, List.set_cons_succ, i64_w, i32_w]
         rfl
        refine pureS_ (i := 11) (N := some 80) (v := undef) (a' := ?_) rfl rfl (by kernel_rfl) (fun _ _ _ h => h) (Or.inr ⟨by rfl, rfl⟩) ?_ ?_
        rotate_left
        ·simp only [Act.put, List.setIfInBounds_toArray, List.set_cons_zero, List.set_cons_succ, i64_w, i32_w]
         rfl
        refine pureS_ (i := 12) (N := some 81) (v := undef) (a' := ?_) rfl rfl (by kernel_rfl) (fun _ _ _ h => h) (Or.inr ⟨by rfl, rfl⟩) ?_ ?_
        rotate_left
        ·simp only [Act.put, List.setIfInBounds_toArray, List.set_cons_zero, List.set_cons_succ, i64_w, i32_w]
         rfl
        refine pureS_ (i := 13) (N := some 82) (v := undef) (a' := ?_) rfl rfl (by kernel_rfl) (fun _ _ _ h => h) (Or.inr ⟨by rfl, rfl⟩) ?_ ?_
        rotate_left
        ·simp only [Act.put, List.setIfInBounds_toArray, List.set_cons_zero, List.set_cons_succ, i64_w, i32_w]
         rfl
        refine pureS_ (i := 14) (N := some 83) (v := ?_) (a' := ?_) rfl rfl (by kernel_rfl) (fun _ _ _ h => h) (Or.inl ⟨by rfl, ?_⟩) ?_ ?_
        rotate_left; (· intro w'; go_simp; with_reducible rfl); rotate_left; (· simp only [Act.put, List.setIfInBounds_toArray, List.set_cons_zero, List.set_cons_succ, i64_w, i32_w]; rfl)
        refine pureS_ (i := 15) (N := some 68) (v := ?_) (a' := ?_) rfl rfl (by kernel_rfl) (fun _ _ _ h => h) (Or.inl ⟨by rfl, ?_⟩) ?_ ?_
        rotate_left; (· intro w'; go_simp; with_reducible rfl); rotate_left; (· simp only [Act.put, List.setIfInBounds_toArray, List.set_cons_zero, List.set_cons_succ, i64_w, i32_w]; rfl)
        refine done_ (by kernel_rfl) ?_
        have Q6 := Aside0.mk (Q5.out.keep hxg (IsS55.drew Q5.out.s) (below_drew1 Q5.out.b) (keep_drew (KeepBut.refl _ _ _)))
        generalize W5.drew = W6 at Q6 hHeld ⊢
        clear hHeld d2_ Q5
        have x0_ : W6.cell? ⟨px, 0, none⟩ = some (.int .i64 y0) := (blk_cell Q6.out.x 0).trans rfl
        have x1_ : W6.cell? ⟨px, 1, none⟩ = some (.string y1) := (blk_cell Q6.out.x 1).trans rfl
        have x2_ : W6.cell? ⟨px, 2, none⟩ = some (.string y2) := (blk_cell Q6.out.x 2).trans rfl
        have hok : ok = true := by have h0 : out = [] := List.length_eq_zero_iff.1 hn; have h1 := A7.out; rw [h0] at h1; exact (Option.some.inj h1).symm
        have A9 := Aside0.mk ((if_pos hok).symm.trans A8.out)
        clear A7 A8
        go_wp2_with ((at_builtin; refine Kd.R_append k38 (w0 := w0) w0.heap.size rfl (.tmp 85) (.tmp 87) 26 38 (.agg #[.int .i64 0, .string ⟨#[]⟩, .string ⟨#[]⟩]) 40 rfl Try.underlying26 info38 rfl (by decide) (by decide) (.slice A6 out.length c6) out (⟨y0, y1, y2⟩ : S38) [.int .i64 y0, .string y1, .string y2] (fun k => k ≠ g ∧ k ≠ px) (fun _ => False) ?aE rfl ?aP (fun _ h => h.elim) ?aF Q6.out.o Q6.out.b Q6.out.b.size (by omega) ?_; (case aE => first | rfl | (go_simp; done) | (simp; done)); (case aP => exact k38_mkM _ _ _ _); (case aF => exact fun k hk => by have h1 := Q6.out.s.lt; have h3 := blk_lt Q6.out.x; omega); intro v7 W7 HV7 HB7 hg7 hat7))
        have hgo : some g ≠ (Value.slice A6 out.length c6).ownBlock := fun e => (Q6.out.o.1 g e.symm).1 rfl
        have P7 : Aside0 (PT w0 W7 g t2 at2 v7 (out ++ [⟨y0, y1, y2⟩])) := ⟨⟨by have := Q6.out.s.grown hg7 hgo; rw [he] at this; exact this, HB7, Kd.R_mono HV7 (fun k hk => hk.1)⟩⟩
        clear HV7 HB7 hg7 hat7 Q6
        go_roundg k1
        case measure => have := HK1.out; omega
        case rel => exact ⟨t2, at2, _, out ++ [⟨y0, y1, y2⟩], rfl, A9, ⟨by have := HK1.out; omega⟩, by simp; omega, P7⟩
       ·have b5 : decide ((out.length : Int) > 0) = true := decide_eq_true (by omega)
        have hw : wrap64 ((out.length : Int) - 1) = (out.length : Int) - 1 := by unfold wrap64; omega
        have i0 : (0 : Int) ≤ (out.length : Int) - 1 := by omega
        have i1 : ((out.length : Int) - 1 < (out.length : Int)) = True := eq_true (by omega)
        have i2 : ((0 : Int) ≤ (out.length : Int) - 1) = True := eq_true i0
        have AK : Aside0 (true = ok) := ⟨Option.some.inj (by have h1 := A7.out; rw [last_rdT out hn] at h1; exact h1)⟩
        obtain ⟨ad, eA, l0_, l1_, l2_⟩ := at_T38 (Kd.R_reads' Q5.out.o).2.2 ((out.length : Int) - 1) i0 (by omega)
        subst eA
        have i3 : (1 ≤ (out.length : Int)) = True := eq_true (by omega)
        rw [show ((out.length : Int) - 1).toNat = out.length - 1 by omega] at l0_ l1_ l2_
        generalize rd_T38 out ((out.length : Int) - 1) = zl at l0_ l1_ l2_
        have x0_ : W5.cell? ⟨px, 0, none⟩ = some (.int .i64 y0) := (blk_cell Q5.out.x 0).trans rfl
        have x1_ : W5.cell? ⟨px, 1, none⟩ = some (.string y1) := (blk_cell Q5.out.x 1).trans rfl
        have x2_ : W5.cell? ⟨px, 2, none⟩ = some (.string y2) := (blk_cell Q5.out.x 2).trans rfl
        clear A7
        have hpos : 0 < out.length := by omega
        have b6 : decide (0 < out.length) = true := decide_eq_true hpos
        have b7 : decide ((0 : Int) < (out.length : Int)) = true := decide_eq_true (by omega)
        clear hn
        go_wp2_with fail
        refine start_ (n := 16) (S := fun w' => w'.cell? (ad.add ((out.length - 1) * 3)) = some (.int .i64 zl.f0) ∧ w'.cell? ⟨(ad.add ((out.length - 1) * 3)).block, (ad.add ((out.length - 1) * 3)).off + 1, none⟩ = some (.string zl.f1) ∧ w'.cell? ⟨(ad.add ((out.length - 1) * 3)).block, (ad.add ((out.length - 1) * 3)).off + 2, none⟩ = some (.string zl.f2) ∧ w'.cell? ⟨px, 0, none⟩ = some (.int .i64 y0) ∧ w'.cell? ⟨px, 1, none⟩ = some (.string y1) ∧ w'.cell? ⟨px, 2, none⟩ = some (.string y2)) (ds := []) #[false, false, false, false, false, false, false, false, false, false, false, false, false, false, false, false] (by kernel_rfl) rfl rfl ⟨l0_, l1_, l2_, x0_, x1_, x2_⟩ (fun hHeld => ?_)
        refine pureS_ (i := 0) (N := some 69) (v := ?_) (a' := ?_) rfl rfl (by kernel_rfl) (fun _ _ _ h => h) (Or.inl ⟨by rfl, ?_⟩) ?_ ?_
        rotate_left; (· intro w'; go_simp; with_reducible rfl); rotate_left; (· simp only [Act.put, List.setIfInBounds_toArray, List.set_cons_zero, List.set_cons_succ, i64_w, i32_w]; rfl)
        refine pureS_ (i := 1) (N := some 70) (v := ?_) (a' := ?_) rfl rfl (by kernel_rfl) (fun _ _ _ h => h) (Or.inl ⟨by rfl, ?_⟩) ?_ ?_
        rotate_left; (· intro w'; go_simp; with_reducible rfl); rotate_left; (· simp only [Act.put, List.setIfInBounds_toArray, List.set_cons_zero, List.set_cons_succ, i64_w, i32_w]; rfl)
        refine pureS_ (i := 2) (N := some 71) (v := ?_) (a' := ?_) rfl rfl (by kernel_rfl) (fun _ _ _ h => h) (Or.inl ⟨by rfl, ?_⟩) ?_ ?_
        rotate_left; (· intro w'; go_simp; with_reducible rfl); rotate_left; (· simp only [Act.put, List.setIfInBounds_toArray, List.set_cons_zero, List.set_cons_succ, i64_w, i32_w]; rfl)
        refine pureS_ (i := 3) (N := some 72) (v := ?_) (a' := ?_) rfl rfl (by kernel_rfl) (fun _ _ _ h => h) (Or.inl ⟨by rfl, ?_⟩) ?_ ?_
        rotate_left; (· intro w'; go_simp; with_reducible rfl); rotate_left; (· simp only [Act.put, List.setIfInBounds_toArray, List.set_cons_zero, List.set_cons_succ, i64_w, i32_w]; rfl)
        refine pureS_ (i := 4) (N := some 73) (v := ?_) (a' := ?_) rfl rfl (by kernel_rfl) (fun _ _ _ h => h) (Or.inl ⟨by rfl, ?_⟩) ?_ ?_
        rotate_left; (· intro w'; go_simp; with_reducible rfl); rotate_left; (· simp only [Act.put, List.setIfInBounds_toArray, List.set_cons_zero, List.set_cons_succ, i64_w, i32_w]; rfl)
        refine pureS_ (i := 5) (N := some 74) (v := ?_) (a' := ?_) rfl rfl (by kernel_rfl) (fun _ _ _ h => h) (Or.inl ⟨by rfl, ?_⟩) ?_ ?_
        rotate_left; (· intro w'; go_simp; with_reducible rfl); rotate_left; (· simp only [Act.put, List.setIfInBounds_toArray, List.set_cons_zero, List.set_cons_succ, i64_w, i32_w]; rfl)
        refine pureS_ (i := 6) (N := some 75) (v := ?_) (a' := ?_) rfl rfl (by kernel_rfl) (fun _ _ _ h => h) (Or.inl ⟨by rfl, ?_⟩) ?_ ?_
        rotate_left; (· intro w'; go_simp; with_reducible rfl); rotate_left; (· simp only [Act.put, List.setIfInBounds_toArray, List.set_cons_zero, List.set_cons_succ, i64_w, i32_w]; rfl)
        refine pureS_ (i := 7) (N := some 76) (v := ?_) (a' := ?_) rfl rfl (by kernel_rfl) (fun _ _ _ h => h) (Or.inl ⟨by rfl, ?_⟩) ?_ ?_
        rotate_left; (· intro w'; go_simp; with_reducible rfl); rotate_left; (· simp only [Act.put, List.setIfInBounds_toArray, List.set_cons_zero, List.set_cons_succ, i64_w, i32_w]; rfl)
        refine pureS_ (i := 8) (N := some 77) (v := ?_) (a' := ?_) rfl rfl (by kernel_rfl) (fun _ _ _ h => h) (Or.inl ⟨by rfl, ?_⟩) ?_ ?_
        rotate_left; (· intro w'; go_simp; with_reducible rfl); rotate_left; (· simp only [Act.put, List.setIfInBounds_toArray, List.set_cons_zero, List.set_cons_succ, i64_w, i32_w]; rfl)
        refine pureS_ (i := 9) (N := some 78) (v := ?_) (a' := ?_) rfl rfl (by kernel_rfl) (fun _ _ _ h => h) (Or.inl ⟨by rfl, ?_⟩) ?_ ?_
        rotate_left; (· intro w'; go_simp; with_reducible rfl); rotate_left; (· simp only [Act.put, List.setIfInBounds_toArray, List.set_cons_zero, List.set_cons_succ, i64_w, i32_w]; rfl)
        refine takeS_ (i := 10) (N := some 79) (v := ?_) (a' := ?_) rfl rfl (by kernel_rfl) (fun _ _ _ h => h) (Or.inl ⟨by rfl, ?_⟩) hHeld ?_ ?_
        rotate_left; (· rintro w' ⟨s0, s1, s2, s3, s4, s5⟩; go_simp; with_reducible rfl); rotate_left; (· simp only [Act.put, List.setIfInBounds_toArray, List.set_cons_zero, List.set_cons_succ, i64_w, i32_w]; rfl)
        refine takeS_ (i := 11) (N := some 80) (v := ?_) (a' := ?_) rfl rfl (by kernel_rfl) (fun _ _ _ h => h) (Or.inl ⟨by rfl, ?_⟩) hHeld ?_ ?_
        rotate_left; (· rintro w' ⟨s0, s1, s2, s3, s4, s5⟩; go_simp; with_reducible rfl); rotate_left; (· simp only [Act.put, List.setIfInBounds_toArray, List.set_cons_zero, List.set_cons_succ, i64_w, i32_w]; rfl)
        refine oneS_ (i := 12) (N := some 81) rfl rfl (by kernel_rfl) (by decide) (fun K hK => ?_)
        refine goesv_ Try.func40 (by kernel_rfl) rfl #[.agg #[.int .i64 zl.f0, .string zl.f1, .string zl.f2], .agg #[.int .i64 y0, .string y1, .string y2]] (by rfl) rfl rfl (by rfl) (by first | rfl | (go_simp; done) | (simp; done)) ?_
        with_reducible refine (any_calls _ _ _ _ _ _ _).mono ?_
        rintro e W6_ ⟨rfl, hb⟩
        refine ⟨_, rfl, ?_⟩
        have HB6 := Aside0.mk hb
        refine hK.out _ _ ⟨(pw_cell_below hb l0_), (pw_cell_below hb l1_), (pw_cell_below hb l2_), (pw_cell_below hb x0_), (pw_cell_below hb x1_), (pw_cell_below hb x2_)⟩ (fun hHeld => ?_)
        clear hK K
        refine norm_ (a' := ?_) ?_ ?_
        rotate_left
        ·show Act.put _ (some 81) _ = _
         simp only [Act.put, List.setIfInBounds_toArray, List.set_cons_zero, List.set_cons_succ, i64_w, i32_w]
         rfl
        refine pureS_ (i := 13) (N := some 82) (v := ?_) (a' := ?_) rfl rfl (by kernel_rfl) (fun _ _ _ h => h) (Or.inl ⟨by rfl, ?_⟩) ?_ ?_
        rotate_left; (· intro w'; go_simp; with_reducible rfl); rotate_left; (· simp only [Act.put, List.setIfInBounds_toArray, List.set_cons_zero, List.set_cons_succ, i64_w, i32_w]; rfl)
        refine pureS_ (i := 14) (N := some 83) (v := ?_) (a' := ?_) rfl rfl (by kernel_rfl) (fun _ _ _ h => h) (Or.inl ⟨by rfl, ?_⟩) ?_ ?_
        rotate_left; (· intro w'; go_simp; with_reducible rfl); rotate_left; (· simp only [Act.put, List.setIfInBounds_toArray, List.set_cons_zero, List.set_cons_succ, i64_w, i32_w]; rfl)
        refine pureS_ (i := 15) (N := some 68) (v := ?_) (a' := ?_) rfl rfl (by kernel_rfl) (fun _ _ _ h => h) (Or.inl ⟨by rfl, ?_⟩) ?_ ?_
        rotate_left; (· intro w'; go_simp; with_reducible rfl); rotate_left; (· simp only [Act.put, List.setIfInBounds_toArray, List.set_cons_zero, List.set_cons_succ, i64_w, i32_w]; rfl)
        refine done_ (by kernel_rfl) ?_
        have hb' := HB6.out
        have Q6 := Aside0.mk (Q5.out.keep hxg (IsS55.below (IsS55.drew Q5.out.s) hb') (below_step (below_drew1 Q5.out.b) hb') ⟨hb'.size, fun k hk _ _ => hb'.block k hk⟩)
        clear hb hb' HB6 hHeld d2_ Q5 l0_ l1_ l2_ x0_ x1_ x2_
        clear hw i0 i1 i2 i3 b4 b5 b6 b7
        generalize W6_ = W6 at Q6 ⊢
        have x0_ : W6.cell? ⟨px, 0, none⟩ = some (.int .i64 y0) := (blk_cell Q6.out.x 0).trans rfl
        have x1_ : W6.cell? ⟨px, 1, none⟩ = some (.string y1) := (blk_cell Q6.out.x 1).trans rfl
        have x2_ : W6.cell? ⟨px, 2, none⟩ = some (.string y2) := (blk_cell Q6.out.x 2).trans rfl
        obtain rfl := AK.out
        clear AK
        by_cases hT : True
        case neg => exact absurd trivial hT
        case pos =>
         clear hT
         have A9 := Aside0.mk ((if_pos rfl).symm.trans A8.out)
         clear A8
         go_wp2_with ((at_builtin; refine Kd.R_append k38 (w0 := w0) w0.heap.size rfl (.tmp 85) (.tmp 87) 26 38 (.agg #[.int .i64 0, .string ⟨#[]⟩, .string ⟨#[]⟩]) 40 rfl Try.underlying26 info38 rfl (by decide) (by decide) (.slice (some ad) out.length c6) out (⟨y0, y1, y2⟩ : S38) [.int .i64 y0, .string y1, .string y2] (fun k => k ≠ g ∧ k ≠ px) (fun _ => False) ?aE rfl ?aP (fun _ h => h.elim) ?aF Q6.out.o Q6.out.b Q6.out.b.size (by omega) ?_; (case aE => first | rfl | (go_simp; done) | (simp; done)); (case aP => exact k38_mkM _ _ _ _); (case aF => exact fun k hk => by have h1 := Q6.out.s.lt; have h3 := blk_lt Q6.out.x; omega); intro v7 W7 HV7 HB7 hg7 hat7))
         have hgo : some g ≠ (Value.slice (some ad) out.length c6).ownBlock := fun e => (Q6.out.o.1 g e.symm).1 rfl
         have P7 : Aside0 (PT w0 W7 g t2 at2 v7 (out ++ [⟨y0, y1, y2⟩])) := ⟨⟨by have := Q6.out.s.grown hg7 hgo; rw [he] at this; exact this, HB7, Kd.R_mono HV7 (fun k hk => hk.1)⟩⟩
         clear HV7 HB7 hg7 hat7 Q6
         go_roundg k1
         case measure => have := HK1.out; omega
         case rel => exact ⟨t2, at2, _, out ++ [⟨y0, y1, y2⟩], rfl, A9, ⟨by have := HK1.out; omega⟩, by simp; omega, P7⟩
     | false =>
      by_cases hl : at2 < (t2.size : Int)
      ·have b1 : decide (at2 < (t2.size : Int)) = true := decide_eq_true hl
       go_wp2_with fail
       refine start_ (n := 21) (S := fun w' => w'.cell? ⟨g, 0, none⟩ = some (.string t2) ∧ w'.cell? ⟨g, 1, none⟩ = some (.int .i64 at2) ∧ w'.cell? ⟨g, 2, none⟩ = some (.int .i64 e2)) (ds := []) #[false, false, false, false, false, false, false, false, false, false, false, false, false, false, false, false, false, false, false, false, false] (by kernel_rfl) rfl rfl ⟨c0_, c1_, c2_⟩ (fun hHeld => ?_)
       refine pureS_ (i := 0) (N := some 26) (v := ?_) (a' := ?_) rfl rfl (by kernel_rfl) (fun _ _ _ h => h) (Or.inl ⟨by rfl, ?_⟩) ?_ ?_
       rotate_left; (· intro w'; go_simp; with_reducible rfl); rotate_left; (· simp only [Act.put, List.setIfInBounds_toArray, List.set_cons_zero, List.set_cons_succ, i64_w, i32_w]; rfl)
       refine pureS_ (i := 1) (N := some 27) (v := ?_) (a' := ?_) rfl rfl (by kernel_rfl) (fun _ _ _ h => h) (Or.inl ⟨by rfl, ?_⟩) ?_ ?_
       rotate_left; (· intro w'; go_simp; with_reducible rfl); rotate_left; (· simp only [Act.put, List.setIfInBounds_toArray, List.set_cons_zero, List.set_cons_succ, i64_w, i32_w]; rfl)
       refine pureS_ (i := 2) (N := some 28) (v := ?_) (a' := ?_) rfl rfl (by kernel_rfl) (fun _ _ _ h => h) (Or.inl ⟨by rfl, ?_⟩) ?_ ?_
       rotate_left; (· intro w'; go_simp; with_reducible rfl); rotate_left; (· simp only [Act.put, List.setIfInBounds_toArray, List.set_cons_zero, List.set_cons_succ, i64_w, i32_w]; rfl)
       refine takeS_ (i := 3) (N := some 29) (v := ?_) (a' := ?_) rfl rfl (by kernel_rfl) (fun _ _ _ h => h) (Or.inl ⟨by rfl, ?_⟩) hHeld ?_ ?_
       rotate_left; (· rintro w' ⟨s0, s1, s2⟩; go_simp; with_reducible rfl); rotate_left; (· simp only [Act.put, List.setIfInBounds_toArray, List.set_cons_zero, List.set_cons_succ, i64_w, i32_w]; rfl)
       refine pureS_ (i := 4) (N := some 30) (v := ?_) (a' := ?_) rfl rfl (by kernel_rfl) (fun _ _ _ h => h) (Or.inl ⟨by rfl, ?_⟩) ?_ ?_
       rotate_left; (· intro w'; go_simp; with_reducible rfl); rotate_left; (· simp only [Act.put, List.setIfInBounds_toArray, List.set_cons_zero, List.set_cons_succ, i64_w, i32_w]; rfl)
       refine pureS_ (i := 5) (N := some 31) (v := ?_) (a' := ?_) rfl rfl (by kernel_rfl) (fun _ _ _ h => h) (Or.inl ⟨by rfl, ?_⟩) ?_ ?_
       rotate_left; (· intro w'; go_simp; with_reducible rfl); rotate_left; (· simp only [Act.put, List.setIfInBounds_toArray, List.set_cons_zero, List.set_cons_succ, i64_w, i32_w]; rfl)
       refine pureS_ (i := 6) (N := some 32) (v := ?_) (a' := ?_) rfl rfl (by kernel_rfl) (fun _ _ _ h => h) (Or.inl ⟨by rfl, ?_⟩) ?_ ?_
       rotate_left; (· intro w'; go_simp; with_reducible rfl); rotate_left; (· simp only [Act.put, List.setIfInBounds_toArray, List.set_cons_zero, List.set_cons_succ, i64_w, i32_w]; rfl)
       refine pureS_ (i := 7) (N := some 33) (v := ?_) (a' := ?_) rfl rfl (by kernel_rfl) (fun _ _ _ h => h) (Or.inl ⟨by rfl, ?_⟩) ?_ ?_
       rotate_left; (· intro w'; go_simp; with_reducible rfl); rotate_left; (· simp only [Act.put, List.setIfInBounds_toArray, List.set_cons_zero, List.set_cons_succ, i64_w, i32_w]; rfl)
       refine pureS_ (i := 8) (N := some 34) (v := ?_) (a' := ?_) rfl rfl (by kernel_rfl) (fun _ _ _ h => h) (Or.inl ⟨by rfl, ?_⟩) ?_ ?_
       rotate_left; (· intro w'; go_simp; with_reducible rfl); rotate_left; (· simp only [Act.put, List.setIfInBounds_toArray, List.set_cons_zero, List.set_cons_succ, i64_w, i32_w]; rfl)
       refine pureS_ (i := 9) (N := some 35) (v := ?_) (a' := ?_) rfl rfl (by kernel_rfl) (fun _ _ _ h => h) (Or.inl ⟨by rfl, ?_⟩) ?_ ?_
       rotate_left; (· intro w'; go_simp; with_reducible rfl); rotate_left; (· simp only [Act.put, List.setIfInBounds_toArray, List.set_cons_zero, List.set_cons_succ, i64_w, i32_w]; rfl)
       refine pureS_ (i := 10) (N := some 36) (v := ?_) (a' := ?_) rfl rfl (by kernel_rfl) (fun _ _ _ h => h) (Or.inl ⟨by rfl, ?_⟩) ?_ ?_
       rotate_left; (· intro w'; go_simp; with_reducible rfl); rotate_left; (· simp only [Act.put, List.setIfInBounds_toArray, List.set_cons_zero, List.set_cons_succ, i64_w, i32_w]; rfl)
       refine pureS_ (i := 11) (N := some 37) (v := ?_) (a' := ?_) rfl rfl (by kernel_rfl) (fun _ _ _ h => h) (Or.inl ⟨by rfl, ?_⟩) ?_ ?_
       rotate_left; (· intro w'; go_simp; with_reducible rfl); rotate_left; (· simp only [Act.put, List.setIfInBounds_toArray, List.set_cons_zero, List.set_cons_succ, i64_w, i32_w]; rfl)
       refine pureS_ (i := 12) (N := some 38) (v := ?_) (a' := ?_) rfl rfl (by kernel_rfl) (fun _ _ _ h => h) (Or.inl ⟨by rfl, ?_⟩) ?_ ?_
       rotate_left; (· intro w'; go_simp; with_reducible rfl); rotate_left; (· simp only [Act.put, List.setIfInBounds_toArray, List.set_cons_zero, List.set_cons_succ, i64_w, i32_w]; rfl)
       refine pureS_ (i := 14) (N := some 40) (v := ?_) (a' := ?_) rfl rfl (by kernel_rfl) (fun _ _ _ h => h) (Or.inl ⟨by rfl, ?_⟩) ?_ ?_
       rotate_left; (· intro w'; go_simp; with_reducible rfl); rotate_left; (· simp only [Act.put, List.setIfInBounds_toArray, List.set_cons_zero, List.set_cons_succ, i64_w, i32_w]; rfl)
       refine pureS_ (i := 15) (N := some 41) (v := ?_) (a' := ?_) rfl rfl (by kernel_rfl) (fun _ _ _ h => h) (Or.inl ⟨by rfl, ?_⟩) ?_ ?_
       rotate_left; (· intro w'; go_simp; with_reducible rfl); rotate_left; (· simp only [Act.put, List.setIfInBounds_toArray, List.set_cons_zero, List.set_cons_succ, i64_w, i32_w]; rfl)
       refine pureS_ (i := 16) (N := some 42) (v := ?_) (a' := ?_) rfl rfl (by kernel_rfl) (fun _ _ _ h => h) (Or.inl ⟨by rfl, ?_⟩) ?_ ?_
       rotate_left; (· intro w'; go_simp; with_reducible rfl); rotate_left; (· simp only [Act.put, List.setIfInBounds_toArray, List.set_cons_zero, List.set_cons_succ, i64_w, i32_w]; rfl)
       refine takeS_ (i := 13) (N := some 39) (v := ?_) (a' := ?_) rfl rfl (by kernel_rfl) (fun _ _ _ h => h) (Or.inl ⟨by rfl, ?_⟩) hHeld ?_ ?_
       rotate_left; (· rintro w' ⟨s0, s1, s2⟩; go_simp; with_reducible rfl); rotate_left; (· simp only [Act.put, List.setIfInBounds_toArray, List.set_cons_zero, List.set_cons_succ, i64_w, i32_w]; rfl)
       refine takeS_ (i := 17) (N := some 43) (v := ?_) (a' := ?_) rfl rfl (by kernel_rfl) (fun _ _ _ h => h) (Or.inl ⟨by rfl, ?_⟩) hHeld ?_ ?_
       rotate_left; (· rintro w' ⟨s0, s1, s2⟩; go_simp; with_reducible rfl); rotate_left; (· simp only [Act.put, List.setIfInBounds_toArray, List.set_cons_zero, List.set_cons_succ, i64_w, i32_w]; rfl)
       refine pureS_ (i := 18) (N := some 44) (v := ?_) (a' := ?_) rfl rfl (by kernel_rfl) (fun _ _ _ h => h) (Or.inl ⟨by rfl, ?_⟩) ?_ ?_
       rotate_left; (· intro w'; go_simp; with_reducible rfl); rotate_left; (· simp only [Act.put, List.setIfInBounds_toArray, List.set_cons_zero, List.set_cons_succ, i64_w, i32_w]; rfl)
       refine pureS_ (i := 19) (N := some 45) (v := ?_) (a' := ?_) rfl rfl (by kernel_rfl) (fun _ _ _ h => h) (Or.inl ⟨by rfl, ?_⟩) ?_ ?_
       rotate_left; (· intro w'; go_simp; with_reducible rfl); rotate_left; (· simp only [Act.put, List.setIfInBounds_toArray, List.set_cons_zero, List.set_cons_succ, i64_w, i32_w]; rfl)
       refine pureS_ (i := 20) (N := some 46) (v := ?_) (a' := ?_) rfl rfl (by kernel_rfl) (fun _ _ _ h => h) (Or.inl ⟨by rfl, ?_⟩) ?_ ?_
       rotate_left; (· intro w'; go_simp; with_reducible rfl); rotate_left; (· simp only [Act.put, List.setIfInBounds_toArray, List.set_cons_zero, List.set_cons_succ, i64_w, i32_w]; rfl)
       refine done_ (by kernel_rfl) ?_
       have Q5 := Aside0.mk (Q4.out.keep hxg (IsS55.drew Q4.out.s) (below_drew1 Q4.out.b) (keep_drew (KeepBut.refl _ _ _)))
       generalize W4.drew = W5 at Q5 hHeld ⊢
       clear hHeld c0_ c1_ c2_ Q4
       have a3 := A3.out
       rw [if_pos ⟨he, by simp, hl⟩] at a3
       obtain ⟨⟨z0, z1, z2, z3⟩, a5, a6⟩ := Option.bind_eq_some_iff.mp a3
       clear a3 A3
       obtain ⟨q1, q2, q3⟩ : z1 = t3 ∧ z2 = at3 ∧ z3 = e3 := by simpa using a6
       rw [← q1, ← q2, ← q3] at H3
       clear q1 q2 q3
       have he3 : z3 ≠ 0 := fail_ne (he ▸ a5)
       have A5 := Aside0.mk a5
       clear a5 a6
       go_wp2_with fail
       refine (label_reader_fail.calls g t2 at2 e2 _ _ _ _ w0 _ Q5.out.s Q5.out.b A5.out).mono ?_
       rintro _ W6 ⟨rfl, hI6, hB6, hK6⟩
       have Q := Aside0.mk (Q5.out.keep hxg hI6 hB6 hK6)
       clear Q5 hI6 hB6 hK6 A5
       have H4 := H3.out
       rw [if_pos (show z3 ≠ 0 from he3)] at H4
       cases H4
       have d1_ : W6.cell? ⟨g, 1, none⟩ = some (.int .i64 r2) := (blk_cell Q.out.s.1 1).trans rfl
       have d2_ : W6.cell? ⟨g, 2, none⟩ = some (.int .i64 r3) := (blk_cell Q.out.s.1 2).trans rfl
       have b3 : ((r3 : Int) != 0) = true := by rw [bne_iff_ne]; exact he3
       go_wp2_with fail
       refine start_ (n := 11) (S := fun w' => w'.cell? ⟨g, 1, none⟩ = some (.int .i64 r2) ∧ w'.cell? ⟨g, 2, none⟩ = some (.int .i64 r3)) (ds := []) #[false, false, false, false, false, false, false, false, false, false, false] (by kernel_rfl) rfl rfl ⟨d1_, d2_⟩ (fun hHeld => ?_)
       refine pureS_ (i := 0) (N := some 55) (v := ?_) (a' := ?_) rfl rfl (by kernel_rfl) (fun _ _ _ h => h) (Or.inl ⟨by rfl, ?_⟩) ?_ ?_
       rotate_left; (· intro w'; go_simp; with_reducible rfl); rotate_left; (· simp only [Act.put, List.setIfInBounds_toArray, List.set_cons_zero, List.set_cons_succ, i64_w, i32_w]; rfl)
       refine pureS_ (i := 1) (N := some 56) (v := ?_) (a' := ?_) rfl rfl (by kernel_rfl) (fun _ _ _ h => h) (Or.inl ⟨by rfl, ?_⟩) ?_ ?_
       rotate_left; (· intro w'; go_simp; with_reducible rfl); rotate_left; (· simp only [Act.put, List.setIfInBounds_toArray, List.set_cons_zero, List.set_cons_succ, i64_w, i32_w]; rfl)
       refine pureS_ (i := 2) (N := some 57) (v := ?_) (a' := ?_) rfl rfl (by kernel_rfl) (fun _ _ _ h => h) (Or.inl ⟨by rfl, ?_⟩) ?_ ?_
       rotate_left; (· intro w'; go_simp; with_reducible rfl); rotate_left; (· simp only [Act.put, List.setIfInBounds_toArray, List.set_cons_zero, List.set_cons_succ, i64_w, i32_w]; rfl)
       refine pureS_ (i := 4) (N := some 59) (v := ?_) (a' := ?_) rfl rfl (by kernel_rfl) (fun _ _ _ h => h) (Or.inl ⟨by rfl, ?_⟩) ?_ ?_
       rotate_left; (· intro w'; go_simp; with_reducible rfl); rotate_left; (· simp only [Act.put, List.setIfInBounds_toArray, List.set_cons_zero, List.set_cons_succ, i64_w, i32_w]; rfl)
       refine pureS_ (i := 5) (N := some 60) (v := ?_) (a' := ?_) rfl rfl (by kernel_rfl) (fun _ _ _ h => h) (Or.inl ⟨by rfl, ?_⟩) ?_ ?_
       rotate_left; (· intro w'; go_simp; with_reducible rfl); rotate_left; (· simp only [Act.put, List.setIfInBounds_toArray, List.set_cons_zero, List.set_cons_succ, i64_w, i32_w]; rfl)
       refine pureS_ (i := 6) (N := some 61) (v := ?_) (a' := ?_) rfl rfl (by kernel_rfl) (fun _ _ _ h => h) (Or.inl ⟨by rfl, ?_⟩) ?_ ?_
       rotate_left; (· intro w'; go_simp; with_reducible rfl); rotate_left; (· simp only [Act.put, List.setIfInBounds_toArray, List.set_cons_zero, List.set_cons_succ, i64_w, i32_w]; rfl)
       refine pureS_ (i := 8) (N := some 6) (v := ?_) (a' := ?_) rfl rfl (by kernel_rfl) (fun _ _ _ h => h) (Or.inl ⟨by rfl, ?_⟩) ?_ ?_
       rotate_left; (· intro w'; go_simp; with_reducible rfl); rotate_left; (· simp only [Act.put, List.setIfInBounds_toArray, List.set_cons_zero, List.set_cons_succ, i64_w, i32_w]; rfl)
       refine takeS_ (i := 3) (N := some 58) (v := ?_) (a' := ?_) rfl rfl (by kernel_rfl) (fun _ _ _ h => h) (Or.inl ⟨by rfl, ?_⟩) hHeld ?_ ?_
       rotate_left; (· rintro w' ⟨s0, s1⟩; go_simp; with_reducible rfl); rotate_left; (· simp only [Act.put, List.setIfInBounds_toArray, List.set_cons_zero, List.set_cons_succ, i64_w, i32_w]; rfl)
       refine pureS_ (i := 9) (N := some 7) (v := ?_) (a' := ?_) rfl rfl (by kernel_rfl) (fun _ _ _ h => h) (Or.inl ⟨by rfl, ?_⟩) ?_ ?_
       rotate_left; (· intro w'; go_simp; with_reducible rfl); rotate_left; (· simp only [Act.put, List.setIfInBounds_toArray, List.set_cons_zero, List.set_cons_succ, i64_w, i32_w]; rfl)
       refine takeS_ (i := 7) (N := some 62) (v := ?_) (a' := ?_) rfl rfl (by kernel_rfl) (fun _ _ _ h => h) (Or.inl ⟨by rfl, ?_⟩) hHeld ?_ ?_
       rotate_left; (· rintro w' ⟨s0, s1⟩; go_simp; with_reducible rfl); rotate_left; (· simp only [Act.put, List.setIfInBounds_toArray, List.set_cons_zero, List.set_cons_succ, i64_w, i32_w]; rfl)
       refine pureS_ (i := 10) (N := some 8) (v := ?_) (a' := ?_) rfl rfl (by kernel_rfl) (fun _ _ _ h => h) (Or.inl ⟨by rfl, ?_⟩) ?_ ?_
       rotate_left; (· intro w'; go_simp; with_reducible rfl); rotate_left; (· simp only [Act.put, List.setIfInBounds_toArray, List.set_cons_zero, List.set_cons_succ, i64_w, i32_w]; rfl)
       refine done_ (by kernel_rfl) ?_
       go_wp2_with fail
       go_ret3
       exact ⟨_, rfl, Kd.R_nil _ _ _ _ _, below_drew1 Q.out.b⟩
      ·have b1 : decide (at2 < (t2.size : Int)) = false := decide_eq_false hl
       go_wp2_with fail
       refine start_ (n := 21) (S := fun w' => w'.cell? ⟨g, 0, none⟩ = some (.string t2) ∧ w'.cell? ⟨g, 1, none⟩ = some (.int .i64 at2) ∧ w'.cell? ⟨g, 2, none⟩ = some (.int .i64 e2)) (ds := []) #[false, false, false, false, false, false, false, false, false, false, false, false, false, false, false, false, false, false, false, false, false] (by kernel_rfl) rfl rfl ⟨c0_, c1_, c2_⟩ (fun hHeld => ?_)
       refine pureS_ (i := 0) (N := some 26) (v := ?_) (a' := ?_) rfl rfl (by kernel_rfl) (fun _ _ _ h => h) (Or.inl ⟨by rfl, ?_⟩) ?_ ?_
       rotate_left; (· intro w'; go_simp; with_reducible rfl); rotate_left; (· simp only [Act.put, List.setIfInBounds_toArray, List.set_cons_zero, List.set_cons_succ, i64_w, i32_w]; rfl)
       refine pureS_ (i := 1) (N := some 27) (v := ?_) (a' := ?_) rfl rfl (by kernel_rfl) (fun _ _ _ h => h) (Or.inl ⟨by rfl, ?_⟩) ?_ ?_
       rotate_left; (· intro w'; go_simp; with_reducible rfl); rotate_left; (· simp only [Act.put, List.setIfInBounds_toArray, List.set_cons_zero, List.set_cons_succ, i64_w, i32_w]; rfl)
       refine pureS_ (i := 2) (N := some 28) (v := ?_) (a' := ?_) rfl rfl (by kernel_rfl) (fun _ _ _ h => h) (Or.inl ⟨by rfl, ?_⟩) ?_ ?_
       rotate_left; (· intro w'; go_simp; with_reducible rfl); rotate_left; (· simp only [Act.put, List.setIfInBounds_toArray, List.set_cons_zero, List.set_cons_succ, i64_w, i32_w]; rfl)
       refine takeS_ (i := 3) (N := some 29) (v := ?_) (a' := ?_) rfl rfl (by kernel_rfl) (fun _ _ _ h => h) (Or.inl ⟨by rfl, ?_⟩) hHeld ?_ ?_
       rotate_left; (· rintro w' ⟨s0, s1, s2⟩; go_simp; with_reducible rfl); rotate_left; (· simp only [Act.put, List.setIfInBounds_toArray, List.set_cons_zero, List.set_cons_succ, i64_w, i32_w]; rfl)
       refine pureS_ (i := 4) (N := some 30) (v := ?_) (a' := ?_) rfl rfl (by kernel_rfl) (fun _ _ _ h => h) (Or.inl ⟨by rfl, ?_⟩) ?_ ?_
       rotate_left; (· intro w'; go_simp; with_reducible rfl); rotate_left; (· simp only [Act.put, List.setIfInBounds_toArray, List.set_cons_zero, List.set_cons_succ, i64_w, i32_w]; rfl)
       refine pureS_ (i := 5) (N := some 31) (v := ?_) (a' := ?_) rfl rfl (by kernel_rfl) (fun _ _ _ h => h) (Or.inl ⟨by rfl, ?_⟩) ?_ ?_
       rotate_left; (· intro w'; go_simp; with_reducible rfl); rotate_left; (· simp only [Act.put, List.setIfInBounds_toArray, List.set_cons_zero, List.set_cons_succ, i64_w, i32_w]; rfl)
       refine pureS_ (i := 6) (N := some 32) (v := ?_) (a' := ?_) rfl rfl (by kernel_rfl) (fun _ _ _ h => h) (Or.inl ⟨by rfl, ?_⟩) ?_ ?_
       rotate_left; (· intro w'; go_simp; with_reducible rfl); rotate_left; (· simp only [Act.put, List.setIfInBounds_toArray, List.set_cons_zero, List.set_cons_succ, i64_w, i32_w]; rfl)
       refine pureS_ (i := 7) (N := some 33) (v := ?_) (a' := ?_) rfl rfl (by kernel_rfl) (fun _ _ _ h => h) (Or.inl ⟨by rfl, ?_⟩) ?_ ?_
       rotate_left; (· intro w'; go_simp; with_reducible rfl); rotate_left; (· simp only [Act.put, List.setIfInBounds_toArray, List.set_cons_zero, List.set_cons_succ, i64_w, i32_w]; rfl)
       refine pureS_ (i := 8) (N := some 34) (v := ?_) (a' := ?_) rfl rfl (by kernel_rfl) (fun _ _ _ h => h) (Or.inl ⟨by rfl, ?_⟩) ?_ ?_
       rotate_left; (· intro w'; go_simp; with_reducible rfl); rotate_left; (· simp only [Act.put, List.setIfInBounds_toArray, List.set_cons_zero, List.set_cons_succ, i64_w, i32_w]; rfl)
       refine pureS_ (i := 9) (N := some 35) (v := ?_) (a' := ?_) rfl rfl (by kernel_rfl) (fun _ _ _ h => h) (Or.inl ⟨by rfl, ?_⟩) ?_ ?_
       rotate_left; (· intro w'; go_simp; with_reducible rfl); rotate_left; (· simp only [Act.put, List.setIfInBounds_toArray, List.set_cons_zero, List.set_cons_succ, i64_w, i32_w]; rfl)
       refine pureS_ (i := 10) (N := some 36) (v := ?_) (a' := ?_) rfl rfl (by kernel_rfl) (fun _ _ _ h => h) (Or.inl ⟨by rfl, ?_⟩) ?_ ?_
       rotate_left; (· intro w'; go_simp; with_reducible rfl); rotate_left; (· simp only [Act.put, List.setIfInBounds_toArray, List.set_cons_zero, List.set_cons_succ, i64_w, i32_w]; rfl)
       refine pureS_ (i := 11) (N := some 37) (v := ?_) (a' := ?_) rfl rfl (by kernel_rfl) (fun _ _ _ h => h) (Or.inl ⟨by rfl, ?_⟩) ?_ ?_
       rotate_left; (· intro w'; go_simp; with_reducible rfl); rotate_left; (· simp only [Act.put, List.setIfInBounds_toArray, List.set_cons_zero, List.set_cons_succ, i64_w, i32_w]; rfl)
       refine pureS_ (i := 12) (N := some 38) (v := ?_) (a' := ?_) rfl rfl (by kernel_rfl) (fun _ _ _ h => h) (Or.inl ⟨by rfl, ?_⟩) ?_ ?_
       rotate_left; (· intro w'; go_simp; with_reducible rfl); rotate_left; (· simp only [Act.put, List.setIfInBounds_toArray, List.set_cons_zero, List.set_cons_succ, i64_w, i32_w]; rfl)
       refine pureS_ (i := 14) (N := some 40) (v := ?_) (a' := ?_) rfl rfl (by kernel_rfl) (fun _ _ _ h => h) (Or.inl ⟨by rfl, ?_⟩) ?_ ?_
       rotate_left; (· intro w'; go_simp; with_reducible rfl); rotate_left; (· simp only [Act.put, List.setIfInBounds_toArray, List.set_cons_zero, List.set_cons_succ, i64_w, i32_w]; rfl)
       refine pureS_ (i := 15) (N := some 41) (v := ?_) (a' := ?_) rfl rfl (by kernel_rfl) (fun _ _ _ h => h) (Or.inl ⟨by rfl, ?_⟩) ?_ ?_
       rotate_left; (· intro w'; go_simp; with_reducible rfl); rotate_left; (· simp only [Act.put, List.setIfInBounds_toArray, List.set_cons_zero, List.set_cons_succ, i64_w, i32_w]; rfl)
       refine pureS_ (i := 16) (N := some 42) (v := ?_) (a' := ?_) rfl rfl (by kernel_rfl) (fun _ _ _ h => h) (Or.inl ⟨by rfl, ?_⟩) ?_ ?_
       rotate_left; (· intro w'; go_simp; with_reducible rfl); rotate_left; (· simp only [Act.put, List.setIfInBounds_toArray, List.set_cons_zero, List.set_cons_succ, i64_w, i32_w]; rfl)
       refine takeS_ (i := 13) (N := some 39) (v := ?_) (a' := ?_) rfl rfl (by kernel_rfl) (fun _ _ _ h => h) (Or.inl ⟨by rfl, ?_⟩) hHeld ?_ ?_
       rotate_left; (· rintro w' ⟨s0, s1, s2⟩; go_simp; with_reducible rfl); rotate_left; (· simp only [Act.put, List.setIfInBounds_toArray, List.set_cons_zero, List.set_cons_succ, i64_w, i32_w]; rfl)
       refine takeS_ (i := 17) (N := some 43) (v := ?_) (a' := ?_) rfl rfl (by kernel_rfl) (fun _ _ _ h => h) (Or.inl ⟨by rfl, ?_⟩) hHeld ?_ ?_
       rotate_left; (· rintro w' ⟨s0, s1, s2⟩; go_simp; with_reducible rfl); rotate_left; (· simp only [Act.put, List.setIfInBounds_toArray, List.set_cons_zero, List.set_cons_succ, i64_w, i32_w]; rfl)
       refine pureS_ (i := 18) (N := some 44) (v := ?_) (a' := ?_) rfl rfl (by kernel_rfl) (fun _ _ _ h => h) (Or.inl ⟨by rfl, ?_⟩) ?_ ?_
       rotate_left; (· intro w'; go_simp; with_reducible rfl); rotate_left; (· simp only [Act.put, List.setIfInBounds_toArray, List.set_cons_zero, List.set_cons_succ, i64_w, i32_w]; rfl)
       refine pureS_ (i := 19) (N := some 45) (v := ?_) (a' := ?_) rfl rfl (by kernel_rfl) (fun _ _ _ h => h) (Or.inl ⟨by rfl, ?_⟩) ?_ ?_
       rotate_left; (· intro w'; go_simp; with_reducible rfl); rotate_left; (· simp only [Act.put, List.setIfInBounds_toArray, List.set_cons_zero, List.set_cons_succ, i64_w, i32_w]; rfl)
       refine pureS_ (i := 20) (N := some 46) (v := ?_) (a' := ?_) rfl rfl (by kernel_rfl) (fun _ _ _ h => h) (Or.inl ⟨by rfl, ?_⟩) ?_ ?_
       rotate_left; (· intro w'; go_simp; with_reducible rfl); rotate_left; (· simp only [Act.put, List.setIfInBounds_toArray, List.set_cons_zero, List.set_cons_succ, i64_w, i32_w]; rfl)
       refine done_ (by kernel_rfl) ?_
       have Q5 := Aside0.mk (Q4.out.keep hxg (IsS55.drew Q4.out.s) (below_drew1 Q4.out.b) (keep_drew (KeepBut.refl _ _ _)))
       generalize W4.drew = W5 at Q5 hHeld ⊢
       clear hHeld c0_ c1_ c2_ Q4
       obtain ⟨q1, q2, q3⟩ : t2 = t3 ∧ at2 = at3 ∧ e2 = e3 := by
        have a3 := A3.out
        rw [if_neg (by intro h; first | (have h9 := h.2.2; omega) | (have h9 := h.2; omega))] at a3
        simpa using a3
       rw [← q1, ← q2, ← q3] at H3
       clear q1 q2 q3 A3
       have H4 := H3.out
       rw [if_neg (fun h => h he)] at H4
       clear H3
       have d2_ : W5.cell? ⟨g, 2, none⟩ = some (.int .i64 e2) := (blk_cell Q5.out.s.1 2).trans rfl
       have b3 : ((e2 : Int) != 0) = false := by rw [he]; rfl
       obtain ⟨A6, c6, e6⟩ := Kd.R_slice Q5.out.o
       subst e6
       by_cases h6 : out.length = 6
       ·rw [if_pos h6] at H4
        cases H4
        have b4 : ((out.length : Int) == 6) = true := by rw [h6]; rfl
        go_wp2_with fail
        go_ret3
        exact ⟨_, rfl, Kd.R_nil _ _ _ _ _, Q5.out.b⟩
       ·rw [if_neg h6] at H4
        have b4 : ((out.length : Int) == 6) = false := beq_eq_false_iff_ne.mpr (by omega)
        obtain ⟨ok, a7, a8⟩ := Option.bind_eq_some_iff.mp H4
        have A7 := Aside0.mk a7
        have A8 := Aside0.mk a8
        clear H4 a7 a8
        by_cases hn : out.length = 0
        ·have b5 : decide ((out.length : Int) > 0) = false := decide_eq_false (by omega)
         go_wp2_with fail
         refine start_ (n := 16) (S := fun w' => True) (ds := []) #[false, false, false, false, false, false, false, false, false, false, false, false, false, false, false, false] (by kernel_rfl) rfl rfl trivial (fun hHeld => ?_)
         refine pureS_ (i := 0) (N := some 69) (v := ?_) (a' := ?_) rfl rfl (by kernel_rfl) (fun _ _ _ h => h) (Or.inl ⟨by rfl, ?_⟩) ?_ ?_
         rotate_left; (· intro w'; go_simp; with_reducible rfl); rotate_left; (· simp only [Act.put, List.setIfInBounds_toArray, List.set_cons_zero, List.set_cons_succ, i64_w, i32_w]; rfl)
         refine pureS_ (i := 1) (N := some 70) (v := ?_) (a' := ?_) rfl rfl (by kernel_rfl) (fun _ _ _ h => h) (Or.inl ⟨by rfl, ?_⟩) ?_ ?_
         rotate_left; (· intro w'; go_simp; with_reducible rfl); rotate_left; (· simp only [Act.put, List.setIfInBounds_toArray, List.set_cons_zero, List.set_cons_succ, i64_w, i32_w]; rfl)
         refine pureS_ (i := 2) (N := some 71) (v := ?_) (a' := ?_) rfl rfl (by kernel_rfl) (fun _ _ _ h => h) (Or.inl ⟨by rfl, ?_⟩) ?_ ?_
         rotate_left; (· intro w'; go_simp; with_reducible rfl); rotate_left; (· simp only [Act.put, List.setIfInBounds_toArray, List.set_cons_zero, List.set_cons_succ, i64_w, i32_w]; rfl)
         refine pureS_ (i := 3) (N := some 72) (v := ?_) (a' := ?_) rfl rfl (by kernel_rfl) (fun _ _ _ h => h) (Or.inl ⟨by rfl, ?_⟩) ?_ ?_
         rotate_left; (· intro w'; go_simp; with_reducible rfl); rotate_left; (· simp only [Act.put, List.setIfInBounds_toArray, List.set_cons_zero, List.set_cons_succ, i64_w, i32_w]; rfl)
         refine pureS_ (i := 4) (N := some 73) (v := undef) (a' := ?_) rfl rfl (by kernel_rfl) (fun _ _ _ h => h) (Or.inr ⟨by rfl, rfl⟩) ?_ ?_
         rotate_left
         ·simp only [Act.put, List.setIfInBounds_toArray, List.set_cons_zero, List.set_cons_succ, i64_w, i32_w]
          rfl
         refine pureS_ (i := 5) (N := some 74) (v := undef) (a' := ?_) rfl rfl (by kernel_rfl) (fun _ _ _ h => h) (Or.inr ⟨by rfl, rfl⟩) ?_ ?_
         rotate_left
         ·simp only [Act.put, List.setIfInBounds_toArray, List.set_cons_zero, List.set_cons_succ, i64_w, i32_w]
          rfl
         refine pureS_ (i := 6) (N := some 75) (v := undef) (a' := ?_) rfl rfl (by kernel_rfl) (fun _ _ _ h => h) (Or.inr ⟨by rfl, rfl⟩) ?_ ?_
         rotate_left
         ·simp only [Act.put, List.setIfInBounds_toArray, List.set_cons_zero, List.set_cons_succ, i64_w, i32_w]
          rfl
         refine pureS_ (i := 7) (N := some 76) (v := undef) (a' := ?_) rfl rfl (by kernel_rfl) (fun _ _ _ h => h) (Or.inr ⟨by rfl, rfl⟩) ?_ ?_
         rotate_left
         ·simp only [Act.put, List.setIfInBounds_toArray, List.set_cons_zero, List.set_cons_succ, i64_w, i32_w]
          rfl
         refine pureS_ (i := 8) (N := some 77) (v := undef) (a' := ?_) rfl rfl (by kernel_rfl) (fun _ _ _ h => h) (Or.inr ⟨by rfl, rfl⟩) ?_ ?_
         rotate_left
         ·simp only [Act.put, List.setIfInBounds_toArray, List.set_cons_zero, List.set_cons_succ, i64_w, i32_w]
          rfl
         refine pureS_ (i := 9) (N := some 78) (v := undef) (a' := ?_) rfl rfl (by kernel_rfl) (fun _ _ _ h => h) (Or.inr ⟨by rfl, rfl⟩) ?_ ?_
         rotate_left
         ·simp only [Act.put, List.setIfInBounds_toArray, List.set_cons_zero, List.set_cons_succ, i64_w, i32_w]
          rfl
         refine pureS_ (i := 10) (N := some 79) (v := undef) (a' := ?_) rfl rfl (by kernel_rfl) (fun _ _ _ h => h) (Or.inr ⟨by rfl, rfl⟩) ?_ ?_
         rotate_left
         ·simp only [Act.put, List.setIfInBounds_toArray, List.set_cons_zero, List.set_cons_succ, i64_w, i32_w]
          rfl
         refine pureS_ (i := 11) (N := some 80) (v := undef) (a' := ?_) rfl rfl (by kernel_rfl) (fun _ _ _ h => h) (Or.inr ⟨by rfl, rfl⟩) ?_ ?_
         rotate_left
         ·simp only [Act.put, List.setIfInBounds_toArray, List.set_cons_zero, List.set_cons_succ, i64_w, i32_w]
          rfl
         refine pureS_ (i := 12) (N := some 81) (v := undef) (a' := ?_) rfl rfl (by kernel_rfl) (fun _ _ _ h => h) (Or.inr ⟨by rfl, rfl⟩) ?_ ?_
         rotate_left
         ·simp only [Act.put, List.setIfInBounds_toArray, List.set_cons_zero, List.set_cons_succ, i64_w, i32_w]
          rfl
         refine pureS_ (i := 13) (N := some 82) (v := undef) (a' := ?_) rfl rfl (by kernel_rfl) (fun _ _ _ h => h) (Or.inr ⟨by rfl, rfl⟩) ?_ ?_
         rotate_left
         ·simp only [Act.put, List.setIfInBounds_toArray, List.set_cons_zero, List.set_cons_succ, i64_w, i32_w]
          rfl
         refine pureS_ (i := 14) (N := some 83) (v := ?_) (a' := ?_) rfl rfl (by kernel_rfl) (fun _ _ _ h => h) (Or.inl ⟨by rfl, ?_⟩) ?_ ?_
         rotate_left; (· intro w'; go_simp; with_reducible rfl); rotate_left; (· simp only [Act.put, List.setIfInBounds_toArray, List.set_cons_zero, List.set_cons_succ, i64_w, i32_w]; rfl)
         refine pureS_ (i := 15) (N := some 68) (v := ?_) (a' := ?_) rfl rfl (by kernel_rfl) (fun _ _ _ h => h) (Or.inl ⟨by rfl, ?_⟩) ?_ ?_
         rotate_left; (· intro w'; go_simp; with_reducible rfl); rotate_left; (· simp only [Act.put, List.setIfInBounds_toArray, List.set_cons_zero, List.set_cons_succ, i64_w, i32_w]; rfl)
         refine done_ (by kernel_rfl) ?_
         have Q6 := Aside0.mk (Q5.out.keep hxg (IsS55.drew Q5.out.s) (below_drew1 Q5.out.b) (keep_drew (KeepBut.refl _ _ _)))
         generalize W5.drew = W6 at Q6 hHeld ⊢
         clear hHeld d2_ Q5
         have x0_ : W6.cell? ⟨px, 0, none⟩ = some (.int .i64 y0) := (blk_cell Q6.out.x 0).trans rfl
         have x1_ : W6.cell? ⟨px, 1, none⟩ = some (.string y1) := (blk_cell Q6.out.x 1).trans rfl
         have x2_ : W6.cell? ⟨px, 2, none⟩ = some (.string y2) := (blk_cell Q6.out.x 2).trans rfl
         have hok : ok = true := by have h0 : out = [] := List.length_eq_zero_iff.1 hn; have h1 := A7.out; rw [h0] at h1; exact (Option.some.inj h1).symm
         have A9 := Aside0.mk ((if_pos hok).symm.trans A8.out)
         clear A7 A8
         go_wp2_with ((at_builtin; refine Kd.R_append k38 (w0 := w0) w0.heap.size rfl (.tmp 85) (.tmp 87) 26 38 (.agg #[.int .i64 0, .string ⟨#[]⟩, .string ⟨#[]⟩]) 40 rfl Try.underlying26 info38 rfl (by decide) (by decide) (.slice A6 out.length c6) out (⟨y0, y1, y2⟩ : S38) [.int .i64 y0, .string y1, .string y2] (fun k => k ≠ g ∧ k ≠ px) (fun _ => False) ?aE rfl ?aP (fun _ h => h.elim) ?aF Q6.out.o Q6.out.b Q6.out.b.size (by omega) ?_; (case aE => first | rfl | (go_simp; done) | (simp; done)); (case aP => exact k38_mkM _ _ _ _); (case aF => exact fun k hk => by have h1 := Q6.out.s.lt; have h3 := blk_lt Q6.out.x; omega); intro v7 W7 HV7 HB7 hg7 hat7))
         have hgo : some g ≠ (Value.slice A6 out.length c6).ownBlock := fun e => (Q6.out.o.1 g e.symm).1 rfl
         have P7 : Aside0 (PT w0 W7 g t2 at2 v7 (out ++ [⟨y0, y1, y2⟩])) := ⟨⟨by have := Q6.out.s.grown hg7 hgo; rw [he] at this; exact this, HB7, Kd.R_mono HV7 (fun k hk => hk.1)⟩⟩
         clear HV7 HB7 hg7 hat7 Q6
         go_roundg k1
         case measure => have := HK1.out; omega
         case rel => exact ⟨t2, at2, _, out ++ [⟨y0, y1, y2⟩], rfl, A9, ⟨by have := HK1.out; omega⟩, by simp; omega, P7⟩
        ·have b5 : decide ((out.length : Int) > 0) = true := decide_eq_true (by omega)
         have hw : wrap64 ((out.length : Int) - 1) = (out.length : Int) - 1 := by unfold wrap64; omega
         have i0 : (0 : Int) ≤ (out.length : Int) - 1 := by omega
         have i1 : ((out.length : Int) - 1 < (out.length : Int)) = True := eq_true (by omega)
         have i2 : ((0 : Int) ≤ (out.length : Int) - 1) = True := eq_true i0
         have AK : Aside0 (true = ok) := ⟨Option.some.inj (by have h1 := A7.out; rw [last_rdT out hn] at h1; exact h1)⟩
         obtain ⟨ad, eA, l0_, l1_, l2_⟩ := at_T38 (Kd.R_reads' Q5.out.o).2.2 ((out.length : Int) - 1) i0 (by omega)
         subst eA
         have i3 : (1 ≤ (out.length : Int)) = True := eq_true (by omega)
         rw [show ((out.length : Int) - 1).toNat = out.length - 1 by omega] at l0_ l1_ l2_
         generalize rd_T38 out ((out.length : Int) - 1) = zl at l0_ l1_ l2_
         have x0_ : W5.cell? ⟨px, 0, none⟩ = some (.int .i64 y0) := (blk_cell Q5.out.x 0).trans rfl
         have x1_ : W5.cell? ⟨px, 1, none⟩ = some (.string y1) := (blk_cell Q5.out.x 1).trans rfl
         have x2_ : W5.cell? ⟨px, 2, none⟩ = some (.string y2) := (blk_cell Q5.out.x 2).trans rfl
         clear A7
         have hpos : 0 < out.length := by omega
         have b6 : decide (0 < out.length) = true := decide_eq_true hpos
         have b7 : decide ((0 : Int) < (out.length : Int)) = true := decide_eq_true (by omega)
         clear hn
         go_wp2_with fail
         refine start_ (n := 16) (S := fun w' => w'.cell? (ad.add ((out.length - 1) * 3)) = some (.int .i64 zl.f0) ∧ w'.cell? ⟨(ad.add ((out.length - 1) * 3)).block, (ad.add ((out.length - 1) * 3)).off + 1, none⟩ = some (.string zl.f1) ∧ w'.cell? ⟨(ad.add ((out.length - 1) * 3)).block, (ad.add ((out.length - 1) * 3)).off + 2, none⟩ = some (.string zl.f2) ∧ w'.cell? ⟨px, 0, none⟩ = some (.int .i64 y0) ∧ w'.cell? ⟨px, 1, none⟩ = some (.string y1) ∧ w'.cell? ⟨px, 2, none⟩ = some (.string y2)) (ds := []) #[false, false, false, false, false, false, false, false, false, false, false, false, false, false, false, false] (by kernel_rfl) rfl rfl ⟨l0_, l1_, l2_, x0_, x1_, x2_⟩ (fun hHeld => ?_)
         refine pureS_ (i := 0) (N := some 69) (v := ?_) (a' := ?_) rfl rfl (by kernel_rfl) (fun _ _ _ h => h) (Or.inl ⟨by rfl, ?_⟩) ?_ ?_
         rotate_left; (· intro w'; go_simp; with_reducible rfl); rotate_left; (· simp only [Act.put, List.setIfInBounds_toArray, List.set_cons_zero, List.set_cons_succ, i64_w, i32_w]; rfl)
         refine pureS_ (i := 1) (N := some 70) (v := ?_) (a' := ?_) rfl rfl (by kernel_rfl) (fun _ _ _ h => h) (Or.inl ⟨by rfl, ?_⟩) ?_ ?_
         rotate_left; (· intro w'; go_simp; with_reducible rfl); rotate_left; (· simp only [Act.put, List.setIfInBounds_toArray, List.set_cons_zero, List.set_cons_succ, i64_w, i32_w]; rfl)
         refine pureS_ (i := 2) (N := some 71) (v := ?_) (a' := ?_) rfl rfl (by kernel_rfl) (fun _ _ _ h => h) (Or.inl ⟨by rfl, ?_⟩) ?_ ?_
         rotate_left; (· intro w'; go_simp; with_reducible rfl); rotate_left; (· simp only [Act.put, List.setIfInBounds_toArray, List.set_cons_zero, List.set_cons_succ, i64_w, i32_w]; rfl)
         refine pureS_ (i := 3) (N := some 72) (v := ?_) (a' := ?_) rfl rfl (by kernel_rfl) (fun _ _ _ h => h) (Or.inl ⟨by rfl, ?_⟩) ?_ ?_
         rotate_left; (· intro w'; go_simp; with_reducible rfl); rotate_left; (· simp only [Act.put, List.setIfInBounds_toArray, List.set_cons_zero, List.set_cons_succ, i64_w, i32_w]; rfl)
         refine pureS_ (i := 4) (N := some 73) (v := ?_) (a' := ?_) rfl rfl (by kernel_rfl) (fun _ _ _ h => h) (Or.inl ⟨by rfl, ?_⟩) ?_ ?_
         rotate_left; (· intro w'; go_simp; with_reducible rfl); rotate_left; (· simp only [Act.put, List.setIfInBounds_toArray, List.set_cons_zero, List.set_cons_succ, i64_w, i32_w]; rfl)
         refine pureS_ (i := 5) (N := some 74) (v := ?_) (a' := ?_) rfl rfl (by kernel_rfl) (fun _ _ _ h => h) (Or.inl ⟨by rfl, ?_⟩) ?_ ?_
         rotate_left; (· intro w'; go_simp; with_reducible rfl); rotate_left; (· simp only [Act.put, List.setIfInBounds_toArray, List.set_cons_zero, List.set_cons_succ, i64_w, i32_w]; rfl)
         refine pureS_ (i := 6) (N := some 75) (v := ?_) (a' := ?_) rfl rfl (by kernel_rfl) (fun _ _ _ h => h) (Or.inl ⟨by rfl, ?_⟩) ?_ ?_
         rotate_left; (· intro w'; go_simp; with_reducible rfl); rotate_left; (· simp only [Act.put, List.setIfInBounds_toArray, List.set_cons_zero, List.set_cons_succ, i64_w, i32_w]; rfl)
         refine pureS_ (i := 7) (N := some 76) (v := ?_) (a' := ?_) rfl rfl (by kernel_rfl) (fun _ _ _ h => h) (Or.inl ⟨by rfl, ?_⟩) ?_ ?_
         rotate_left; (· intro w'; go_simp; with_reducible rfl); rotate_left; (· simp only [Act.put, List.setIfInBounds_toArray, List.set_cons_zero, List.set_cons_succ, i64_w, i32_w]; rfl)
         refine pureS_ (i := 8) (N := some 77) (v := ?_) (a' := ?_) rfl rfl (by kernel_rfl) (fun _ _ _ h => h) (Or.inl ⟨by rfl, ?_⟩) ?_ ?_
         rotate_left; (· intro w'; go_simp; with_reducible rfl); rotate_left; (· simp only [Act.put, List.setIfInBounds_toArray, List.set_cons_zero, List.set_cons_succ, i64_w, i32_w]; rfl)
         refine pureS_ (i := 9) (N := some 78) (v := ?_) (a' := ?_) rfl rfl (by kernel_rfl) (fun _ _ _ h => h) (Or.inl ⟨by rfl, ?_⟩) ?_ ?_
         rotate_left; (· intro w'; go_simp; with_reducible rfl); rotate_left; (· simp only [Act.put, List.setIfInBounds_toArray, List.set_cons_zero, List.set_cons_succ, i64_w, i32_w]; rfl)
         refine takeS_ (i := 10) (N := some 79) (v := ?_) (a' := ?_) rfl rfl (by kernel_rfl) (fun _ _ _ h => h) (Or.inl ⟨by rfl, ?_⟩) hHeld ?_ ?_
         rotate_left; (· rintro w' ⟨s0, s1, s2, s3, s4, s5⟩; go_simp; with_reducible rfl); rotate_left; (· simp only [Act.put, List.setIfInBounds_toArray, List.set_cons_zero, List.set_cons_succ, i64_w, i32_w]; rfl)
         refine takeS_ (i := 11) (N := some 80) (v := ?_) (a' := ?_) rfl rfl (by kernel_rfl) (fun _ _ _ h => h) (Or.inl ⟨by rfl, ?_⟩) hHeld ?_ ?_
         rotate_left; (· rintro w' ⟨s0, s1, s2, s3, s4, s5⟩; go_simp; with_reducible rfl); rotate_left; (· simp only [Act.put, List.setIfInBounds_toArray, List.set_cons_zero, List.set_cons_succ, i64_w, i32_w]; rfl)
         refine oneS_ (i := 12) (N := some 81) rfl rfl (by kernel_rfl) (by decide) (fun K hK => ?_)
         refine goesv_ Try.func40 (by kernel_rfl) rfl #[.agg #[.int .i64 zl.f0, .string zl.f1, .string zl.f2], .agg #[.int .i64 y0, .string y1, .string y2]] (by rfl) rfl rfl (by rfl) (by first | rfl | (go_simp; done) | (simp; done)) ?_
         with_reducible refine (any_calls _ _ _ _ _ _ _).mono ?_
         rintro e W6_ ⟨rfl, hb⟩
         refine ⟨_, rfl, ?_⟩
         have HB6 := Aside0.mk hb
         refine hK.out _ _ ⟨(pw_cell_below hb l0_), (pw_cell_below hb l1_), (pw_cell_below hb l2_), (pw_cell_below hb x0_), (pw_cell_below hb x1_), (pw_cell_below hb x2_)⟩ (fun hHeld => ?_)
         clear hK K
         refine norm_ (a' := ?_) ?_ ?_
         rotate_left
         ·show Act.put _ (some 81) _ = _
          simp only [Act.put, List.setIfInBounds_toArray, List.set_cons_zero, List.set_cons_succ, i64_w, i32_w]
          rfl
         refine pureS_ (i := 13) (N := some 82) (v := ?_) (a' := ?_) rfl rfl (by kernel_rfl) (fun _ _ _ h => h) (Or.inl ⟨by rfl, ?_⟩) ?_ ?_
         rotate_left; (· intro w'; go_simp; with_reducible rfl); rotate_left; (· simp only [Act.put, List.setIfInBounds_toArray, List.set_cons_zero, List.set_cons_succ, i64_w, i32_w]; rfl)
         refine pureS_ (i := 14) (N := some 83) (v := ?_) (a' := ?_) rfl rfl (by kernel_rfl) (fun _ _ _ h => h) (Or.inl ⟨by rfl, ?_⟩) ?_ ?_
         rotate_left; (· intro w'; go_simp; with_reducible rfl); rotate_left; (· simp only [Act.put, List.setIfInBounds_toArray, List.set_cons_zero, List.set_cons_succ, i64_w, i32_w]; rfl)
         refine pureS_ (i := 15) (N := some 68) (v := ?_) (a' := ?_) rfl rfl (by kernel_rfl) (fun _ _ _ h => h) (Or.inl ⟨by rfl, ?_⟩) ?_ ?_
         rotate_left; (· intro w'; go_simp; with_reducible rfl); rotate_left; (· simp only [Act.put, List.setIfInBounds_toArray, List.set_cons_zero, List.set_cons_succ, i64_w, i32_w]; rfl)
         refine done_ (by kernel_rfl) ?_
         have hb' := HB6.out
         have Q6 := Aside0.mk (Q5.out.keep hxg (IsS55.below (IsS55.drew Q5.out.s) hb') (below_step (below_drew1 Q5.out.b) hb') ⟨hb'.size, fun k hk _ _ => hb'.block k hk⟩)
         clear hb hb' HB6 hHeld d2_ Q5 l0_ l1_ l2_ x0_ x1_ x2_
         clear hw i0 i1 i2 i3 b4 b5 b6 b7
         generalize W6_ = W6 at Q6 ⊢
         have x0_ : W6.cell? ⟨px, 0, none⟩ = some (.int .i64 y0) := (blk_cell Q6.out.x 0).trans rfl
         have x1_ : W6.cell? ⟨px, 1, none⟩ = some (.string y1) := (blk_cell Q6.out.x 1).trans rfl
         have x2_ : W6.cell? ⟨px, 2, none⟩ = some (.string y2) := (blk_cell Q6.out.x 2).trans rfl
         obtain rfl := AK.out
         clear AK
         by_cases hT : True
         case neg => exact absurd trivial hT
         case pos =>
          clear hT
          have A9 := Aside0.mk ((if_pos rfl).symm.trans A8.out)
          clear A8
          go_wp2_with ((at_builtin; refine Kd.R_append k38 (w0 := w0) w0.heap.size rfl (.tmp 85) (.tmp 87) 26 38 (.agg #[.int .i64 0, .string ⟨#[]⟩, .string ⟨#[]⟩]) 40 rfl Try.underlying26 info38 rfl (by decide) (by decide) (.slice (some ad) out.length c6) out (⟨y0, y1, y2⟩ : S38) [.int .i64 y0, .string y1, .string y2] (fun k => k ≠ g ∧ k ≠ px) (fun _ => False) ?aE rfl ?aP (fun _ h => h.elim) ?aF Q6.out.o Q6.out.b Q6.out.b.size (by omega) ?_; (case aE => first | rfl | (go_simp; done) | (simp; done)); (case aP => exact k38_mkM _ _ _ _); (case aF => exact fun k hk => by have h1 := Q6.out.s.lt; have h3 := blk_lt Q6.out.x; omega); intro v7 W7 HV7 HB7 hg7 hat7))
          have hgo : some g ≠ (Value.slice (some ad) out.length c6).ownBlock := fun e => (Q6.out.o.1 g e.symm).1 rfl
          have P7 : Aside0 (PT w0 W7 g t2 at2 v7 (out ++ [⟨y0, y1, y2⟩])) := ⟨⟨by have := Q6.out.s.grown hg7 hgo; rw [he] at this; exact this, HB7, Kd.R_mono HV7 (fun k hk => hk.1)⟩⟩
          clear HV7 HB7 hg7 hat7 Q6
          go_roundg k1
          case measure => have := HK1.out; omega
          case rel => exact ⟨t2, at2, _, out ++ [⟨y0, y1, y2⟩], rfl, A9, ⟨by have := HK1.out; omega⟩, by simp; omega, P7⟩
    ·have b0 : ((e2 : Int) == 0) = false := beq_eq_false_iff_ne.mpr he
     go_wp2_with fail
     refine start_ (n := 21) (S := fun w' => w'.cell? ⟨g, 0, none⟩ = some (.string t2) ∧ w'.cell? ⟨g, 1, none⟩ = some (.int .i64 at2) ∧ w'.cell? ⟨g, 2, none⟩ = some (.int .i64 e2)) (ds := []) #[false, false, false, false, false, false, false, false, false, false, false, false, false, false, false, false, false, false, false, false, false] (by kernel_rfl) rfl rfl ⟨c0_, c1_, c2_⟩ (fun hHeld => ?_)
     refine pureS_ (i := 0) (N := some 26) (v := ?_) (a' := ?_) rfl rfl (by kernel_rfl) (fun _ _ _ h => h) (Or.inl ⟨by rfl, ?_⟩) ?_ ?_
     rotate_left; (· intro w'; go_simp; with_reducible rfl); rotate_left; (· simp only [Act.put, List.setIfInBounds_toArray, List.set_cons_zero, List.set_cons_succ, i64_w, i32_w]; rfl)
     refine pureS_ (i := 1) (N := some 27) (v := ?_) (a' := ?_) rfl rfl (by kernel_rfl) (fun _ _ _ h => h) (Or.inl ⟨by rfl, ?_⟩) ?_ ?_
     rotate_left; (· intro w'; go_simp; with_reducible rfl); rotate_left; (· simp only [Act.put, List.setIfInBounds_toArray, List.set_cons_zero, List.set_cons_succ, i64_w, i32_w]; rfl)
     refine pureS_ (i := 2) (N := some 28) (v := ?_) (a' := ?_) rfl rfl (by kernel_rfl) (fun _ _ _ h => h) (Or.inl ⟨by rfl, ?_⟩) ?_ ?_
     rotate_left; (· intro w'; go_simp; with_reducible rfl); rotate_left; (· simp only [Act.put, List.setIfInBounds_toArray, List.set_cons_zero, List.set_cons_succ, i64_w, i32_w]; rfl)
     refine takeS_ (i := 3) (N := some 29) (v := ?_) (a' := ?_) rfl rfl (by kernel_rfl) (fun _ _ _ h => h) (Or.inl ⟨by rfl, ?_⟩) hHeld ?_ ?_
     rotate_left; (· rintro w' ⟨s0, s1, s2⟩; go_simp; with_reducible rfl); rotate_left; (· simp only [Act.put, List.setIfInBounds_toArray, List.set_cons_zero, List.set_cons_succ, i64_w, i32_w]; rfl)
     refine pureS_ (i := 4) (N := some 30) (v := ?_) (a' := ?_) rfl rfl (by kernel_rfl) (fun _ _ _ h => h) (Or.inl ⟨by rfl, ?_⟩) ?_ ?_
     rotate_left; (· intro w'; go_simp; with_reducible rfl); rotate_left; (· simp only [Act.put, List.setIfInBounds_toArray, List.set_cons_zero, List.set_cons_succ, i64_w, i32_w]; rfl)
     refine pureS_ (i := 5) (N := some 31) (v := ?_) (a' := ?_) rfl rfl (by kernel_rfl) (fun _ _ _ h => h) (Or.inl ⟨by rfl, ?_⟩) ?_ ?_
     rotate_left; (· intro w'; go_simp; with_reducible rfl); rotate_left; (· simp only [Act.put, List.setIfInBounds_toArray, List.set_cons_zero, List.set_cons_succ, i64_w, i32_w]; rfl)
     refine pureS_ (i := 6) (N := some 32) (v := undef) (a' := ?_) rfl rfl (by kernel_rfl) (fun _ _ _ h => h) (Or.inr ⟨by rfl, rfl⟩) ?_ ?_
     rotate_left
     ·simp only [Act.put, List.setIfInBounds_toArray, List.set_cons_zero, List.set_cons_succ, i64_w, i32_w]
      rfl
     refine pureS_ (i := 7) (N := some 33) (v := undef) (a' := ?_) rfl rfl (by kernel_rfl) (fun _ _ _ h => h) (Or.inr ⟨by rfl, rfl⟩) ?_ ?_
     rotate_left
     ·simp only [Act.put, List.setIfInBounds_toArray, List.set_cons_zero, List.set_cons_succ, i64_w, i32_w]
      rfl
     refine pureS_ (i := 8) (N := some 34) (v := ?_) (a' := ?_) rfl rfl (by kernel_rfl) (fun _ _ _ h => h) (Or.inl ⟨by rfl, ?_⟩) ?_ ?_
     rotate_left; (· intro w'; go_simp; with_reducible rfl); rotate_left; (· simp only [Act.put, List.setIfInBounds_toArray, List.set_cons_zero, List.set_cons_succ, i64_w, i32_w]; rfl)
     refine pureS_ (i := 9) (N := some 35) (v := ?_) (a' := ?_) rfl rfl (by kernel_rfl) (fun _ _ _ h => h) (Or.inl ⟨by rfl, ?_⟩) ?_ ?_
     rotate_left; (· intro w'; go_simp; with_reducible rfl); rotate_left; (· simp only [Act.put, List.setIfInBounds_toArray, List.set_cons_zero, List.set_cons_succ, i64_w, i32_w]; rfl)
     refine pureS_ (i := 10) (N := some 36) (v := undef) (a' := ?_) rfl rfl (by kernel_rfl) (fun _ _ _ h => h) (Or.inr ⟨by rfl, rfl⟩) ?_ ?_
     rotate_left
     ·simp only [Act.put, List.setIfInBounds_toArray, List.set_cons_zero, List.set_cons_succ, i64_w, i32_w]
      rfl
     refine pureS_ (i := 11) (N := some 37) (v := undef) (a' := ?_) rfl rfl (by kernel_rfl) (fun _ _ _ h => h) (Or.inr ⟨by rfl, rfl⟩) ?_ ?_
     rotate_left
     ·simp only [Act.put, List.setIfInBounds_toArray, List.set_cons_zero, List.set_cons_succ, i64_w, i32_w]
      rfl
     refine pureS_ (i := 12) (N := some 38) (v := undef) (a' := ?_) rfl rfl (by kernel_rfl) (fun _ _ _ h => h) (Or.inr ⟨by rfl, rfl⟩) ?_ ?_
     rotate_left
     ·simp only [Act.put, List.setIfInBounds_toArray, List.set_cons_zero, List.set_cons_succ, i64_w, i32_w]
      rfl
     refine pureS_ (i := 13) (N := some 39) (v := undef) (a' := ?_) rfl rfl (by kernel_rfl) (fun _ _ _ h => h) (Or.inr ⟨by rfl, rfl⟩) ?_ ?_
     rotate_left
     ·simp only [Act.put, List.setIfInBounds_toArray, List.set_cons_zero, List.set_cons_succ, i64_w, i32_w]
      rfl
     refine pureS_ (i := 14) (N := some 40) (v := undef) (a' := ?_) rfl rfl (by kernel_rfl) (fun _ _ _ h => h) (Or.inr ⟨by rfl, rfl⟩) ?_ ?_
     rotate_left
     ·simp only [Act.put, List.setIfInBounds_toArray, List.set_cons_zero, List.set_cons_succ, i64_w, i32_w]
      rfl
     refine pureS_ (i := 15) (N := some 41) (v := undef) (a' := ?_) rfl rfl (by kernel_rfl) (fun _ _ _ h => h) (Or.inr ⟨by rfl, rfl⟩) ?_ ?_
     rotate_left
     ·simp only [Act.put, List.setIfInBounds_toArray, List.set_cons_zero, List.set_cons_succ, i64_w, i32_w]
      rfl
     refine pureS_ (i := 16) (N := some 42) (v := undef) (a' := ?_) rfl rfl (by kernel_rfl) (fun _ _ _ h => h) (Or.inr ⟨by rfl, rfl⟩) ?_ ?_
     rotate_left
     ·simp only [Act.put, List.setIfInBounds_toArray, List.set_cons_zero, List.set_cons_succ, i64_w, i32_w]
      rfl
     refine pureS_ (i := 17) (N := some 43) (v := undef) (a' := ?_) rfl rfl (by kernel_rfl) (fun _ _ _ h => h) (Or.inr ⟨by rfl, rfl⟩) ?_ ?_
     rotate_left
     ·simp only [Act.put, List.setIfInBounds_toArray, List.set_cons_zero, List.set_cons_succ, i64_w, i32_w]
      rfl
     refine pureS_ (i := 18) (N := some 44) (v := undef) (a' := ?_) rfl rfl (by kernel_rfl) (fun _ _ _ h => h) (Or.inr ⟨by rfl, rfl⟩) ?_ ?_
     rotate_left
     ·simp only [Act.put, List.setIfInBounds_toArray, List.set_cons_zero, List.set_cons_succ, i64_w, i32_w]
      rfl
     refine pureS_ (i := 19) (N := some 45) (v := undef) (a' := ?_) rfl rfl (by kernel_rfl) (fun _ _ _ h => h) (Or.inr ⟨by rfl, rfl⟩) ?_ ?_
     rotate_left
     ·simp only [Act.put, List.setIfInBounds_toArray, List.set_cons_zero, List.set_cons_succ, i64_w, i32_w]
      rfl
     refine pureS_ (i := 20) (N := some 46) (v := ?_) (a' := ?_) rfl rfl (by kernel_rfl) (fun _ _ _ h => h) (Or.inl ⟨by rfl, ?_⟩) ?_ ?_
     rotate_left; (· intro w'; go_simp; with_reducible rfl); rotate_left; (· simp only [Act.put, List.setIfInBounds_toArray, List.set_cons_zero, List.set_cons_succ, i64_w, i32_w]; rfl)
     refine done_ (by kernel_rfl) ?_
     have Q5 := Aside0.mk (Q4.out.keep hxg (IsS55.drew Q4.out.s) (below_drew1 Q4.out.b) (keep_drew (KeepBut.refl _ _ _)))
     generalize W4.drew = W5 at Q5 hHeld ⊢
     clear hHeld c0_ c1_ c2_ Q4
     obtain ⟨q1, q2, q3⟩ : t2 = t3 ∧ at2 = at3 ∧ e2 = e3 := by
      have a3 := A3.out
      rw [if_neg (fun h => he h.1)] at a3
      simpa using a3
     rw [← q1, ← q2, ← q3] at H3
     clear q1 q2 q3 A3
     have he3 : e2 ≠ 0 := he
     have Q := Q5
     clear Q5 b0
     have H4 := H3.out
     rw [if_pos (show e2 ≠ 0 from he3)] at H4
     cases H4
     have d1_ : W5.cell? ⟨g, 1, none⟩ = some (.int .i64 r2) := (blk_cell Q.out.s.1 1).trans rfl
     have d2_ : W5.cell? ⟨g, 2, none⟩ = some (.int .i64 r3) := (blk_cell Q.out.s.1 2).trans rfl
     have b3 : ((r3 : Int) != 0) = true := by rw [bne_iff_ne]; exact he3
     go_wp2_with fail
     refine start_ (n := 11) (S := fun w' => w'.cell? ⟨g, 1, none⟩ = some (.int .i64 r2) ∧ w'.cell? ⟨g, 2, none⟩ = some (.int .i64 r3)) (ds := []) #[false, false, false, false, false, false, false, false, false, false, false] (by kernel_rfl) rfl rfl ⟨d1_, d2_⟩ (fun hHeld => ?_)
     refine pureS_ (i := 0) (N := some 55) (v := ?_) (a' := ?_) rfl rfl (by kernel_rfl) (fun _ _ _ h => h) (Or.inl ⟨by rfl, ?_⟩) ?_ ?_
     rotate_left; (· intro w'; go_simp; with_reducible rfl); rotate_left; (· simp only [Act.put, List.setIfInBounds_toArray, List.set_cons_zero, List.set_cons_succ, i64_w, i32_w]; rfl)
     refine pureS_ (i := 1) (N := some 56) (v := ?_) (a' := ?_) rfl rfl (by kernel_rfl) (fun _ _ _ h => h) (Or.inl ⟨by rfl, ?_⟩) ?_ ?_
     rotate_left; (· intro w'; go_simp; with_reducible rfl); rotate_left; (· simp only [Act.put, List.setIfInBounds_toArray, List.set_cons_zero, List.set_cons_succ, i64_w, i32_w]; rfl)
     refine pureS_ (i := 2) (N := some 57) (v := ?_) (a' := ?_) rfl rfl (by kernel_rfl) (fun _ _ _ h => h) (Or.inl ⟨by rfl, ?_⟩) ?_ ?_
     rotate_left; (· intro w'; go_simp; with_reducible rfl); rotate_left; (· simp only [Act.put, List.setIfInBounds_toArray, List.set_cons_zero, List.set_cons_succ, i64_w, i32_w]; rfl)
     refine pureS_ (i := 4) (N := some 59) (v := ?_) (a' := ?_) rfl rfl (by kernel_rfl) (fun _ _ _ h => h) (Or.inl ⟨by rfl, ?_⟩) ?_ ?_
     rotate_left; (· intro w'; go_simp; with_reducible rfl); rotate_left; (· simp only [Act.put, List.setIfInBounds_toArray, List.set_cons_zero, List.set_cons_succ, i64_w, i32_w]; rfl)
     refine pureS_ (i := 5) (N := some 60) (v := ?_) (a' := ?_) rfl rfl (by kernel_rfl) (fun _ _ _ h => h) (Or.inl ⟨by rfl, ?_⟩) ?_ ?_
     rotate_left; (· intro w'; go_simp; with_reducible rfl); rotate_left; (· simp only [Act.put, List.setIfInBounds_toArray, List.set_cons_zero, List.set_cons_succ, i64_w, i32_w]; rfl)
     refine pureS_ (i := 6) (N := some 61) (v := ?_) (a' := ?_) rfl rfl (by kernel_rfl) (fun _ _ _ h => h) (Or.inl ⟨by rfl, ?_⟩) ?_ ?_
     rotate_left; (· intro w'; go_simp; with_reducible rfl); rotate_left; (· simp only [Act.put, List.setIfInBounds_toArray, List.set_cons_zero, List.set_cons_succ, i64_w, i32_w]; rfl)
     refine pureS_ (i := 8) (N := some 6) (v := ?_) (a' := ?_) rfl rfl (by kernel_rfl) (fun _ _ _ h => h) (Or.inl ⟨by rfl, ?_⟩) ?_ ?_
     rotate_left; (· intro w'; go_simp; with_reducible rfl); rotate_left; (· simp only [Act.put, List.setIfInBounds_toArray, List.set_cons_zero, List.set_cons_succ, i64_w, i32_w]; rfl)
     refine takeS_ (i := 3) (N := some 58) (v := ?_) (a' := ?_) rfl rfl (by kernel_rfl) (fun _ _ _ h => h) (Or.inl ⟨by rfl, ?_⟩) hHeld ?_ ?_
     rotate_left; (· rintro w' ⟨s0, s1⟩; go_simp; with_reducible rfl); rotate_left; (· simp only [Act.put, List.setIfInBounds_toArray, List.set_cons_zero, List.set_cons_succ, i64_w, i32_w]; rfl)
     refine pureS_ (i := 9) (N := some 7) (v := ?_) (a' := ?_) rfl rfl (by kernel_rfl) (fun _ _ _ h => h) (Or.inl ⟨by rfl, ?_⟩) ?_ ?_
     rotate_left; (· intro w'; go_simp; with_reducible rfl); rotate_left; (· simp only [Act.put, List.setIfInBounds_toArray, List.set_cons_zero, List.set_cons_succ, i64_w, i32_w]; rfl)
     refine takeS_ (i := 7) (N := some 62) (v := ?_) (a' := ?_) rfl rfl (by kernel_rfl) (fun _ _ _ h => h) (Or.inl ⟨by rfl, ?_⟩) hHeld ?_ ?_
     rotate_left; (· rintro w' ⟨s0, s1⟩; go_simp; with_reducible rfl); rotate_left; (· simp only [Act.put, List.setIfInBounds_toArray, List.set_cons_zero, List.set_cons_succ, i64_w, i32_w]; rfl)
     refine pureS_ (i := 10) (N := some 8) (v := ?_) (a' := ?_) rfl rfl (by kernel_rfl) (fun _ _ _ h => h) (Or.inl ⟨by rfl, ?_⟩) ?_ ?_
     rotate_left; (· intro w'; go_simp; with_reducible rfl); rotate_left; (· simp only [Act.put, List.setIfInBounds_toArray, List.set_cons_zero, List.set_cons_succ, i64_w, i32_w]; rfl)
     refine done_ (by kernel_rfl) ?_
     go_wp2_with fail
     go_ret3
     exact ⟨_, rfl, Kd.R_nil _ _ _ _ _, below_drew1 Q.out.b⟩
end Go.Proofs.Ytfnfjkddlnnolaa.P
