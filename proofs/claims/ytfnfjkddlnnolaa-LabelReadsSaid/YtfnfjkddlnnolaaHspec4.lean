import Derived.Test.YtfnfjkddlnnolaaHspec3
namespace Go.Proofs.Ytfnfjkddlnnolaa.P
set_option linter.unusedVariables false
set_option linter.unusedSimpArgs false
open Go.RowKit Go.Proofs.YtfnfjkddlnnolaaW.PrintWords Go.Proofs.YtfnfjkddlnnolaaW.PrintLast Go.Proofs.YtfnfjkddlnnolaaW.PrintMore

theorem ref_letter (c : Int) : drayageref03_letter.f c = some (smaB c) := by
 unfold drayageref03_letter.f smaB
 by_cases h : 97 ≤ c
 ·rw [if_pos h, decide_eq_true h, Bool.true_and]
 ·rw [if_neg h, decide_eq_false h, Bool.false_and]
theorem ref_inside (c : Int) : drayageref03_inside.f c = some (insB c) := by
 unfold drayageref03_inside.f
 rw [ref_letter]
 simp only [Option.bind_some]
 unfold insB
 cases smaB c with
 | true => simp
 | false =>
  by_cases h1 : 48 ≤ c
  ·by_cases h2 : c ≤ 57
   ·simp [h1, h2]
   ·simp [h1, h2]; rfl
  ·simp [h1]; rfl
theorem ref_sign (t : ByteArray) (p : Nat) (c : Int) : drayageref03_sign.f t (p : Int) c = some (sgn t p c) := by
 unfold drayageref03_sign.f sgn
 by_cases h : p < t.size
 ·rw [if_pos (by omega), if_pos (by omega), decide_eq_true h, Bool.true_and]
 ·rw [if_neg (by omega), decide_eq_false h, Bool.false_and]
theorem wsm {a b : Int} (h : a = b) (h1 : -1000000000 ≤ b) (h2 : b ≤ 1000000000) : wrap64 a = b := by subst h; unfold wrap64; omega
theorem ref_j1 (t : ByteArray) (f q : Nat) (hf : f ≤ q) (hq : q ≤ t.size) (k : Nat) (hk : 2 ≤ k) : drayageref03_run.j1 k t (q : Int) (f : Int) = some ((fin t f q).x, ((fin t f q).at_ : Int), (fin t f q).e) := by
 obtain ⟨k, rfl⟩ : ∃ j, k = j + 2 := ⟨k - 2, by omega⟩
 by_cases h1 : f = q
 ·have e : fin t f q = ⟨⟨#[]⟩, q, if q = t.size then 3 else 4⟩ := by unfold fin; rw [if_pos (Or.inl h1)]
  rw [e, drayageref03_run.j1, if_pos (by omega), drayageref03_run.j2]
  by_cases h2 : q = t.size
  ·rw [if_pos (by rw [beq_iff_eq]; omega), if_pos h2]
  ·rw [if_neg (by rw [beq_iff_eq]; omega), if_pos (by omega), if_neg h2]
 ·rw [drayageref03_run.j1, if_neg (by omega), drayageref03_run.j2, if_neg (by simp), if_neg (by omega)]
  by_cases h2 : q < t.size
  ·rw [if_pos (by omega), if_pos (by omega), ref_inside, Option.bind_some]
   by_cases h3 : insB (gb t q) = true
   ·have e : fin t f q = ⟨⟨#[]⟩, q, if q = t.size then 3 else 4⟩ := by unfold fin; rw [if_pos (Or.inr ⟨h2, h3⟩)]
    rw [if_pos h3, e, if_neg (by omega)]
   ·have e : fin t f q = ⟨t.extract f q, q, 0⟩ := by
     unfold fin
     rw [if_neg (fun h => Or.elim h h1 (fun h => h3 h.2))]
    rw [if_neg h3, e, if_pos (by omega), if_pos (by omega), if_pos (by omega)]
    rfl
  ·have e : fin t f q = ⟨t.extract f q, q, 0⟩ := by
    unfold fin
    rw [if_neg (fun h => Or.elim h h1 (fun h => h2 h.1))]
   rw [if_neg (by omega), e, if_pos (by omega), if_pos (by omega), if_pos (by omega)]
   rfl
theorem sma_ins {c : Int} (h : smaB c = true) : insB c = true := by unfold insB; rw [h]; rfl
theorem ref_run_loop (t : ByteArray) (nm : Bool) (f : Nat) (hs : t.size ≤ 1000000) : ∀ (m k p : Nat), f ≤ p → p ≤ t.size → p + m = f + 15 → m + 3 ≤ k →
  drayageref03_run.l0 k t (p : Int) nm (f : Int) = some ((fin t f (p + rn t m (nm && decide (p = f)) p)).x, ((fin t f (p + rn t m (nm && decide (p = f)) p)).at_ : Int), (fin t f (p + rn t m (nm && decide (p = f)) p)).e) := by
 intro m
 induction m with
 | zero =>
  intro k p hf hp hm hk
  obtain ⟨k, rfl⟩ : ∃ j, k = j + 1 := ⟨k - 1, by omega⟩
  have hj := ref_j1 t f p hf hp k (by omega)
  have hr : rn t 0 (nm && decide (p = f)) p = 0 := rfl
  rw [hr, Nat.add_zero, drayageref03_run.l0]
  have hw : wrap64 ((f : Int) + 15) = (f : Int) + 15 := wsm rfl (by omega) (by omega)
  by_cases h1 : p < t.size
  ·rw [if_pos (by omega), if_pos (by omega), ref_inside, Option.bind_some, hw, if_pos (by omega : (p : Int) > (f : Int)), if_neg (by omega : ¬ (p : Int) < (f : Int) + 15)]
   split <;> exact hj
  ·rw [if_neg (by omega)]; exact hj
 | succ m ih =>
  intro k p hf hp hm hk
  obtain ⟨k, rfl⟩ : ∃ j, k = j + 1 := ⟨k - 1, by omega⟩
  have hj := ref_j1 t f p hf hp k (by omega)
  have hw : wrap64 ((f : Int) + 15) = (f : Int) + 15 := wsm rfl (by omega) (by omega)
  have hw1 : wrap64 ((p : Int) + 1) = ((p + 1 : Nat) : Int) := wsm (by omega) (by omega) (by omega)
  rw [drayageref03_run.l0]
  by_cases h1 : p < t.size
  ·have hi := ih k (p + 1) (by omega) h1 (by omega) (by omega)
   have hb : (nm && decide (p + 1 = f)) = false := by rw [decide_eq_false (by omega), Bool.and_false]
   rw [hb] at hi
   rw [if_pos (by omega), if_pos (by omega), ref_inside, Option.bind_some, hw, hw1, if_pos (by omega : (p : Int) < (f : Int) + 15)]
   have hgo : ∀ b : Bool, fB b (gb t p) = true → p + 1 + rn t m false (p + 1) = p + rn t (m + 1) b p := by
    intro b hb
    conv => rhs; unfold rn
    rw [if_pos ⟨h1, hb⟩]; omega
   have hst : ∀ b : Bool, fB b (gb t p) ≠ true → p + rn t (m + 1) b p = p := by
    intro b hb
    unfold rn
    rw [if_neg (fun h => hb h.2)]; rfl
   by_cases h2 : insB (gb t p) = true
   ·rw [if_pos h2]
    by_cases h3 : p = f
    ·rw [if_neg (by omega), decide_eq_true h3, Bool.and_true]
     cases nm with
     | true =>
      rw [if_pos rfl, ref_letter, Option.bind_some]
      by_cases h4 : smaB (gb t p) = true
      ·rw [if_pos h4, ← hgo true h4]; exact hi
      ·rw [if_neg h4, hst true h4]; exact hj
     | false => rw [if_neg (by simp), ← hgo false h2]; exact hi
    ·rw [if_pos (by omega), decide_eq_false h3, Bool.and_false, ← hgo false h2]; exact hi
   ·rw [if_neg h2, hst _ (fun h => h2 (by
     cases hb2 : (nm && decide (p = f)) with
     | true => rw [hb2] at h; exact sma_ins h
     | false => rw [hb2] at h; exact h))]
    exact hj
  ·have hst : p + rn t (m + 1) (nm && decide (p = f)) p = p := by
    unfold rn
    rw [if_neg (fun h => h1 h.1)]; rfl
   rw [if_neg (by omega), hst]; exact hj
theorem ref_run (t : ByteArray) (nm : Bool) (p : Nat) (hp : p ≤ t.size) (hs : t.size ≤ 1000000) (k : Nat) (hk : 18 ≤ k) : drayageref03_run.f k t (p : Int) nm = some ((runS t nm p).x, ((runS t nm p).at_ : Int), (runS t nm p).e) := by
 unfold drayageref03_run.f
 rw [ref_run_loop t nm p hs 15 k p (Nat.le_refl _) hp rfl hk, decide_eq_true rfl, Bool.and_true]
 rfl
def SaidR (o : Option (Int × ByteArray × ByteArray × Int × Int)) : OneP S38 → Prop
 | .bad a e => e ≠ 0 ∧ ∃ x y z, o = some (x, y, z, (a : Int), e)
 | .good x q => o = some (x.f0, x.f1, x.f2, (q : Int), 0)
def toT : OneP S43 → OneP S38
 | .bad a e => .bad a e
 | .good x q => .good ⟨1, x.f0, x.f1⟩ q
theorem ref_j3 (t : ByteArray) (star : Bool) (kind : Int) (key v0 : ByteArray) (p : Nat) (hp : p ≤ t.size) (hs : t.size ≤ 1000000) (k : Nat) (hk : 19 ≤ k) :
  (star = true → kind = 1 → SaidR (drayageref03_part.j3 k t (p : Int) true kind key v0) (toT (valS t true key p))) ∧ SaidR (drayageref03_part.j3 k t (p : Int) false kind key v0) (terV t kind key p) := by
 obtain ⟨k, rfl⟩ : ∃ j, k = j + 1 := ⟨k - 1, by omega⟩
 constructor
 ·intro _ hk1
  subst hk1
  rw [drayageref03_part.j3, if_pos rfl, ref_sign, Option.bind_some]
  unfold valS
  rw [Bool.true_and]
  by_cases h : sgn t p 42 = true
  ·have := sgn_lt h
   rw [if_pos h, if_pos h, wsm (b := ((p + 1 : Nat) : Int)) (by omega) (by omega) (by omega)]; rfl
  ·rw [if_neg h, if_neg h, ref_run t false p hp hs k (by omega), Option.bind_some]
   by_cases h2 : (runS t false p).e = 0
   ·rw [if_pos h2, h2]; rfl
   ·rw [if_neg h2]; exact ⟨h2, _, _, _, rfl⟩
 ·rw [drayageref03_part.j3, if_neg (by simp), ref_run t false p hp hs k (by omega), Option.bind_some]
  unfold terV
  by_cases h2 : (runS t false p).e = 0
  ·rw [if_pos h2, h2]; rfl
  ·rw [if_neg h2]; exact ⟨h2, _, _, _, rfl⟩
theorem terV_valS (t : ByteArray) (key : ByteArray) (p : Nat) : terV t 1 key p = toT (valS t false key p) := by
 unfold terV valS
 rw [Bool.false_and]
 by_cases h : (runS t false p).e = 0
 ·rw [if_pos h, if_pos h]; rfl
 ·rw [if_neg h, if_neg h]; rfl
theorem ref_lab (t : ByteArray) (star : Bool) (p : Nat) (hp : p ≤ t.size) (hs : t.size ≤ 1000000) (k : Nat) (hk : 22 ≤ k) : SaidR (drayageref03_part.f k t (p : Int) true star) (toT (labS t star p)) := by
 obtain ⟨k, rfl⟩ : ∃ j, k = j + 3 := ⟨k - 3, by omega⟩
 unfold drayageref03_part.f labS
 have hz := runS_size t true p hp
 rw [ref_sign, Option.bind_some]
 have e0 : (if sgn t p 33 = true then drayageref03_part.j0 (k + 3) t (p : Int) true star (!true) else drayageref03_part.j0 (k + 3) t (p : Int) true star false) = drayageref03_part.j0 (k + 3) t (p : Int) true star false := by split <;> rfl
 rw [e0, drayageref03_part.j0, if_neg (by simp), ref_run t true p hp hs _ (by omega), Option.bind_some]
 dsimp only
 by_cases h : (runS t true p).e = 0
 ·rw [if_pos h, if_pos h, ref_sign, Option.bind_some]
  have e1 : (if sgn t (runS t true p).at_ 33 = true then drayageref03_part.j1 (k + 2) t ((runS t true p).at_ : Int) true star (!true) 3 (runS t true p).x ⟨#[]⟩ else drayageref03_part.j1 (k + 2) t ((runS t true p).at_ : Int) true star false 3 (runS t true p).x ⟨#[]⟩) = drayageref03_part.j1 (k + 2) t ((runS t true p).at_ : Int) true star false 3 (runS t true p).x ⟨#[]⟩ := by split <;> rfl
  rw [e1, drayageref03_part.j1, if_neg (by simp), ref_sign, Option.bind_some]
  by_cases h2 : sgn t (runS t true p).at_ 61 = true
  ·have hl := sgn_lt h2
   rw [if_pos h2, if_pos h2, wsm (b := (((runS t true p).at_ + 1 : Nat) : Int)) (by omega) (by omega) (by omega)]
   have h3 := ref_j3 t star 1 (runS t true p).x ⟨#[]⟩ ((runS t true p).at_ + 1) hl hs (k + 1) (by omega)
   cases star with
   | true => exact h3.1 rfl rfl
   | false => rw [← terV_valS]; exact h3.2
  ·rw [if_neg h2, if_neg h2, if_pos rfl, drayageref03_part.j2]
   refine ⟨failE_ne _ _, ?_⟩
   unfold failE
   by_cases h3 : (runS t true p).at_ = t.size
   ·rw [if_pos (by rw [beq_iff_eq]; omega), if_pos h3]; exact ⟨_, _, _, rfl⟩
   ·rw [if_neg (by rw [beq_iff_eq]; omega), if_pos rfl, if_neg h3]; exact ⟨_, _, _, rfl⟩
 ·rw [if_neg h, if_neg h]
  exact ⟨h, _, _, _, rfl⟩
theorem ref_ter (t : ByteArray) (p : Nat) (hp : p ≤ t.size) (hs : t.size ≤ 1000000) (k : Nat) (hk : 22 ≤ k) : SaidR (drayageref03_part.f k t (p : Int) false false) (terS t p) := by
 obtain ⟨k, rfl⟩ : ∃ j, k = j + 3 := ⟨k - 3, by omega⟩
 unfold drayageref03_part.f terS
 have hz := runS_size t true p hp
 rw [ref_sign, Option.bind_some]
 by_cases h0 : sgn t p 33 = true
 ·have hl := sgn_lt h0
  rw [if_pos h0, if_pos h0, drayageref03_part.j0, if_pos (by decide : (!false) = true), wsm (b := ((p + 1 : Nat) : Int)) (by omega) (by omega) (by omega), ref_run t true (p + 1) hl hs _ (by omega), Option.bind_some]
  by_cases h : (runS t true (p + 1)).e = 0
  ·rw [if_pos h, h]; rfl
  ·rw [if_neg h]; exact ⟨h, _, _, _, rfl⟩
 ·rw [if_neg h0, if_neg h0, drayageref03_part.j0, if_neg (by simp), ref_run t true p hp hs _ (by omega), Option.bind_some]
  dsimp only
  by_cases h : (runS t true p).e = 0
  ·rw [if_pos h, if_pos h, ref_sign, Option.bind_some]
   by_cases h1 : sgn t (runS t true p).at_ 33 = true
   ·have hl := sgn_lt h1
    have hn : ¬ sgn t (runS t true p).at_ 61 = true := by
     unfold sgn at h1 ⊢
     simp only [Bool.and_eq_true, decide_eq_true_eq, beq_iff_eq] at h1 ⊢
     omega
    rw [if_pos h1, if_neg hn, if_pos h1, drayageref03_part.j1, if_pos (by decide : (!false) = true), wsm (b := (((runS t true p).at_ + 1 : Nat) : Int)) (by omega) (by omega) (by omega)]
    by_cases h2 : (runS t true p).at_ + 1 = t.size
    ·have hn2 : ¬ sgn t ((runS t true p).at_ + 1) 61 = true := fun h => by have := sgn_lt h; omega
     rw [if_pos (by omega), if_neg hn2]
     refine ⟨failE_ne _ _, ?_⟩
     unfold failE
     rw [if_pos h2]
     exact ⟨_, _, _, rfl⟩
    ·rw [if_neg (by omega), ref_sign, Option.bind_some]
     by_cases h3 : sgn t ((runS t true p).at_ + 1) 61 = true
     ·have hl3 := sgn_lt h3
      rw [if_pos h3, if_pos h3, wsm (b := (((runS t true p).at_ + 2 : Nat) : Int)) (by omega) (by omega) (by omega)]
      exact (ref_j3 t false 2 (runS t true p).x ⟨#[]⟩ ((runS t true p).at_ + 2) hl3 hs (k + 1) (by omega)).2
     ·rw [if_neg h3, if_neg h3]
      refine ⟨failE_ne _ _, ?_⟩
      unfold failE
      rw [if_neg h2]
      exact ⟨_, _, _, rfl⟩
   ·rw [if_neg h1, if_neg h1, drayageref03_part.j1, if_neg (by simp), ref_sign, Option.bind_some]
    by_cases h2 : sgn t (runS t true p).at_ 61 = true
    ·have hl := sgn_lt h2
     rw [if_pos h2, if_pos h2, wsm (b := (((runS t true p).at_ + 1 : Nat) : Int)) (by omega) (by omega) (by omega)]
     exact (ref_j3 t false 1 (runS t true p).x ⟨#[]⟩ ((runS t true p).at_ + 1) hl hs (k + 1) (by omega)).2
    ·rw [if_neg h2, if_neg h2, if_neg (by simp), drayageref03_part.j2, if_neg (by simp), if_neg (by simp)]
     rfl
  ·rw [if_neg h, if_neg h]
   exact ⟨h, _, _, _, rfl⟩
end Go.Proofs.Ytfnfjkddlnnolaa.P
