import Derived.Test.YtfnfjkddlnnolaaPf4
import Derived.Test.YtfnfjkddlnnolaaPf18
import Derived.Test.YtfnfjkddlnnolaaHlabels
import Derived.Test.YtfnfjkddlnnolaaPf25
import Derived.Test.YtfnfjkddlnnolaaPf28
import Derived.Test.YtfnfjkddlnnolaaHcheck
import Derived.Test.YtfnfjkddlnnolaaHprint
import Derived.Test.YtfnfjkddlnnolaaPf15
import Derived.Test.YtfnfjkddlnnolaaHread
import Derived.Test.YtfnfjkddlnnolaaPf13
namespace Go.Proofs.Ytfnfjkddlnnolaa.P
set_option linter.unusedVariables false
set_option linter.unusedSimpArgs false
open Go.RowKit Go.Proofs.YtfnfjkddlnnolaaW.PrintWords Go.Proofs.YtfnfjkddlnnolaaW.PrintLast Go.Proofs.YtfnfjkddlnnolaaW.PrintMore
structure Got where
 x : ByteArray
 at_ : Nat
 e : Int
theorem gb_at (s : ByteArray) (p : Nat) (h : p < s.size) : gb s p = ((s[p]'h).toNat : Int) := by
 have := bt_at s (p : Int) (by simpa using h)
 unfold gb
 simpa using this.symm
inductive OneP (α : Type) where
 | bad (a : Nat) (e : Int)
 | good (x : α) (q : Nat)
end Go.Proofs.Ytfnfjkddlnnolaa.P
namespace Go.Proofs.Ytfnfjkddlnnolaa.P
set_option linter.unusedVariables false
set_option linter.unusedSimpArgs false
open Go.RowKit Go.Proofs.YtfnfjkddlnnolaaW.PrintWords Go.Proofs.YtfnfjkddlnnolaaW.PrintLast Go.Proofs.YtfnfjkddlnnolaaW.PrintMore
end Go.Proofs.Ytfnfjkddlnnolaa.P
namespace Go.Proofs.Ytfnfjkddlnnolaa.P
set_option linter.unusedVariables false
set_option linter.unusedSimpArgs false
open Go.RowKit Go.Proofs.YtfnfjkddlnnolaaW.PrintWords Go.Proofs.YtfnfjkddlnnolaaW.PrintLast Go.Proofs.YtfnfjkddlnnolaaW.PrintMore

theorem cmp_cases : ∀ (a b : List UInt8), (Lib.compareBytes a b = -1 ∧ Op.bytesLess a b = true ∧ a ≠ b) ∨ (Lib.compareBytes a b = 1 ∧ Op.bytesLess a b = false ∧ a ≠ b) ∨ (Lib.compareBytes a b = 0 ∧ Op.bytesLess a b = false ∧ a = b)
 | [], [] => Or.inr (Or.inr ⟨rfl, rfl, rfl⟩)
 | [], _ :: _ => Or.inl ⟨rfl, rfl, by simp⟩
 | _ :: _, [] => Or.inr (Or.inl ⟨rfl, rfl, by simp⟩)
 | x :: a, y :: b => by
  have ih := cmp_cases a b
  unfold Lib.compareBytes Op.bytesLess
  by_cases h1 : x < y
  ·left
   rw [if_pos h1, decide_eq_true h1]
   exact ⟨rfl, rfl, fun e => by cases e; exact absurd h1 (UInt8.lt_irrefl _)⟩
  ·rw [if_neg h1, decide_eq_false h1, Bool.false_or]
   by_cases h2 : y < x
   ·right; left
    rw [if_pos h2]
    have hne : x ≠ y := fun e => by subst e; exact absurd h2 (UInt8.lt_irrefl _)
    refine ⟨rfl, ?_, fun e => hne (by cases e; rfl)⟩
    rw [beq_eq_false_iff_ne.2 hne]; rfl
   ·rw [if_neg h2]
    have he : x = y := by
     apply UInt8.toNat_inj.1
     have h3 := UInt8.not_lt.1 h1
     have h4 := UInt8.not_lt.1 h2
     rw [UInt8.le_iff_toNat_le] at h3 h4
     omega
    subst he
    rw [beq_self_eq_true, Bool.true_and]
    rcases ih with ⟨h3, h4, h5⟩ | ⟨h3, h4, h5⟩ | ⟨h3, h4, h5⟩
    ·exact Or.inl ⟨h3, h4, fun e => h5 (by cases e; rfl)⟩
    ·exact Or.inr (Or.inl ⟨h3, h4, fun e => h5 (by cases e; rfl)⟩)
    ·exact Or.inr (Or.inr ⟨h3, h4, by rw [h5]⟩)
def riseB (star : Bool) (k1 v1 k2 v2 : ByteArray) : Bool := Op.bytesLess k1.data.toList k2.data.toList || (star && (k1.data.toList == k2.data.toList && Op.bytesLess v1.data.toList v2.data.toList))
def riseL (star : Bool) (a b : S43) : Bool := riseB star a.f0 a.f1 b.f0 b.f1
end Go.Proofs.Ytfnfjkddlnnolaa.P
namespace Go.Proofs.Ytfnfjkddlnnolaa.P
set_option linter.unusedVariables false
set_option linter.unusedSimpArgs false
open Go.RowKit Go.Proofs.YtfnfjkddlnnolaaW.PrintWords Go.Proofs.YtfnfjkddlnnolaaW.PrintLast Go.Proofs.YtfnfjkddlnnolaaW.PrintMore
theorem wsm {a b : Int} (h : a = b) (h1 : -1000000000 ≤ b) (h2 : b ≤ 1000000000) : wrap64 a = b := by subst h; unfold wrap64; omega
end Go.Proofs.Ytfnfjkddlnnolaa.P
namespace Go.Proofs.Ytfnfjkddlnnolaa.P
set_option linter.unusedVariables false
set_option linter.unusedSimpArgs false
open Go.RowKit Go.Proofs.YtfnfjkddlnnolaaW.PrintWords Go.Proofs.YtfnfjkddlnnolaaW.PrintLast Go.Proofs.YtfnfjkddlnnolaaW.PrintMore
end Go.Proofs.Ytfnfjkddlnnolaa.P
namespace Go.Proofs.Ytfnfjkddlnnolaa.P
set_option linter.unusedVariables false
set_option linter.unusedSimpArgs false
open Go.RowKit Go.Proofs.YtfnfjkddlnnolaaW.PrintWords Go.Proofs.YtfnfjkddlnnolaaW.PrintLast Go.Proofs.YtfnfjkddlnnolaaW.PrintMore
theorem idx_none (s : ByteArray) (h : ∀ i, i < s.size → insB (gb s i) = true) : ∀ (f p : Nat), Lib.idxFuncFrom outN true s f p = -1
 | 0, _ => rfl
 | f + 1, p => by
  unfold Lib.idxFuncFrom
  by_cases hp : p < s.size
  ·have h1 := ascii_fB false s p hp
   have h2 : fB false (gb s p) = true := h p hp
   have h3 : insB (((Utf8.decode s p).1 : Nat) : Int) = true := by
    have := h1.1
    rw [h2] at this
    exact this
   rw [if_pos hp, if_neg (by unfold outN; rw [h3]; decide)]
   exact idx_none s h f _
  ·rw [if_neg hp]
theorem valB_of (s : ByteArray) (h0 : s.size ≠ 0) (h1 : s.size ≤ 15) (h : ∀ i, i < s.size → insB (gb s i) = true) : valB s = true := by
 have e : s.toList.isEmpty = false := by
  rw [ByteArray.toList_eq, Bool.eq_false_iff]
  intro h
  exact h0 (List.length_eq_zero_iff.2 (List.isEmpty_iff.1 h))
 unfold valB Lib.idxFunc
 rw [idx_none s h, e, decide_eq_true (by omega)]
 decide
theorem name_of (s : ByteArray) (h : valB s = true) (h0 : s.size ≠ 0) (h1 : smaB (gb s 0) = true) : label_Name.f s = some true := by
 unfold label_Name.f label_Value.f
 rw [h, Option.bind_some, if_pos rfl, if_pos (by omega), small_f]
 have : wrap32 (bt s 0) = gb s 0 := by
  have h2 := bt_range s 0
  show wrap32 (bt s 0) = bt s ((0 : Nat) : Int)
  rw [show ((0 : Nat) : Int) = 0 from rfl]
  unfold wrap32
  omega
 rw [this, h1]
 rfl
def goodT (x : S38) : Prop := label_Name.f x.f1 = some true ∧ 1 ≤ x.f0 ∧ x.f0 ≤ 4 ∧ ((x.f0 = 1 ∨ x.f0 = 2) ∧ valB x.f2 = true ∨ (x.f0 = 3 ∨ x.f0 = 4) ∧ x.f2 = ⟨#[]⟩) ∧ x.f1.size ≤ 15 ∧ x.f2.size ≤ 15
end Go.Proofs.Ytfnfjkddlnnolaa.P
namespace Go.Proofs.Ytfnfjkddlnnolaa.P
set_option linter.unusedVariables false
set_option linter.unusedSimpArgs false
open Go.RowKit Go.Proofs.YtfnfjkddlnnolaaW.PrintWords Go.Proofs.YtfnfjkddlnnolaaW.PrintLast Go.Proofs.YtfnfjkddlnnolaaW.PrintMore
theorem rd43_get (xs : List S43) (i : Nat) (h : i < xs.length) : rd_T43 xs (i : Int) = xs[i] := by
 unfold rd_T43
 rw [Int.toNat_natCast, List.getD_eq_getElem?_getD, List.getElem?_eq_getElem h]
 rfl
theorem rd38_get (xs : List S38) (i : Nat) (h : i < xs.length) : rd_T38 xs (i : Int) = xs[i] := by
 unfold rd_T38
 rw [Int.toNat_natCast, List.getD_eq_getElem?_getD, List.getElem?_eq_getElem h]
 rfl
end Go.Proofs.Ytfnfjkddlnnolaa.P
namespace Go.Proofs.Ytfnfjkddlnnolaa.P
set_option linter.unusedVariables false
set_option linter.unusedSimpArgs false
open Go.RowKit Go.Proofs.YtfnfjkddlnnolaaW.PrintWords Go.Proofs.YtfnfjkddlnnolaaW.PrintLast Go.Proofs.YtfnfjkddlnnolaaW.PrintMore
def Runs (b : Bool) (s : ByteArray) : Prop := s.size ≠ 0 ∧ s.size ≤ 15 ∧ (∀ i (h : i < s.data.toList.length), insB ((s.data.toList[i]).toNat : Int) = true) ∧ (b = true → ∀ c r, s.data.toList = c :: r → smaB (c.toNat : Int) = true)
theorem runs_head {b : Bool} {s : ByteArray} (h : Runs b s) : ∃ c q, s.data.toList = c :: q ∧ insB (c.toNat : Int) = true ∧ (b = true → smaB (c.toNat : Int) = true) := by
 have e : s.data.toList.length = s.size := rfl
 cases hq : s.data.toList with
 | nil => rw [hq] at e; have := h.1; simp at e; omega
 | cons c q =>
  refine ⟨c, q, rfl, ?_, fun hb => h.2.2.2 hb c q hq⟩
  have := h.2.2.1 0 (by rw [hq]; simp)
  simpa only [hq, List.getElem_cons_zero] using this
def MayT (x : S38) : Prop := Runs true x.f1 ∧ ((x.f0 = 1 ∨ x.f0 = 2) ∧ Runs false x.f2 ∨ (x.f0 = 3 ∨ x.f0 = 4) ∧ x.f2 = ⟨#[]⟩)
end Go.Proofs.Ytfnfjkddlnnolaa.P
namespace Go.Proofs.Ytfnfjkddlnnolaa.P
set_option linter.unusedVariables false
set_option linter.unusedSimpArgs false
open Go.RowKit Go.Proofs.YtfnfjkddlnnolaaW.PrintWords Go.Proofs.YtfnfjkddlnnolaaW.PrintLast Go.Proofs.YtfnfjkddlnnolaaW.PrintMore

theorem runs_small (o : Nat) (h : o < 8) : Runs true (smalls.getD o ⟨#[]⟩) := by
 match o, h with
 | 0, _ | 1, _ | 2, _ | 3, _ | 4, _ | 5, _ | 6, _ | 7, _ => exact ⟨by decide, by decide, by decide +kernel, fun _ c r e => by cases e; rfl⟩
theorem runs_value (o : Nat) (h : o < 6) : Runs false (values.getD o ⟨#[]⟩) := by
 match o, h with
 | 0, _ | 1, _ | 2, _ | 3, _ | 4, _ | 5, _ => exact ⟨by decide, by decide, by decide +kernel, fun h => by cases h⟩
theorem runs_smaT (a : Int) : Runs true (smaT a) := by
 have hb := brn_bd a 8 (by decide)
 exact runs_small _ (by omega)
theorem runs_valT (a : Int) : Runs false (valT a) := by
 have hb := brn_bd a 6 (by decide)
 exact runs_value _ (by omega)
theorem hasA_may (l : List S35) : ∀ (k : Nat), ∀ x ∈ hasA l k, x = ⟨#[]⟩ ∨ Runs false x
 | 0, x, h => by
  unfold hasA at h
  simp only [List.mem_cons, List.not_mem_nil, or_false, or_self] at h
  exact Or.inl h
 | k + 1, x, h => by
  unfold hasA at h
  rcases List.mem_or_eq_of_mem_set h with h | h
  ·exact hasA_may l k x h
  ·rw [h]; exact Or.inr (runs_valT _)
theorem names_rise : ∀ j, j < 8 → ∀ i, i < j → Op.bytesLess (smalls.getD (ord.getD i 0) ⟨#[]⟩).data.toList (smalls.getD (ord.getD j 0) ⟨#[]⟩).data.toList = true := by decide +kernel
theorem outL_all (h : List ByteArray) (hh : ∀ x ∈ h, x = ⟨#[]⟩ ∨ Runs false x) : ∀ k, k ≤ 8 → (∀ x ∈ outL h k, (∃ i, i < k ∧ x.f0 = smalls.getD (ord.getD i 0) ⟨#[]⟩) ∧ Runs false x.f1) ∧ (outL h k).Pairwise (fun a b => riseL false a b = true) ∧ (outL h k).length ≤ 6
 | 0, _ => ⟨fun x hx => (by cases hx), List.Pairwise.nil, Nat.zero_le _⟩
 | k + 1, hk => by
  obtain ⟨h1, h2, h3⟩ := outL_all h hh k (by omega)
  by_cases hc : (h.getD (ord.getD k 0) ⟨#[]⟩).toList ≠ [] ∧ (outL h k).length < 6
  ·rw [outL_add hc]
   have hv : Runs false (h.getD (ord.getD k 0) ⟨#[]⟩) := by
    have hmem : h.getD (ord.getD k 0) ⟨#[]⟩ = ⟨#[]⟩ ∨ h.getD (ord.getD k 0) ⟨#[]⟩ ∈ h := by
     rw [List.getD_eq_getElem?_getD]
     by_cases hi : ord.getD k 0 < h.length
     ·rw [List.getElem?_eq_getElem hi]; exact Or.inr (List.getElem_mem hi)
     ·rw [List.getElem?_eq_none (by omega)]; exact Or.inl rfl
    have hne : h.getD (ord.getD k 0) ⟨#[]⟩ ≠ ⟨#[]⟩ := by
     intro e
     apply hc.1
     rw [e, ByteArray.toList_eq]
    rcases hmem with e | e
    ·exact absurd e hne
    ·exact (hh _ e).resolve_left hne
   refine ⟨fun x hx => ?_, ?_, by simp only [List.length_append, List.length_singleton]; omega⟩
   ·rcases List.mem_append.1 hx with hx | hx
    ·obtain ⟨⟨i, hi, e⟩, hr⟩ := h1 x hx
     exact ⟨⟨i, by omega, e⟩, hr⟩
    ·rw [List.mem_singleton] at hx
     subst hx
     exact ⟨⟨k, by omega, rfl⟩, hv⟩
   ·rw [List.pairwise_append]
    refine ⟨h2, List.pairwise_singleton _ _, fun a ha b hb => ?_⟩
    rw [List.mem_singleton] at hb
    subst hb
    obtain ⟨⟨i, hi, e⟩, _⟩ := h1 a ha
    unfold riseL riseB
    rw [e, names_rise k (by omega) i hi]
    rfl
  ·rw [outL_skip hc]
   exact ⟨fun x hx => by obtain ⟨⟨i, hi, e⟩, hr⟩ := h1 x hx; exact ⟨⟨i, by omega, e⟩, hr⟩, h2, h3⟩
def MayL (x : S43) : Prop := Runs true x.f0 ∧ Runs false x.f1
def outs (l : List S35) : List S43 := outL (hasA l l.length) 8
theorem outs_may (l : List S35) : (∀ x ∈ outs l, MayL x) ∧ (outs l).Pairwise (fun a b => riseL false a b = true) ∧ (outs l).length ≤ 6 := by
 obtain ⟨h1, h2, h3⟩ := outL_all (hasA l l.length) (hasA_may l l.length) 8 (by omega)
 refine ⟨fun x hx => ?_, h2, h3⟩
 obtain ⟨⟨i, hi, e⟩, hr⟩ := h1 x hx
 refine ⟨?_, hr⟩
 rw [e]
 exact runs_small _ (ord_lt i)
theorem runs_gb {b : Bool} {s : ByteArray} (h : Runs b s) : ∀ i, i < s.size → insB (gb s i) = true := by
 intro i hi
 rw [gb_at s i hi]
 exact h.2.2.1 i hi
theorem runs_val {b : Bool} {s : ByteArray} (h : Runs b s) : valB s = true := valB_of s h.1 h.2.1 (runs_gb h)
theorem runs_name {s : ByteArray} (h : Runs true s) : label_Name.f s = some true := by
 refine name_of s (runs_val h) h.1 ?_
 obtain ⟨c, q, hc, _, hs⟩ := runs_head h
 have h0 := h.1
 rw [gb_at s 0 (by omega)]
 have e : s[0]'(by omega) = s.data.toList[0]'(by rw [hc]; simp) := rfl
 rw [e]
 simp only [hc]
 exact hs rfl
theorem mayT_good {x : S38} (h : MayT x) : goodT x := by
 obtain ⟨h1, h2⟩ := h
 refine ⟨runs_name h1, by omega, by omega, ?_, h1.2.1, ?_⟩
 ·rcases h2 with ⟨hk, hv⟩ | h2
  ·exact Or.inl ⟨hk, runs_val hv⟩
  ·exact Or.inr h2
 ·rcases h2 with ⟨hk, hv⟩ | ⟨_, h2⟩
  ·exact hv.2.1
  ·rw [h2]; exact Nat.zero_le _
def termOf (x : S35) : S38 := ⟨1 + brn x.f2 4, smaT x.f0, if 1 + brn x.f2 4 = 1 ∨ 1 + brn x.f2 4 = 2 then valT x.f1 else ⟨#[]⟩⟩
theorem term_fT (x : S35) : drayagelaw03_term.f x.f0 x.f1 x.f2 = some ((termOf x).f0, (termOf x).f1, (termOf x).f2) := by
 have hb := brn_bd x.f2 4 (by decide)
 unfold drayagelaw03_term.f termOf
 rw [bring_f x.f2 4 (by decide) (by decide), Option.bind_some, small_fT, Option.bind_some, wsm (b := 1 + brn x.f2 4) rfl (by omega) (by omega)]
 dsimp only
 by_cases h1 : 1 + brn x.f2 4 = 1
 ·rw [if_pos h1, value_fT, Option.bind_some, if_pos (Or.inl h1)]
 ·rw [if_neg h1]
  by_cases h2 : 1 + brn x.f2 4 = 2
  ·rw [if_pos h2, value_fT, Option.bind_some, if_pos (Or.inr h2)]
  ·rw [if_neg h2, if_neg (fun h => h.elim h1 h2)]
theorem termOf_may (x : S35) : MayT (termOf x) := by
 have hb := brn_bd x.f2 4 (by decide)
 refine ⟨runs_smaT _, ?_⟩
 unfold termOf
 dsimp only
 by_cases h : 1 + brn x.f2 4 = 1 ∨ 1 + brn x.f2 4 = 2
 ·rw [if_pos h]; exact Or.inl ⟨h, runs_valT _⟩
 ·rw [if_neg h]; exact Or.inr ⟨by omega, rfl⟩
end Go.Proofs.Ytfnfjkddlnnolaa.P
namespace Go.Proofs.Ytfnfjkddlnnolaa.Pure
open Go.RowKit Go.Proofs.Ytfnfjkddlnnolaa.P Go.Proofs.YtfnfjkddlnnolaaW.PrintWords Go.Proofs.YtfnfjkddlnnolaaW.PrintLast

theorem works_at (k : Nat) (h : 12 ≤ k) : drayagelaw03_works.f k = some true := at_rounds drayagelaw03_works.mono h works_f
def getP (a : List S43) (key : ByteArray) : ByteArray × Bool := if findI (keyIs key) 0 a < 0 then (⟨#[]⟩, false) else ((rd_T43 a (findI (keyIs key) 0 a)).f1, true)
theorem get_f (a : List S43) (key : ByteArray) : label_Get.f a key = some (getP a key) := by
 unfold label_Get.f getP
 split <;> rfl
def hold1 (a : List S43) (x : S38) : Bool := if x.f0 = 1 then (getP a x.f1).2 && ((getP a x.f1).1.toList == x.f2.toList) else if x.f0 = 2 then !((getP a x.f1).2 && ((getP a x.f1).1.toList == x.f2.toList)) else if x.f0 = 3 then (getP a x.f1).2 else !(getP a x.f1).2
theorem holds_l (a : List S43) (xs : List S38) (hs : xs.length ≤ 100) (hk : ∀ x ∈ xs, 1 ≤ x.f0 ∧ x.f0 ≤ 4) : ∀ (n m i : Nat), i + n = xs.length → label_Holds.l0 (n + 1 + m) a xs (xs.length : Int) (i : Int) = some ((xs.drop i).all (hold1 a))
 | 0, m, i, h => by
  rw [show 0 + 1 + m = m + 1 by omega, label_Holds.l0, if_neg (by omega), List.drop_of_length_le (by omega)]
  rfl
 | n + 1, m, i, h => by
  have hlt : i < xs.length := by omega
  have ih := holds_l a xs hs hk n m (i + 1) (by omega)
  obtain ⟨k1, k4⟩ := hk _ (List.getElem_mem hlt)
  rw [show n + 1 + 1 + m = n + 1 + m + 1 by omega, label_Holds.l0, if_pos (by omega), if_pos (by omega), if_pos (by omega), rd38_get xs i hlt, get_f, Option.bind_some, wsm (b := ((i + 1 : Nat) : Int)) (by omega) (by omega) (by omega), ih, List.drop_eq_getElem_cons hlt, List.all_cons]
  generalize (xs.drop (i + 1)).all (hold1 a) = r
  generalize xs[i] = x at k1 k4
  unfold hold1 label_valued.f
  generalize (getP a x.f1).1 = v
  generalize (getP a x.f1).2 = is
  have hcs : x.f0 = 1 ∨ x.f0 = 2 ∨ x.f0 = 3 ∨ x.f0 = 4 := by omega
  generalize (v.toList == x.f2.toList) = q
  rcases hcs with e | e | e | e <;> rw [e] <;> cases is <;> cases q <;> rfl
theorem holds_f (k : Nat) (a : List S43) (xs : List S38) (hs : xs.length ≤ 100) (hk : ∀ x ∈ xs, 1 ≤ x.f0 ∧ x.f0 ≤ 4) (h : xs.length + 1 ≤ k) : label_Holds.f k xs a = some (xs.all (hold1 a)) := by
 have := holds_l a xs hs hk xs.length (k - (xs.length + 1)) 0 (Nat.zero_add _)
 rw [show xs.length + 1 + (k - (xs.length + 1)) = k by omega] at this
 exact this
theorem find_any (p : S43 → Bool) : ∀ (l : List S43) (k : Nat), decide (0 ≤ findI p k l) = l.any p
 | [], k => rfl
 | x :: r, k => by
  unfold findI
  rw [List.any_cons]
  cases p x with
  | true => rw [if_pos rfl, decide_eq_true (by omega)]; rfl
  | false => rw [if_neg (by decide), find_any p r (k + 1), Bool.false_or]
theorem bears_l (bears : List S43) : ∀ l, label_Bears.l bears l = l.all fun x => bears.any (bearsB x)
 | [] => rfl
 | x :: r => by
  unfold label_Bears.l
  rw [List.all_cons, bears_l bears r, ← find_any (bearsB x) bears 0]
  by_cases h : 0 ≤ findI (bearsB x) 0 bears
  ·rw [if_pos h, decide_eq_true h, Bool.true_and]
  ·rw [if_neg h, decide_eq_false h, Bool.false_and]
theorem bears_f (bears l : List S43) : label_Bears.f bears l = some (l.all fun x => bears.any (bearsB x)) := by
 unfold label_Bears.f
 rw [bears_l]
theorem bears_self (x : S43) : bearsB x x = true := by
 unfold bearsB
 rw [beq_self_eq_true, beq_self_eq_true]
 rfl
theorem bears_sub (b l : List S43) (h : ∀ x ∈ l, x ∈ b) : (l.all fun x => b.any (bearsB x)) = true := by
 rw [List.all_eq_true]
 intro x hx
 rw [List.any_eq_true]
 exact ⟨x, h x hx, bears_self x⟩
theorem less_ne {a b : ByteArray} (h : Op.bytesLess a.data.toList b.data.toList = true) : a.toList ≠ b.toList := by
 rw [ByteArray.toList_eq, ByteArray.toList_eq]
 rcases cmp_cases a.data.toList b.data.toList with ⟨_, _, h1⟩ | ⟨_, h1, _⟩ | ⟨_, h1, _⟩
 ·exact h1
 ·rw [h] at h1; cases h1
 ·rw [h] at h1; cases h1
def Apart (a : List S43) : Prop := ∀ i j (hi : i < a.length) (hj : j < a.length), i ≠ j → a[i].f0.toList ≠ a[j].f0.toList
theorem apart_of {a : List S43} (h : a.Pairwise (fun a b => riseL false a b = true)) : Apart a := by
 have hr : ∀ {x y : S43}, riseL false x y = true → x.f0.toList ≠ y.f0.toList := by
  intro x y h
  unfold riseL riseB at h
  rw [Bool.false_and, Bool.or_false] at h
  exact less_ne h
 intro i j hi hj hne
 rcases Nat.lt_or_gt_of_ne hne with hl | hl
 ·exact hr (List.pairwise_iff_getElem.1 h i j hi hj hl)
 ·exact fun e => hr (List.pairwise_iff_getElem.1 h j i hj hi hl) e.symm
theorem find_at (p : S43 → Bool) : ∀ (l : List S43) (k i : Nat) (hi : i < l.length), p l[i] = true → (∀ j (hj : j < i), p (l[j]'(by omega)) = false) → findI p k l = ((k + i : Nat) : Int)
 | [], k, i, hi, _, _ => by simp at hi
 | x :: r, k, 0, hi, h, _ => by
  unfold findI
  have h' : p x = true := h
  rw [if_pos h']
  rfl
 | x :: r, k, i + 1, hi, h, hb => by
  unfold findI
  have h0 : p x = false := hb 0 (by omega)
  rw [h0, if_neg (by decide), find_at p r (k + 1) i (by simpa using hi) h (fun j hj => hb (j + 1) (by omega)), show k + 1 + i = k + (i + 1) by omega]
theorem get_at {a : List S43} (ha : Apart a) (i : Nat) (hi : i < a.length) : getP a a[i].f0 = (a[i].f1, true) := by
 have h : findI (keyIs a[i].f0) 0 a = ((0 + i : Nat) : Int) := by
  refine find_at _ a 0 i hi ?_ (fun j hj => ?_)
  ·unfold keyIs; exact beq_self_eq_true _
  ·unfold keyIs
   rw [beq_eq_false_iff_ne]
   exact ha j i (by omega) hi (by omega)
 unfold getP
 rw [h, if_neg (by omega), Nat.zero_add, rd43_get a i hi]
theorem without_mem {a : List S43} {i : Nat} {x : S43} (h : x ∈ a.take i ++ a.drop (i + 1)) : x ∈ a := by
 rcases List.mem_append.1 h with h | h
 ·exact List.mem_of_mem_take h
 ·exact List.mem_of_mem_drop h
theorem without_of {a : List S43} {i : Nat} (hi : i < a.length) {x : S43} (h : x ∈ a) : x = a[i] ∨ x ∈ a.take i ++ a.drop (i + 1) := by
 rw [← List.take_append_drop i a, List.drop_eq_getElem_cons hi] at h
 rcases List.mem_append.1 h with h | h
 ·exact Or.inr (List.mem_append_left _ h)
 ·rcases List.mem_cons.1 h with h | h
  ·exact Or.inl h
  ·exact Or.inr (List.mem_append_right _ h)
theorem without_key {a : List S43} (ha : Apart a) {i : Nat} (hi : i < a.length) {x : S43} (h : x ∈ a.take i ++ a.drop (i + 1)) : x.f0.toList ≠ a[i].f0.toList := by
 rcases List.mem_append.1 h with h | h
 ·obtain ⟨j, hj, rfl⟩ := List.getElem_of_mem h
  rw [List.length_take] at hj
  rw [List.getElem_take]
  exact ha j i (by omega) hi (by omega)
 ·obtain ⟨j, hj, rfl⟩ := List.getElem_of_mem h
  rw [List.length_drop] at hj
  rw [List.getElem_drop]
  exact ha (i + 1 + j) i (by omega) hi (by omega)
theorem opp_l (a : List S43) (ha : Apart a) (h6 : a.length ≤ 6) : ∀ (n m i : Nat), i + n = a.length → 12 ≤ m → drayagelaw03_LabelOpposite.l0 (2 * n + 1 + m) a (i : Int) = some true
 | 0, m, i, h, hm => by
  rw [show 2 * 0 + 1 + m = m + 1 by omega, drayagelaw03_LabelOpposite.l0, if_neg (by omega), works_at m hm]
  rfl
 | n + 1, m, i, h, hm => by
  have hlt : i < a.length := by omega
  rw [show 2 * (n + 1) + 1 + m = 2 * n + 1 + m + 2 by omega, drayagelaw03_LabelOpposite.l0, wsm (a := (i : Int) + 1) (b := ((i + 1 : Nat) : Int)) (by omega) (by omega) (by omega)]
  rw [if_pos (by omega), Option.bind_some, if_pos (by omega), if_pos (by omega), Option.bind_some, Int.toNat_natCast]
  have l1 : (a.take i).length ≤ 6 := by rw [List.length_take]; omega
  have l2 : (a.drop (i + 1)).length ≤ 6 := by rw [List.length_drop]; omega
  have l3 : ([] ++ a.take i : List S43).length ≤ 6 := l1
  rw [if_pos (by simp only [List.length_nil]; omega), Option.bind_some, if_pos (by omega), if_pos (by omega), Option.bind_some, Int.toNat_natCast, if_pos (by omega), Option.bind_some, List.nil_append]
  have e1 : (a.all fun x => (a.take i ++ a.drop (i + 1)).any (bearsB x)) = false := by
   rw [List.all_eq_false]
   refine ⟨a[i], List.getElem_mem hlt, ?_⟩
   rw [Bool.not_eq_true, List.any_eq_false]
   intro y hy hb
   unfold bearsB at hb
   rw [Bool.and_eq_true, beq_iff_eq] at hb
   exact without_key ha hlt hy hb.1
  have e2 : ((a.take i ++ a.drop (i + 1)).all fun x => a.any (bearsB x)) = true := bears_sub a _ (fun x hx => without_mem hx)
  have e3 : (a.all fun x => (a.take i ++ a.drop (i + 1) ++ [(⟨a[i].f0, ⟨#[42]⟩⟩ : S43)]).any (bearsB x)) = true := by
   rw [List.all_eq_true]
   intro x hx
   rw [List.any_eq_true]
   rcases without_of hlt hx with e | h
   ·refine ⟨⟨a[i].f0, ⟨#[42]⟩⟩, List.mem_append_right _ List.mem_cons_self, ?_⟩
    unfold bearsB
    rw [e]
    dsimp only
    rw [beq_self_eq_true, ByteArray.toList_eq (⟨#[42]⟩ : ByteArray)]
    show (true && (_ || true)) = true
    rw [Bool.or_true]
    rfl
   ·exact ⟨x, List.mem_append_left _ h, bears_self x⟩
  have l4 : (a.take i ++ a.drop (i + 1)).length ≤ 12 := by rw [List.length_append]; omega
  rw [bears_f, e1, Option.bind_some, if_neg (by decide), bears_f, e2, Option.bind_some, if_pos rfl, if_pos (by omega), rd43_get a i hlt, bears_f, e3, Option.bind_some, drayagelaw03_LabelOpposite.j4]
  rw [if_neg (by decide), if_pos (by omega), if_pos (by omega), rd43_get a i hlt, get_f, get_at ha i hlt, Option.bind_some]
  dsimp only
  rw [if_pos rfl, if_pos rfl, wsm (b := ((i + 1 : Nat) : Int)) (by omega) (by omega) (by omega)]
  exact opp_l a ha h6 n m (i + 1) (by omega) hm
theorem LabelOpposite (l0 : List S35) (x0 x1 x2 y0 y1 y2 : Int) : ∃ k, drayagelaw03_LabelOpposite.f k l0 x0 x1 x2 y0 y1 y2 = some true := by
 refine ⟨100, ?_⟩
 unfold drayagelaw03_LabelOpposite.f
 obtain ⟨h1, h2, h3⟩ := outs_may l0
 have hlab : drayagelaw03_labels.f l0 = some (outs l0) := rfl
 have hap := apart_of h2
 rw [hlab, Option.bind_some]
 generalize outs l0 = a at h1 h2 h3 hap
 have hx := term_fT ⟨x0, x1, x2⟩
 have hy := term_fT ⟨y0, y1, y2⟩
 obtain ⟨x, hxe⟩ : ∃ x, termOf ⟨x0, x1, x2⟩ = x := ⟨_, rfl⟩
 obtain ⟨y, hye⟩ : ∃ y, termOf ⟨y0, y1, y2⟩ = y := ⟨_, rfl⟩
 have mx := (mayT_good (termOf_may ⟨x0, x1, x2⟩)).2
 have my := (mayT_good (termOf_may ⟨y0, y1, y2⟩)).2
 rw [hxe] at hx mx
 rw [hye] at hy my
 have kx1 := mx.1
 have kx4 := mx.2.1
 have ky1 := my.1
 have ky4 := my.2.1
 dsimp only at hx hy
 clear mx my hxe hye
 obtain ⟨xk, xn, xv⟩ := x
 obtain ⟨yk, yn, yv⟩ := y
 dsimp only at hx hy kx1 kx4 ky1 ky4
 rw [hx, Option.bind_some, Option.bind_some]
 dsimp only
 obtain ⟨o, ho⟩ : ∃ o, rd [0, 2, 1, 4, 3] xk = o := ⟨_, rfl⟩
 have hop : 1 ≤ o ∧ o ≤ 4 ∧ hold1 a ⟨o, xn, xv⟩ = !hold1 a ⟨xk, xn, xv⟩ := by
  have hcs : xk = 1 ∨ xk = 2 ∨ xk = 3 ∨ xk = 4 := by omega
  unfold hold1
  rcases hcs with rfl | rfl | rfl | rfl
  ·obtain rfl : (2 : Int) = o := ho
   exact ⟨by decide, by decide, rfl⟩
  ·obtain rfl : (1 : Int) = o := ho
   exact ⟨by decide, by decide, (Bool.not_not _).symm⟩
  ·obtain rfl : (4 : Int) = o := ho
   exact ⟨by decide, by decide, rfl⟩
  ·obtain rfl : (3 : Int) = o := ho
   exact ⟨by decide, by decide, (Bool.not_not _).symm⟩
 obtain ⟨o1, o4, oh⟩ := hop
 have one : ∀ z : S38, 1 ≤ z.f0 → z.f0 ≤ 4 → ∀ k, 3 ≤ k → label_Holds.f k [z] a = some (hold1 a z) := by
  intro z z1 z4 k hk
  rw [holds_f k a [z] (by simp) (fun x hx => by rw [List.mem_singleton] at hx; subst hx; exact ⟨z1, z4⟩) (by simpa using by omega)]
  simp
 have two : ∀ z u : S38, 1 ≤ z.f0 → z.f0 ≤ 4 → 1 ≤ u.f0 → u.f0 ≤ 4 → ∀ k, 3 ≤ k → label_Holds.f k [z, u] a = some (hold1 a z && hold1 a u) := by
  intro z u z1 z4 u1 u4 k hk
  rw [holds_f k a [z, u] (by simp) (fun x hx => by
   rcases List.mem_cons.1 hx with e | hx
   ·subst e; exact ⟨z1, z4⟩
   ·rw [List.mem_singleton] at hx; subst hx; exact ⟨u1, u4⟩) (by simpa using by omega)]
  simp
 have hne : (hold1 a ⟨xk, xn, xv⟩ == !hold1 a ⟨xk, xn, xv⟩) = false := by cases hold1 a ⟨xk, xn, xv⟩ <;> rfl
 have hnb : (hold1 a ⟨xk, xn, xv⟩ && !hold1 a ⟨xk, xn, xv⟩) = false := by cases hold1 a ⟨xk, xn, xv⟩ <;> rfl
 have hnil : label_Holds.f 100 [] a = some true := by
  rw [holds_f 100 a [] (by simp) (fun x hx => by cases hx) (by simp)]
  rfl
 rw [ho, if_pos (by omega), if_pos (by simp only [List.length_cons, List.length_nil]; omega), one _ kx1 kx4 100 (by omega), Option.bind_some, one _ o1 o4 100 (by omega), Option.bind_some, oh, hne, if_neg (by decide)]
 rw [two _ _ kx1 kx4 o1 o4 100 (by omega), Option.bind_some, oh, hnb, if_neg (by decide), hnil, Option.bind_some, drayagelaw03_LabelOpposite.j0, if_neg (by decide), hy, Option.bind_some, Option.bind_some]
 dsimp only
 rw [two _ _ kx1 kx4 ky1 ky4 99 (by omega), Option.bind_some, if_pos (by simp only [List.length_cons, List.length_nil]; omega)]
 have e1 : ([(⟨xk, xn, xv⟩ : S38), ⟨yk, yn, yv⟩] : List S38).take 1 = [⟨xk, xn, xv⟩] := rfl
 have e2 : ([(⟨xk, xn, xv⟩ : S38), ⟨yk, yn, yv⟩] : List S38).drop 1 = [⟨yk, yn, yv⟩] := rfl
 rw [e1, e2, one _ kx1 kx4 99 (by omega), Option.bind_some, one _ ky1 ky4 99 (by omega), Option.bind_some]
 have key : (if hold1 a ⟨xk, xn, xv⟩ = true then drayagelaw03_LabelOpposite.j1 99 a ((hold1 a ⟨xk, xn, xv⟩ && hold1 a ⟨yk, yn, yv⟩) != hold1 a ⟨yk, yn, yv⟩) else drayagelaw03_LabelOpposite.j1 99 a ((hold1 a ⟨xk, xn, xv⟩ && hold1 a ⟨yk, yn, yv⟩) != false)) = drayagelaw03_LabelOpposite.j1 99 a false := by
  cases hold1 a ⟨xk, xn, xv⟩ <;> cases hold1 a ⟨yk, yn, yv⟩ <;> rfl
 rw [key, drayagelaw03_LabelOpposite.j1, if_neg (by decide), bears_f, bears_sub a a (fun _ h => h), Option.bind_some, if_pos rfl, bears_f, bears_sub a [] (fun _ h => by cases h), Option.bind_some, if_pos rfl, bears_f, Option.bind_some]
 have e3 : ((a.all fun x => ([] : List S43).any (bearsB x)) != ((a.length : Int) == 0)) = false := by
  cases a with
  | nil => rfl
  | cons z r =>
   rw [List.all_cons, List.any_nil, Bool.false_and, List.length_cons]
   have : (((r.length + 1 : Nat) : Int) == 0) = false := by rw [beq_eq_false_iff_ne]; omega
   rw [this]
   rfl
 rw [e3, drayagelaw03_LabelOpposite.j2, if_neg (by decide)]
 have g := opp_l a hap h3 a.length (97 - (2 * a.length + 1)) 0 (Nat.zero_add _) (by omega)
 rw [show 2 * a.length + 1 + (97 - (2 * a.length + 1)) = 97 by omega] at g
 exact g
end Go.Proofs.Ytfnfjkddlnnolaa.Pure
