import Derived.Test.YtfnfjkddlnnolaaHspec2
namespace Go.Proofs.Ytfnfjkddlnnolaa.P
set_option linter.unusedVariables false
set_option linter.unusedSimpArgs false
open Go.RowKit Go.Proofs.YtfnfjkddlnnolaaW.PrintWords Go.Proofs.YtfnfjkddlnnolaaW.PrintLast Go.Proofs.YtfnfjkddlnnolaaW.PrintMore

theorem cmp_cases : ∀ (a b : List UInt8), (Lib.compareBytes a b = -1 ∧ Op.bytesLess a b = true ∧ a ≠ b) ∨ (Lib.compareBytes a b = 1 ∧ Op.bytesLess a b = false ∧ a ≠ b) ∨ (Lib.compareBytes a b = 0 ∧ Op.bytesLess a b = false ∧ a = b)
 | [], [] => Or.inr (Or.inr ⟨rfl, rfl, rfl⟩)
 | [], _ :: _ => Or.inl ⟨rfl, rfl, by simp⟩
 | _ :: _, [] => Or.inr (Or.inl ⟨rfl, rfl, by simp⟩)
 | x :: a, y :: b => by
  have ih := cmp_cases a b
  unfold Lib.compareBytes Op.bytesLess
  by_cases h1 : x < y
  ·left
   rw [if_pos h1, decide_eq_true h1]
   exact ⟨rfl, rfl, fun e => by cases e; exact absurd h1 (UInt8.lt_irrefl _)⟩
  ·rw [if_neg h1, decide_eq_false h1, Bool.false_or]
   by_cases h2 : y < x
   ·right; left
    rw [if_pos h2]
    have hne : x ≠ y := fun e => by subst e; exact absurd h2 (UInt8.lt_irrefl _)
    refine ⟨rfl, ?_, fun e => hne (by cases e; rfl)⟩
    rw [beq_eq_false_iff_ne.2 hne]; rfl
   ·rw [if_neg h2]
    have he : x = y := by
     apply UInt8.toNat_inj.1
     have h3 := UInt8.not_lt.1 h1
     have h4 := UInt8.not_lt.1 h2
     rw [UInt8.le_iff_toNat_le] at h3 h4
     omega
    subst he
    rw [beq_self_eq_true, Bool.true_and]
    rcases ih with ⟨h3, h4, h5⟩ | ⟨h3, h4, h5⟩ | ⟨h3, h4, h5⟩
    ·exact Or.inl ⟨h3, h4, fun e => h5 (by cases e; rfl)⟩
    ·exact Or.inr (Or.inl ⟨h3, h4, fun e => h5 (by cases e; rfl)⟩)
    ·exact Or.inr (Or.inr ⟨h3, h4, by rw [h5]⟩)
def riseB (star : Bool) (k1 v1 k2 v2 : ByteArray) : Bool := Op.bytesLess k1.data.toList k2.data.toList || (star && (k1.data.toList == k2.data.toList && Op.bytesLess v1.data.toList v2.data.toList))
theorem rises_f (star : Bool) (k1 v1 k2 v2 : ByteArray) : drayageref03_rises.f k1 v1 k2 v2 star = some (riseB star k1 v1 k2 v2) := by
 unfold drayageref03_rises.f riseB
 rw [ByteArray.toList_eq, ByteArray.toList_eq, ByteArray.toList_eq, ByteArray.toList_eq]
 cases Op.bytesLess k1.data.toList k2.data.toList with
 | true => rw [if_pos rfl]; rfl
 | false =>
  rw [if_neg (by simp), Bool.false_or]
  cases star with
  | false => rw [if_neg (by simp)]; rfl
  | true =>
   rw [if_pos rfl, Bool.true_and]
   by_cases h : k1.data.toList = k2.data.toList
   ·rw [if_pos h, beq_iff_eq.2 h]; rfl
   ·rw [if_neg h, beq_eq_false_iff_ne.2 h]; rfl
theorem byKey_f (a b : S43) : byKeyL a b = some (riseB false a.f0 a.f1 b.f0 b.f1) := by
 unfold byKeyL label_byKey.f riseB
 rw [ByteArray.toList_eq, ByteArray.toList_eq, Bool.false_and, Bool.or_false]
theorem or2 (a b : Int) : cmp_Or_int.f 3 [a, b] = some (if a = 0 then b else a) := by
 unfold cmp_Or_int.f
 have l2 : (([a, b] : List Int).length : Int) = 2 := rfl
 rw [l2, cmp_Or_int.l0, l2, if_pos (by decide), if_pos (by decide), if_pos (by decide)]
 have e0 : rd [a, b] 0 = a := rfl
 rw [e0]
 by_cases h : a = 0
 ·rw [if_pos h, if_pos h]
  have e1 : wrap64 (0 + 1) = 1 := by unfold wrap64; omega
  rw [e1, cmp_Or_int.l0, l2, if_pos (by decide), if_pos (by decide), if_pos (by decide)]
  have e2 : rd [a, b] 1 = b := rfl
  rw [e2]
  by_cases h2 : b = 0
  ·rw [if_pos h2]
   have e3 : wrap64 (1 + 1) = 2 := by unfold wrap64; omega
   rw [e3, cmp_Or_int.l0, if_neg (by decide), h2]
  ·rw [if_neg h2]
 ·rw [if_neg h, if_neg h]
theorem byBoth_f (a b : S43) : byBothL a b = some (riseB true a.f0 a.f1 b.f0 b.f1) := by
 unfold byBothL label_byBoth.f label_compare.f strings_Compare.f riseB
 rw [Option.bind_some, Option.bind_some, or2]
 simp only [Option.bind_some, Bool.true_and]
 congr 1
 rcases cmp_cases a.f0.data.toList b.f0.data.toList with ⟨h1, h2, h3⟩ | ⟨h1, h2, h3⟩ | ⟨h1, h2, h3⟩
 ·rw [h1, h2]; rfl
 ·rw [h1, h2, beq_eq_false_iff_ne.2 h3]; rfl
 ·rw [h1, h2, beq_iff_eq.2 h3, if_pos rfl, Bool.false_or, Bool.true_and]
  rcases cmp_cases a.f1.data.toList b.f1.data.toList with ⟨h4, h5, _⟩ | ⟨h4, h5, _⟩ | ⟨h4, h5, _⟩ <;> rw [h4, h5] <;> rfl
def riseL (star : Bool) (a b : S43) : Bool := riseB star a.f0 a.f1 b.f0 b.f1
def riseT (star : Bool) (a b : S38) : Bool := riseB star a.f1 a.f2 b.f1 b.f2
theorem labels_f (t : ByteArray) (hs : t.size ≤ 1000000) : label_Labels.f t = some ((wholeS t (labS t false) (riseL false)).1, ((wholeS t (labS t false) (riseL false)).2.1 : Int), (wholeS t (labS t false) (riseL false)).2.2) :=
 partsF_whole t _ _ _ _ hs (label_said t false _ hs (fun key p hp => value_said t key p hp hs) (fun a e he => value_bad t a e hs he)) (fun p x q hp h => labS_le t false p hp x q h) byKey_f
theorem borne_f (t : ByteArray) (hs : t.size ≤ 1000000) : label_Borne.f t = some ((wholeS t (labS t true) (riseL true)).1, ((wholeS t (labS t true) (riseL true)).2.1 : Int), (wholeS t (labS t true) (riseL true)).2.2) :=
 partsF_whole t _ _ _ _ hs (label_said t true _ hs (fun key p hp => starred_said t key p hp hs) (fun a e he => starred_bad t a e hs he)) (fun p x q hp h => labS_le t true p hp x q h) byBoth_f
theorem terms_f (t : ByteArray) (hs : t.size ≤ 1000000) : label_Terms.f t = some ((wholeS t (terS t) (fun _ _ => true)).1, ((wholeS t (terS t) (fun _ _ => true)).2.1 : Int), (wholeS t (terS t) (fun _ _ => true)).2.2) :=
 partsF_whole t _ _ _ _ hs (fun p hp => term_said t hs p hp) (fun p x q hp h => terS_le t p hp x q h) (fun _ _ => rfl)
end Go.Proofs.Ytfnfjkddlnnolaa.P
