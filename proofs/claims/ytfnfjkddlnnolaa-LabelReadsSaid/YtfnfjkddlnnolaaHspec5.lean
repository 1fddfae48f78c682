import Derived.Test.YtfnfjkddlnnolaaHspec4
import Derived.Test.YtfnfjkddlnnolaaPf14
import Derived.Test.YtfnfjkddlnnolaaPf15
namespace Go.Proofs.Ytfnfjkddlnnolaa.P
set_option linter.unusedVariables false
set_option linter.unusedSimpArgs false
open Go.RowKit Go.Proofs.YtfnfjkddlnnolaaW.PrintWords Go.Proofs.YtfnfjkddlnnolaaW.PrintLast Go.Proofs.YtfnfjkddlnnolaaW.PrintMore

theorem mayL_last {out : List S38} (may : S38 → S38 → Bool) (x : S38) (h : out.length ≠ 0) : mayL may out x = may (rd_T38 out ((out.length : Int) - 1)) x := by
 unfold mayL
 rw [last_rdT out h]
theorem mayL_nil {α : Type} {out : List α} (may : α → α → Bool) (x : α) (h : out.length = 0) : mayL may out x = true := by
 rw [List.length_eq_zero_iff.1 h]
 rfl
theorem ref_parts (t : ByteArray) (lb star : Bool) (one : Nat → OneP S38) (may : S38 → S38 → Bool) (hs : t.size ≤ 1000000) (h0 : t.size ≠ 0)
  (h1 : ∀ p k, p ≤ t.size → 22 ≤ k → SaidR (drayageref03_part.f k t (p : Int) lb star) (one p)) (h2 : ∀ p x q, p ≤ t.size → one p = .good x q → p < q ∧ q ≤ t.size)
  (h3 : ∀ a x : S38, (if lb = true then drayageref03_rises.f a.f1 a.f2 x.f1 x.f2 star else some true) = some (may a x)) :
  ∀ (m k p : Nat) (out : List S38), p ≤ t.size → m + out.length = 7 → m ≠ 0 → 25 + 3 * m ≤ k → drayageref03_parts.l0 k t lb star out (p : Int) = some ((partsS t one may m p out).1, ((partsS t one may m p out).2.1 : Int), (partsS t one may m p out).2.2) := by
 have hne : ¬ t.toList = [] := by
  rw [ByteArray.toList_eq]
  intro h
  exact h0 (List.length_eq_zero_iff.2 h)
 intro m
 induction m with
 | zero => intro _ _ _ _ _ h; exact absurd rfl h
 | succ m ih =>
  intro k p out hp hm _ hk
  obtain ⟨k, rfl⟩ : ∃ j, k = j + 3 := ⟨k - 3, by omega⟩
  have hS := h1 p (k + 2) hp (by omega)
  have hq := h2 p
  rw [drayageref03_parts.l0, if_neg hne]
  unfold partsS
  cases ho : one p with
  | bad a e =>
   rw [ho] at hS
   obtain ⟨he, x, y, z, hx⟩ := hS
   rw [hx, Option.bind_some]
   dsimp only
   rw [if_neg he]
  | good x q =>
   rw [ho] at hS
   have hx : drayageref03_part.f (k + 2) t (p : Int) lb star = some (x.f0, x.f1, x.f2, (q : Int), 0) := hS
   have hq1 := (hq x q hp ho).2
   rw [hx, Option.bind_some]
   dsimp only
   rw [if_pos rfl]
   have hj2 : ∀ b : Bool, drayageref03_parts.j2 (k + 1) t lb star out (p : Int) (q : Int) (!b) x.f0 x.f1 x.f2 =
     some ((if b = false then (([] : List S38), p, (4 : Int)) else if q < t.size then partsS t one may m (q + 1) (out ++ [x]) else (out ++ [x], 0, 0)).1,
      (((if b = false then (([] : List S38), p, (4 : Int)) else if q < t.size then partsS t one may m (q + 1) (out ++ [x]) else (out ++ [x], 0, 0)).2.1 : Nat) : Int),
      (if b = false then (([] : List S38), p, (4 : Int)) else if q < t.size then partsS t one may m (q + 1) (out ++ [x]) else (out ++ [x], 0, 0)).2.2) ∨ out.length = 6 := by
    intro b
    by_cases h6 : out.length = 6
    ·exact Or.inr h6
    left
    rw [drayageref03_parts.j2]
    cases b with
    | false => rw [if_pos (by decide), if_pos rfl]
    | true =>
     rw [if_neg (by decide), if_pos (by omega), if_neg (by decide), Option.bind_some]
     by_cases hlt : q < t.size
     ·rw [if_neg (by omega), if_pos hlt, wsm (b := ((q + 1 : Nat) : Int)) (by omega) (by omega) (by omega)]
      exact ih k (q + 1) (out ++ [x]) hlt (by simp; omega) (by omega) (by omega)
     ·rw [if_pos (by omega), if_neg hlt]
      rfl
   have hj1 : drayageref03_parts.j1 (k + 2) t lb star out (p : Int) (q : Int) false x.f0 x.f1 x.f2 =
     some ((if out.length = 6 then (([] : List S38), p, (5 : Int)) else if mayL may out x = false then ([], p, 4) else if q < t.size then partsS t one may m (q + 1) (out ++ [x]) else (out ++ [x], 0, 0)).1,
      (((if out.length = 6 then (([] : List S38), p, (5 : Int)) else if mayL may out x = false then ([], p, 4) else if q < t.size then partsS t one may m (q + 1) (out ++ [x]) else (out ++ [x], 0, 0)).2.1 : Nat) : Int),
      (if out.length = 6 then (([] : List S38), p, (5 : Int)) else if mayL may out x = false then ([], p, 4) else if q < t.size then partsS t one may m (q + 1) (out ++ [x]) else (out ++ [x], 0, 0)).2.2) := by
    rw [drayageref03_parts.j1, if_neg (by decide)]
    by_cases h6 : out.length = 6
    ·rw [if_pos (by omega), if_pos h6]
    ·rw [if_neg (by omega), if_neg h6]
     have hb := hj2 (mayL may out x)
     rcases hb with hb | hb
     ·rw [← hb]
      by_cases hz : out.length = 0
      ·rw [mayL_nil may x hz]
       cases lb with
       | true => rw [if_pos rfl, if_neg (by omega)]; rfl
       | false => rw [if_neg (by decide)]; rfl
      ·have hr := h3 (rd_T38 out ((out.length : Int) - 1)) x
       rw [mayL_last may x hz]
       have hw : wrap64 ((out.length : Int) - 1) = (out.length : Int) - 1 := wsm rfl (by omega) (by omega)
       cases lb with
       | true =>
        rw [if_pos rfl] at hr
        rw [if_pos rfl, if_pos (by omega), hw, if_pos (by omega), if_pos (by omega), hr, Option.bind_some]
       | false =>
        rw [if_neg (by decide)] at hr
        have hr2 := Option.some.inj hr
        rw [if_neg (by decide), ← hr2]
        rfl
     ·exact absurd hb h6
   by_cases hlt : q < t.size
   ·rw [if_pos (by omega), if_pos (by omega)]
    by_cases h44 : gb t q = 44
    ·have e1 : (bt t (q : Int) != 44) = false := by rw [bne_eq_false_iff_eq]; exact h44
     have e2 : sgn t q 44 = true := by unfold sgn; rw [decide_eq_true hlt, Bool.true_and, beq_iff_eq]; exact h44
     rw [e1, if_neg (fun h => by rw [e2] at h; cases h.2)]
     exact hj1
    ·have e1 : (bt t (q : Int) != 44) = true := by rw [bne_iff_ne]; exact h44
     have e2 : sgn t q 44 = false := by unfold sgn; rw [decide_eq_true hlt, Bool.true_and, beq_eq_false_iff_ne]; exact h44
     rw [e1, if_pos ⟨hlt, e2⟩, drayageref03_parts.j1, if_pos rfl]
   ·rw [if_neg (by omega), if_neg (fun h => hlt h.1)]
    exact hj1
theorem ref_whole (t : ByteArray) (lb star : Bool) (one : Nat → OneP S38) (may : S38 → S38 → Bool) (hs : t.size ≤ 1000000)
  (h1 : ∀ p k, p ≤ t.size → 22 ≤ k → SaidR (drayageref03_part.f k t (p : Int) lb star) (one p)) (h2 : ∀ p x q, p ≤ t.size → one p = .good x q → p < q ∧ q ≤ t.size)
  (h3 : ∀ a x : S38, (if lb = true then drayageref03_rises.f a.f1 a.f2 x.f1 x.f2 star else some true) = some (may a x)) (k : Nat) (hk : 46 ≤ k) :
  drayageref03_parts.f k t lb star = some ((wholeS t one may).1, ((wholeS t one may).2.1 : Int), (wholeS t one may).2.2) := by
 unfold drayageref03_parts.f wholeS
 by_cases h0 : t.size = 0
 ·obtain ⟨k, rfl⟩ : ∃ j, k = j + 1 := ⟨k - 1, by omega⟩
  have e : t.toList = [] := by
   rw [ByteArray.toList_eq]
   exact List.length_eq_zero_iff.1 h0
  rw [if_pos h0, drayageref03_parts.l0, if_pos e]
  rfl
 ·rw [if_neg h0]
  exact ref_parts t lb star one may hs h0 h1 h2 h3 7 k 0 [] (by omega) rfl (by omega) (by omega)
def upT (x : S43) : S38 := ⟨1, x.f0, x.f1⟩
def downL (x : S38) : S43 := ⟨x.f1, x.f2⟩
theorem partsS_up (t : ByteArray) (star : Bool) : ∀ (m p : Nat) (out : List S43), partsS t (fun p => toT (labS t star p)) (riseT star) m p (out.map upT) = ((partsS t (labS t star) (riseL star) m p out).1.map upT, (partsS t (labS t star) (riseL star) m p out).2.1, (partsS t (labS t star) (riseL star) m p out).2.2)
 | 0, p, out => rfl
 | m + 1, p, out => by
  unfold partsS
  cases labS t star p with
  | bad a e => rfl
  | good x q =>
   dsimp only [toT]
   have hl : (out.map upT).length = out.length := List.length_map _
   have hm : mayL (riseT star) (out.map upT) ⟨1, x.f0, x.f1⟩ = mayL (riseL star) out x := by
    unfold mayL
    rw [List.getLast?_map]
    cases out.getLast? <;> rfl
   rw [hl, hm]
   by_cases c1 : q < t.size ∧ sgn t q 44 = false
   ·rw [if_pos c1, if_pos c1]; rfl
   rw [if_neg c1, if_neg c1]
   by_cases c2 : out.length = 6
   ·rw [if_pos c2, if_pos c2]; rfl
   rw [if_neg c2, if_neg c2]
   by_cases c3 : mayL (riseL star) out x = false
   ·rw [if_pos c3, if_pos c3]; rfl
   rw [if_neg c3, if_neg c3]
   have ha : out.map upT ++ [⟨1, x.f0, x.f1⟩] = (out ++ [x]).map upT := by rw [List.map_append]; rfl
   rw [ha]
   by_cases c4 : q < t.size
   ·rw [if_pos c4, if_pos c4]; exact partsS_up t star m (q + 1) (out ++ [x])
   ·rw [if_neg c4, if_neg c4]
theorem wholeS_up (t : ByteArray) (star : Bool) : wholeS t (fun p => toT (labS t star p)) (riseT star) = ((wholeS t (labS t star) (riseL star)).1.map upT, (wholeS t (labS t star) (riseL star)).2.1, (wholeS t (labS t star) (riseL star)).2.2) := by
 unfold wholeS
 split
 ·rfl
 ·exact partsS_up t star 7 0 []
theorem partsS_end {α : Type} (t : ByteArray) (one : Nat → OneP α) (may : α → α → Bool) : ∀ (m p : Nat) (out : List α), m + out.length = 7 → ((∀ p a e, one p = .bad a e → e ≠ 0)) →
  ((partsS t one may m p out).2.2 = 0 → (partsS t one may m p out).2.1 = 0) ∧ ((partsS t one may m p out).2.2 ≠ 0 → (partsS t one may m p out).1 = []) ∧ (partsS t one may m p out).1.length ≤ 7
 | 0, p, out, h, _ => ⟨fun _ => rfl, fun h => absurd rfl h, by unfold partsS; dsimp only; omega⟩
 | m + 1, p, out, h, hb => by
  unfold partsS
  cases ho : one p with
  | bad a e => exact ⟨fun h => absurd h (hb p a e ho), fun _ => rfl, by simp⟩
  | good x q =>
   dsimp only
   by_cases c1 : q < t.size ∧ sgn t q 44 = false
   ·rw [if_pos c1]; exact ⟨(fun h => by cases h), fun _ => rfl, by simp⟩
   rw [if_neg c1]
   by_cases c2 : out.length = 6
   ·rw [if_pos c2]; exact ⟨(fun h => by cases h), fun _ => rfl, by simp⟩
   rw [if_neg c2]
   by_cases c3 : mayL may out x = false
   ·rw [if_pos c3]; exact ⟨(fun h => by cases h), fun _ => rfl, by simp⟩
   rw [if_neg c3]
   by_cases c4 : q < t.size
   ·rw [if_pos c4]; exact partsS_end t one may m (q + 1) (out ++ [x]) (by simp; omega) hb
   ·rw [if_neg c4]; exact ⟨fun _ => rfl, fun h => absurd rfl h, by simp; omega⟩
theorem labS_bad (t : ByteArray) (star : Bool) (p a : Nat) (e : Int) (h : labS t star p = .bad a e) : e ≠ 0 := by
 unfold labS valS at h
 split at h
 ·split at h
  ·split at h
   ·cases h
   ·split at h
    ·cases h
    ·rename_i hc; cases h; exact hc
  ·cases h; exact failE_ne _ _
 ·rename_i hc; cases h; exact hc
theorem terS_bad (t : ByteArray) (p a : Nat) (e : Int) (h : terS t p = .bad a e) : e ≠ 0 := by
 unfold terS terV at h
 split at h
 ·split at h
  ·cases h
  ·rename_i hc; cases h; exact hc
 ·split at h
  ·split at h
   ·split at h
    ·cases h
    ·rename_i hc; cases h; exact hc
   ·split at h
    ·split at h
     ·split at h
      ·cases h
      ·rename_i hc; cases h; exact hc
     ·cases h; exact failE_ne _ _
    ·cases h
  ·rename_i hc; cases h; exact hc
theorem wholeS_end {α : Type} (t : ByteArray) (one : Nat → OneP α) (may : α → α → Bool) (hb : ∀ p a e, one p = .bad a e → e ≠ 0) : ((wholeS t one may).2.2 = 0 → (wholeS t one may).2.1 = 0) ∧ ((wholeS t one may).2.2 ≠ 0 → (wholeS t one may).1 = []) ∧ (wholeS t one may).1.length ≤ 7 := by
 unfold wholeS
 split
 ·exact ⟨fun _ => rfl, fun h => absurd rfl h, by simp⟩
 ·exact partsS_end t one may 7 0 [] rfl hb
theorem ref_down : ∀ (l : List S38) (n k i : Nat) (acc : List S43), i + n = l.length → n + 1 ≤ k → acc.length ≤ i → l.length ≤ 7 → drayageref03_labels.l0 k l acc (i : Int) = some (acc ++ (l.drop i).map downL, 0, 0) := by
 intro l n
 induction n with
 | zero =>
  intro k i acc h hk _ _
  obtain ⟨k, rfl⟩ : ∃ j, k = j + 1 := ⟨k - 1, by omega⟩
  rw [drayageref03_labels.l0, if_neg (by omega), List.drop_of_length_le (by omega)]
  simp
 | succ n ih =>
  intro k i acc h hk ha hl
  obtain ⟨k, rfl⟩ : ∃ j, k = j + 1 := ⟨k - 1, by omega⟩
  have hi : i < l.length := by omega
  have e : rd_T38 l (i : Int) = l[i] := by
   unfold rd_T38
   rw [Int.toNat_natCast, List.getD_eq_getElem?_getD, List.getElem?_eq_getElem hi]
   rfl
  rw [drayageref03_labels.l0, if_pos (by omega), if_pos (by omega), if_pos (by omega), wsm (b := ((i + 1 : Nat) : Int)) (by omega) (by omega) (by omega), ih k (i + 1) _ (by omega) (by omega) (by simp; omega) hl, e, List.drop_eq_getElem_cons hi, List.append_assoc, List.map_cons]
  rfl
theorem ref_labels (t : ByteArray) (star : Bool) (hs : t.size ≤ 1000000) (k : Nat) (hk : 46 ≤ k) : drayageref03_labels.f k t star = some ((wholeS t (labS t star) (riseL star)).1, ((wholeS t (labS t star) (riseL star)).2.1 : Int), (wholeS t (labS t star) (riseL star)).2.2) := by
 unfold drayageref03_labels.f
 rw [ref_whole t true star (fun p => toT (labS t star p)) (riseT star) hs (fun p k hp hk => ref_lab t star p hp hs k hk)
  (fun p x q hp h => by
   cases hl : labS t star p with
   | bad a e => rw [hl] at h; cases h
   | good y r => rw [hl] at h; cases h; exact labS_le t star p hp y _ hl)
  (fun a x => by rw [if_pos rfl, rises_f]; rfl) k hk, Option.bind_some, wholeS_up]
 dsimp only
 obtain ⟨h1, h2, h3⟩ := wholeS_end t (labS t star) (riseL star) (labS_bad t star)
 by_cases h : (wholeS t (labS t star) (riseL star)).2.2 = 0
 ·rw [if_pos h, h1 h, h]
  have := ref_down ((wholeS t (labS t star) (riseL star)).1.map upT) _ k 0 [] (Nat.zero_add _) (by simp; omega) (Nat.zero_le _) (by simpa using h3)
  rw [show ((0 : Nat) : Int) = 0 from rfl] at this
  rw [this]
  simp only [List.nil_append, List.drop_zero, List.map_map]
  have e : (downL ∘ upT) = id := rfl
  rw [e, List.map_id]
  rfl
 ·rw [if_neg h, h2 h]
theorem ref_terms (t : ByteArray) (hs : t.size ≤ 1000000) (k : Nat) (hk : 46 ≤ k) : drayageref03_parts.f k t false false = some ((wholeS t (terS t) (fun _ _ => true)).1, ((wholeS t (terS t) (fun _ _ => true)).2.1 : Int), (wholeS t (terS t) (fun _ _ => true)).2.2) :=
 ref_whole t false false _ _ hs (fun p k hp hk => ref_ter t p hp hs k hk) (fun p x q hp h => terS_le t p hp x q h) (fun a x => by rw [if_neg (by decide)]) k hk
theorem same_labels (l : List S43) (k : Nat) (hk : l.length + 1 ≤ k) (hl : l.length ≤ 1000) : drayageref03_SameLabels.f k l l = some true := by
 unfold drayageref03_SameLabels.f
 rw [if_pos rfl]
 have h : ∀ (n k i : Nat), i + n = l.length → n + 1 ≤ k → drayageref03_SameLabels.l0 k l l (i : Int) = some true := by
  intro n
  induction n with
  | zero =>
   intro k i h hk
   obtain ⟨k, rfl⟩ : ∃ j, k = j + 1 := ⟨k - 1, by omega⟩
   rw [drayageref03_SameLabels.l0, if_neg (by omega)]
  | succ n ih =>
   intro k i h hk
   obtain ⟨k, rfl⟩ : ∃ j, k = j + 1 := ⟨k - 1, by omega⟩
   rw [drayageref03_SameLabels.l0, if_pos (by omega), if_pos (by omega), if_pos (by omega), if_neg (by simp), wsm (b := ((i + 1 : Nat) : Int)) (by omega) (by omega) (by omega)]
   exact ih k (i + 1) (by omega) (by omega)
 exact h l.length k 0 (Nat.zero_add _) hk
theorem same_terms (l : List S38) (k : Nat) (hk : l.length + 1 ≤ k) (hl : l.length ≤ 1000) : drayageref03_SameTerms.f k l l = some true := by
 unfold drayageref03_SameTerms.f
 rw [if_pos rfl]
 have h : ∀ (n k i : Nat), i + n = l.length → n + 1 ≤ k → drayageref03_SameTerms.l0 k l l (i : Int) = some true := by
  intro n
  induction n with
  | zero =>
   intro k i h hk
   obtain ⟨k, rfl⟩ : ∃ j, k = j + 1 := ⟨k - 1, by omega⟩
   rw [drayageref03_SameTerms.l0, if_neg (by omega)]
  | succ n ih =>
   intro k i h hk
   obtain ⟨k, rfl⟩ : ∃ j, k = j + 1 := ⟨k - 1, by omega⟩
   rw [drayageref03_SameTerms.l0, if_pos (by omega), if_pos (by omega), if_pos (by omega), if_neg (by simp), wsm (b := ((i + 1 : Nat) : Int)) (by omega) (by omega) (by omega)]
   exact ih k (i + 1) (by omega) (by omega)
 exact h l.length k 0 (Nat.zero_add _) hk
end Go.Proofs.Ytfnfjkddlnnolaa.P
