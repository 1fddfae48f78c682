import Derived.Test.YtfnfjkddlnnolaaHspec
namespace Go.Proofs.Ytfnfjkddlnnolaa.P
set_option linter.unusedVariables false
set_option linter.unusedSimpArgs false
open Go.RowKit Go.Proofs.YtfnfjkddlnnolaaW.PrintWords Go.Proofs.YtfnfjkddlnnolaaW.PrintLast Go.Proofs.YtfnfjkddlnnolaaW.PrintMore

theorem terV_said (t : ByteArray) (kind : Int) (key : ByteArray) (p : Nat) (hp : p ≤ t.size) (hs : t.size ≤ 1000000) : Said t ((label_reader_value.f t (p : Int) 0).bind fun v => some ((⟨kind, key, v.1⟩ : S38), v.2.1, v.2.2.1, v.2.2.2)) (terV t kind key p) := by
 unfold terV
 rw [value_f t _ _ hs, runF_spec t false p hp, Option.bind_some]
 by_cases h : (runS t false p).e = 0
 ·rw [if_pos h, h]; rfl
 ·rw [if_neg h]; exact ⟨h, _, rfl⟩
theorem term_said (t : ByteArray) (hs : t.size ≤ 1000000) (p : Nat) (hp : p ≤ t.size) : Said t (oneT t (p : Int) 0) (terS t p) := by
 unfold oneT label_reader_term.f terS
 have s33 := fun p hp => sign_f t p 33 hp hs
 have s61 := fun p hp => sign_f t p 61 hp hs
 rw [show ((33 : UInt8).toNat : Int) = 33 from rfl] at s33
 rw [show ((61 : UInt8).toNat : Int) = 61 from rfl] at s61
 rw [s33 p hp]
 by_cases h0 : sgn t p 33 = true
 ·rw [if_pos h0, if_pos h0, Option.bind_some, if_pos rfl]
  dsimp only
  rw [name_f t _ _ hs, runF_spec t true (p + 1) (sgn_lt h0), Option.bind_some, Option.bind_some]
  by_cases h : (runS t true (p + 1)).e = 0
  ·rw [if_pos h, h]; rfl
  ·rw [if_neg h]; exact ⟨h, _, rfl⟩
 ·rw [if_neg h0, if_neg h0, Option.bind_some, if_neg (by simp)]
  dsimp only
  have hz := runS_size t true p hp
  rw [name_f t _ _ hs, runF_spec t true p hp, Option.bind_some]
  dsimp only
  by_cases h : (runS t true p).e = 0
  ·rw [if_pos h, h, s61 _ hz.2]
   by_cases h1 : sgn t (runS t true p).at_ 61 = true
   ·rw [if_pos h1, if_pos h1, Option.bind_some, if_pos rfl]
    have := terV_said t 1 (runS t true p).x ((runS t true p).at_ + 1) (sgn_lt h1) hs
    dsimp only
    revert this
    cases label_reader_value.f t (((runS t true p).at_ + 1 : Nat) : Int) 0 with
    | none => exact fun h => h
    | some v => exact fun h => h
   ·rw [if_neg h1, if_neg h1, Option.bind_some, if_neg (by simp)]
    dsimp only
    rw [s33 _ hz.2]
    by_cases h2 : sgn t (runS t true p).at_ 33 = true
    ·rw [if_pos h2, if_pos h2, Option.bind_some, if_pos rfl]
     dsimp only
     rw [s61 _ (sgn_lt h2)]
     by_cases h3 : sgn t ((runS t true p).at_ + 1) 61 = true
     ·rw [if_pos h3, if_pos h3, Option.bind_some, if_pos rfl]
      have := terV_said t 2 (runS t true p).x ((runS t true p).at_ + 2) (sgn_lt h3) hs
      dsimp only
      revert this
      cases label_reader_value.f t (((runS t true p).at_ + 2 : Nat) : Int) 0 with
      | none => exact fun h => h
      | some v => exact fun h => h
     ·rw [if_neg h3, if_neg h3, Option.bind_some, if_neg (by simp)]
      dsimp only
      rw [fail_at, Option.bind_some]
      dsimp only
      rw [value_bad t _ _ hs (failE_ne _ _)]
      exact ⟨failE_ne _ _, _, rfl⟩
    ·rw [if_neg h2, if_neg h2, Option.bind_some, if_neg (by simp)]
     rfl
  ·rw [if_neg h, sign_bad t _ _ _ h, Option.bind_some, if_neg (by simp)]
   dsimp only
   rw [sign_bad t _ _ _ h, Option.bind_some, if_neg (by simp)]
   exact ⟨h, _, rfl⟩
theorem labS_le (t : ByteArray) (star : Bool) (p : Nat) (hp : p ≤ t.size) (x : S43) (q : Nat) (h : labS t star p = .good x q) : p < q ∧ q ≤ t.size := by
 unfold labS valS at h
 have h1 := runS_size t true p hp
 split at h
 ·split at h
  ·rename_i h2
   have h3 := sgn_lt h2
   have h4 := runS_size t false ((runS t true p).at_ + 1) h3
   split at h
   ·rename_i h5
    have h6 := sgn_lt (Bool.and_eq_true _ _ ▸ h5 : _ ∧ _).2
    cases h; omega
   ·split at h
    ·cases h; omega
    ·cases h
  ·cases h
 ·cases h
theorem fin_ok {t : ByteArray} {f q : Nat} (h : (fin t f q).e = 0) : f ≠ q ∧ ¬ (q < t.size ∧ insB (gb t q) = true) ∧ fin t f q = ⟨t.extract f q, q, 0⟩ := by
 unfold fin at h ⊢
 split at h
 ·rename_i hc
  split at h <;> cases h
 ·rename_i hc
  rw [if_neg hc]
  exact ⟨fun e => hc (Or.inl e), fun e => hc (Or.inr e), rfl⟩
theorem runS_ok {t : ByteArray} {b : Bool} {p : Nat} (h : (runS t b p).e = 0) : rn t 15 b p ≠ 0 ∧ ¬ (p + rn t 15 b p < t.size ∧ insB (gb t (p + rn t 15 b p)) = true) ∧ runS t b p = ⟨t.extract p (p + rn t 15 b p), p + rn t 15 b p, 0⟩ := by
 obtain ⟨h1, h2, h3⟩ := fin_ok h
 exact ⟨by omega, h2, h3⟩
theorem terV_le (t : ByteArray) (kind : Int) (key : ByteArray) (p : Nat) (hp : p ≤ t.size) (x : S38) (q : Nat) (h : terV t kind key p = .good x q) : p < q ∧ q ≤ t.size := by
 unfold terV at h
 have h1 := runS_size t false p hp
 split at h
 ·rename_i h2
  obtain ⟨h3, _, h4⟩ := runS_ok h2
  cases h
  rw [h4] at h1 ⊢
  dsimp only at h1 ⊢
  omega
 ·cases h
theorem terS_le (t : ByteArray) (p : Nat) (hp : p ≤ t.size) (x : S38) (q : Nat) (h : terS t p = .good x q) : p < q ∧ q ≤ t.size := by
 unfold terS at h
 have h1 := runS_size t true p hp
 split at h
 ·rename_i h2
  have h3 := runS_size t true (p + 1) (sgn_lt h2)
  split at h
  ·cases h; omega
  ·cases h
 ·split at h
  ·rename_i hr
   obtain ⟨hr1, _, hr2⟩ := runS_ok hr
   have hr3 : (runS t true p).at_ = p + rn t 15 true p := by rw [hr2]
   split at h
   ·rename_i h2
    have := terV_le _ _ _ _ (sgn_lt h2) _ _ h
    omega
   ·split at h
    ·split at h
     ·rename_i h2
      have := terV_le _ _ _ _ (sgn_lt h2) _ _ h
      omega
     ·cases h
    ·cases h; omega
  ·cases h
def mayL {α : Type} (may : α → α → Bool) (out : List α) (x : α) : Bool := match out.getLast? with
 | none => true
 | some y => may y x
def partsS {α : Type} (t : ByteArray) (one : Nat → OneP α) (may : α → α → Bool) : Nat → Nat → List α → List α × Nat × Int
 | 0, _, out => (out, 0, 0)
 | k + 1, p, out => match one p with
  | .bad a e => ([], a, e)
  | .good x q => if q < t.size ∧ sgn t q 44 = false then ([], q, 4) else if out.length = 6 then ([], p, 5) else if mayL may out x = false then ([], p, 4) else if q < t.size then partsS t one may k (q + 1) (out ++ [x]) else (out ++ [x], 0, 0)
theorem partsF_S {α : Type} (t : ByteArray) (oneP : ByteArray → Int → Int → Option (α × ByteArray × Int × Int)) (mayP : α → α → Option Bool) (one : Nat → OneP α) (may : α → α → Bool) (hs : t.size ≤ 1000000)
  (h1 : ∀ p, p ≤ t.size → Said t (oneP t (p : Int) 0) (one p)) (h2 : ∀ p x q, p ≤ t.size → one p = .good x q → p < q ∧ q ≤ t.size) (h3 : ∀ a b, mayP a b = some (may a b)) :
  ∀ (k : Nat) (p : Nat) (out : List α), p ≤ t.size → k + out.length = 7 → partsF oneP mayP (k + 1) t (p : Int) true out = some ((partsS t one may k p out).1, ((partsS t one may k p out).2.1 : Int), (partsS t one may k p out).2.2) ∨ k = 0 := by
 intro k
 induction k with
 | zero => intro _ _ _ _; exact Or.inr rfl
 | succ k ih =>
  intro p out hp hk
  left
  have hS := h1 p hp
  have hq := h2 p
  unfold partsS partsF
  rw [if_pos rfl]
  cases ho : one p with
  | bad a e =>
   rw [ho] at hS
   obtain ⟨he, x, hx⟩ := hS
   rw [hx, Option.bind_some]
   dsimp only
   rw [sign_bad t _ _ _ he, Option.bind_some]
   dsimp only
   rw [if_neg (fun h => he h.1), Option.bind_some, if_pos he]
  | good x q =>
   rw [ho] at hS
   have hx : oneP t (p : Int) 0 = some (x, t, (q : Int), 0) := hS
   have hq1 := (hq x q hp ho).2
   have s44 := sign_f t q 44 hq1 hs
   rw [show ((44 : UInt8).toNat : Int) = 44 from rfl] at s44
   rw [hx, Option.bind_some]
   dsimp only
   rw [s44]
   have tail : ∀ (m : Bool) (q2 : Nat), (m = true → q < t.size ∧ q2 = q + 1) → (m = false → ¬ q < t.size) → ((some (t, (q2 : Int), (0 : Int)) : Option (ByteArray × Int × Int)).bind fun z => if z.2.2 ≠ 0 then some (([] : List α), z.2.1, z.2.2) else if out.length = 6 then some ([], (p : Int), 5)
     else (match out.getLast? with | none => some true | some y => mayP y x).bind fun ok => if ok = true then partsF oneP mayP (k + 1) z.1 z.2.1 m (out ++ [x]) else some ([], (p : Int), 4)) =
     some ((if out.length = 6 then (([] : List α), p, (5 : Int)) else if mayL may out x = false then ([], p, 4) else if q < t.size then partsS t one may k (q + 1) (out ++ [x]) else (out ++ [x], 0, 0)).1,
      (((if out.length = 6 then (([] : List α), p, (5 : Int)) else if mayL may out x = false then ([], p, 4) else if q < t.size then partsS t one may k (q + 1) (out ++ [x]) else (out ++ [x], 0, 0)).2.1 : Nat) : Int),
      (if out.length = 6 then (([] : List α), p, (5 : Int)) else if mayL may out x = false then ([], p, 4) else if q < t.size then partsS t one may k (q + 1) (out ++ [x]) else (out ++ [x], 0, 0)).2.2) := by
    intro m q2 hm1 hm2
    rw [Option.bind_some]
    dsimp only
    rw [if_neg (by simp)]
    by_cases h6 : out.length = 6
    ·rw [if_pos h6, if_pos h6]
    ·rw [if_neg h6, if_neg h6]
     have hmay : (match out.getLast? with | none => some true | some y => mayP y x) = some (mayL may out x) := by
      unfold mayL
      cases out.getLast? with
      | none => rfl
      | some y => exact h3 y x
     rw [hmay, Option.bind_some]
     cases mayL may out x with
     | false => rw [if_neg (by simp), if_pos rfl]
     | true =>
      rw [if_pos rfl, if_neg (by simp)]
      cases m with
      | true =>
       obtain ⟨hlt, rfl⟩ := hm1 rfl
       rw [if_pos hlt]
       rcases ih (q + 1) (out ++ [x]) hlt (by simp; omega) with h | h
       ·exact h
       ·exact absurd h (by omega)
      | false =>
       rw [if_neg (hm2 rfl)]
       unfold partsF
       rw [if_neg (by simp)]
       rfl
   cases hsg : sgn t q 44 with
   | true =>
    have hlt := sgn_lt hsg
    rw [if_pos rfl, if_neg (by simp), Option.bind_some]
    dsimp only
    rw [if_neg (by simp)]
    exact tail true (q + 1) (fun _ => ⟨hlt, rfl⟩) (fun h => by cases h)
   | false =>
    rw [if_neg (by simp), Option.bind_some]
    dsimp only
    by_cases hlt : q < t.size
    ·rw [if_pos ⟨rfl, rfl, by omega⟩, if_pos ⟨hlt, rfl⟩, fail_at, Option.bind_some, Option.bind_some]
     dsimp only
     rw [if_pos (failE_ne _ _)]
     have : failE t q = 4 := by unfold failE; rw [if_neg (by omega)]
     rw [this]
    ·rw [if_neg (fun h => hlt (by omega)), if_neg (fun h => hlt h.1)]
     exact tail false q (fun h => by cases h) (fun _ => hlt)
def wholeS {α : Type} (t : ByteArray) (one : Nat → OneP α) (may : α → α → Bool) : List α × Nat × Int := if t.size = 0 then ([], 0, 0) else partsS t one may 7 0 []
theorem partsF_whole {α : Type} (t : ByteArray) (oneP : ByteArray → Int → Int → Option (α × ByteArray × Int × Int)) (mayP : α → α → Option Bool) (one : Nat → OneP α) (may : α → α → Bool) (hs : t.size ≤ 1000000)
  (h1 : ∀ p, p ≤ t.size → Said t (oneP t (p : Int) 0) (one p)) (h2 : ∀ p x q, p ≤ t.size → one p = .good x q → p < q ∧ q ≤ t.size) (h3 : ∀ a b, mayP a b = some (may a b)) :
  partsF oneP mayP 8 t 0 (!t.toList.isEmpty) [] = some ((wholeS t one may).1, ((wholeS t one may).2.1 : Int), (wholeS t one may).2.2) := by
 unfold wholeS
 by_cases h0 : t.size = 0
 ·have e : t.toList.isEmpty = true := by
   rw [ByteArray.toList_eq, List.isEmpty_iff]
   exact List.length_eq_zero_iff.1 h0
  rw [if_pos h0, e]
  unfold partsF
  rw [if_neg (by simp)]
  rfl
 ·have e : t.toList.isEmpty = false := by
   rw [ByteArray.toList_eq, Bool.eq_false_iff]
   intro h
   exact h0 (List.length_eq_zero_iff.2 (List.isEmpty_iff.1 h))
  rw [if_neg h0, e]
  rcases partsF_S t oneP mayP one may hs h1 h2 h3 7 0 [] (by omega) rfl with h | h
  ·exact h
  ·cases h
end Go.Proofs.Ytfnfjkddlnnolaa.P
