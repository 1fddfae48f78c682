import Derived.Test.YtfnfjkddlnnolaaPf25
import Derived.Test.YtfnfjkddlnnolaaPf28
import Derived.Test.YtfnfjkddlnnolaaHcheck
import Derived.Test.YtfnfjkddlnnolaaHprint
import Derived.Test.YtfnfjkddlnnolaaPf14
import Derived.Test.YtfnfjkddlnnolaaPf15
import Derived.Test.YtfnfjkddlnnolaaHread
import Derived.Test.YtfnfjkddlnnolaaPf9
import Derived.Test.YtfnfjkddlnnolaaPf11
import Derived.Test.YtfnfjkddlnnolaaPf13
namespace Go.Proofs.Ytfnfjkddlnnolaa.P
set_option linter.unusedVariables false
set_option linter.unusedSimpArgs false
open Go.RowKit Go.Proofs.YtfnfjkddlnnolaaW.PrintWords Go.Proofs.YtfnfjkddlnnolaaW.PrintLast Go.Proofs.YtfnfjkddlnnolaaW.PrintMore

def rn (t : ByteArray) : Nat → Bool → Nat → Nat
 | 0, _, _ => 0
 | k + 1, b, p => if p < t.size ∧ fB b (gb t p) = true then rn t k false (p + 1) + 1 else 0
theorem rn_le (t : ByteArray) : ∀ (k : Nat) (b : Bool) (p : Nat), rn t k b p ≤ k
 | 0, _, _ => Nat.le_refl _
 | k + 1, b, p => by
  unfold rn
  split
  ·have := rn_le t k false (p + 1); omega
  ·omega
theorem rn_size (t : ByteArray) : ∀ (k : Nat) (b : Bool) (p : Nat), p ≤ t.size → p + rn t k b p ≤ t.size
 | 0, _, _, h => h
 | k + 1, b, p, h => by
  unfold rn
  split
  ·rename_i hc
   have := rn_size t k false (p + 1) (by omega); omega
  ·omega
structure Got where
 x : ByteArray
 at_ : Nat
 e : Int
def fin (t : ByteArray) (f q : Nat) : Got :=
 if f = q ∨ (q < t.size ∧ insB (gb t q) = true) then ⟨⟨#[]⟩, q, if q = t.size then 3 else 4⟩ else ⟨t.extract f q, q, 0⟩
def runS (t : ByteArray) (b : Bool) (p : Nat) : Got := fin t p (p + rn t 15 b p)
def sgn (t : ByteArray) (p : Nat) (c : Int) : Bool := decide (p < t.size) && (gb t p == c)
theorem runS_size (t : ByteArray) (b : Bool) (p : Nat) (h : p ≤ t.size) : p ≤ (runS t b p).at_ ∧ (runS t b p).at_ ≤ t.size := by
 unfold runS fin
 have := rn_size t 15 b p h
 split <;> (dsimp only; omega)
theorem runS_at (t : ByteArray) (b : Bool) (p : Nat) : (runS t b p).at_ = p + rn t 15 b p := by
 unfold runS fin
 split <;> rfl
theorem gb_at (s : ByteArray) (p : Nat) (h : p < s.size) : gb s p = ((s[p]'h).toNat : Int) := by
 have := bt_at s (p : Int) (by simpa using h)
 unfold gb
 simpa using this.symm
theorem gb_extract (t : ByteArray) (p q : Nat) (h : p + q < t.size) : gb (t.extract p t.size) q = gb t (p + q) := by
 have h1 : q < (t.extract p t.size).size := by rw [ByteArray.size_extract]; omega
 rw [gb_at _ _ h1, gb_at _ _ h, ByteArray.getElem_extract]
theorem runE_rn (t : ByteArray) (a : Nat) (ha : a ≤ t.size) : ∀ (k : Nat) (b : Bool) (p : Nat), p + k = 15 → runE (t.extract a t.size) (k + 1) b p = p + rn t k b (a + p)
 | 0, b, p, h => by
  unfold runE rn
  rw [if_neg (by omega)]
  rfl
 | k + 1, b, p, h => by
  have hs : (t.extract a t.size).size = t.size - a := by rw [ByteArray.size_extract]; omega
  unfold runE rn
  by_cases hp : a + p < t.size
  ·rw [gb_extract t a p hp, hs]
   by_cases hf : fB b (gb t (a + p)) = true
   ·rw [if_pos ⟨by omega, hf, by omega⟩, if_pos ⟨hp, hf⟩, runE_rn t a ha k false (p + 1) (by omega), Nat.add_assoc a p 1]
    omega
   ·rw [if_neg (fun h => hf h.2.1), if_neg (fun h => hf h.2)]
    rfl
  ·rw [hs, if_neg (fun h => hp (by omega)), if_neg (fun h => hp h.1)]
   rfl
theorem runF_spec (t : ByteArray) (b : Bool) (a : Nat) (ha : a ≤ t.size) : runF b t (a : Int) 0 = some ((runS t b a).x, t, ((runS t b a).at_ : Int), (runS t b a).e) := by
 have h := runE_rn t a ha 15 b 0 rfl
 simp only [Nat.add_zero, Nat.zero_add] at h
 rw [runF_at b t a _ ha h]
 unfold runS fin
 by_cases hc : rn t 15 b a = 0 ∨ (a + rn t 15 b a < t.size ∧ insB (gb t (a + rn t 15 b a)) = true)
 ·rw [if_pos hc, if_pos (hc.imp (fun h => by omega) id)]
 ·rw [if_neg hc, if_neg (fun h => hc (h.imp (fun h => by omega) id))]
theorem runF_bad (t : ByteArray) (b : Bool) (a e : Int) (he : e ≠ 0) : runF b t a e = some (⟨#[]⟩, t, a, e) := by
 unfold runF
 rw [if_neg he]
theorem fail_bad (t : ByteArray) (a e : Int) (he : e ≠ 0) : label_reader_fail.f t a e = some (⟨#[]⟩, t, a, e) := by
 unfold label_reader_fail.f
 rw [if_neg he]
theorem sign_bad (t : ByteArray) (a e : Int) (s : ByteArray) (he : e ≠ 0) : label_reader_sign.f t a e s = some (false, t, a, e) := by
 unfold label_reader_sign.f
 rw [if_neg he]
theorem prefix1 (t : ByteArray) (a : Nat) (c : UInt8) (ha : a ≤ t.size) : strings_HasPrefix.f (t.extract a t.size) (⟨#[c]⟩ : ByteArray) = some (sgn t a (c.toNat : Int)) := by
 have hs : (t.extract a t.size).size = t.size - a := by rw [ByteArray.size_extract]; omega
 have h1 : ((⟨#[c]⟩ : ByteArray).size : Int) = 1 := rfl
 unfold strings_HasPrefix.f stringslite_HasPrefix.f sgn
 rw [h1, hs]
 by_cases h : a < t.size
 ·rw [if_pos (by omega), if_pos (by omega), if_pos (by omega), Option.bind_some, decide_eq_true h, Bool.true_and]
  congr 1
  rw [ByteArray.toList_eq, ByteArray.toList_eq]
  have e : ((t.extract a t.size).extract 0 (1 : Int).toNat).data.toList = [t[a]'h] := by
   rw [ByteArray.extract_extract, ByteArray.data_extract]
   have e2 : min (a + (1 : Int).toNat) t.size = a + 1 := by show min (a + 1) _ = _; omega
   rw [Nat.add_zero, e2]
   rw [Array.toList_extract, List.extract_eq_take_drop]
   have h2 : a < t.data.toList.length := h
   rw [show a + 1 - a = 1 by omega, List.drop_eq_getElem_cons h2]
   rfl
  rw [e, gb_at t a h]
  show ([t[a]] == [c]) = _
  rw [Bool.eq_iff_iff]
  simp only [beq_iff_eq, List.cons.injEq, and_true]
  constructor
  ·intro h; rw [h]
  ·intro h; exact UInt8.toNat_inj.1 (by omega)
 ·rw [if_neg (by omega), Option.bind_some, decide_eq_false h, Bool.false_and]
theorem sign_f (t : ByteArray) (a : Nat) (c : UInt8) (ha : a ≤ t.size) (hs : t.size ≤ 1000000) : label_reader_sign.f t (a : Int) 0 (⟨#[c]⟩ : ByteArray) = if sgn t a (c.toNat : Int) = true then some (true, t, ((a + 1 : Nat) : Int), 0) else some (false, t, (a : Int), 0) := by
 unfold label_reader_sign.f
 rw [if_pos rfl, if_pos (by omega), if_pos (by omega), Int.toNat_natCast, prefix1 t a c ha, Option.bind_some]
 cases h : sgn t a (c.toNat : Int) with
 | true =>
  rw [if_pos rfl, if_pos rfl]
  have e : wrap64 ((a : Int) + ((⟨#[c]⟩ : ByteArray).size : Int)) = ((a + 1 : Nat) : Int) := by
   show wrap64 ((a : Int) + 1) = _
   unfold wrap64
   omega
  rw [e]
 | false => rw [if_neg (by simp), if_neg (by simp)]
def failE (t : ByteArray) (a : Nat) : Int := if a = t.size then 3 else 4
theorem failE_ne (t : ByteArray) (a : Nat) : failE t a ≠ 0 := by unfold failE; split <;> decide
theorem fail_at (t : ByteArray) (a : Nat) : label_reader_fail.f t (a : Int) 0 = some (⟨#[]⟩, t, (a : Int), failE t a) := fail_f t a
theorem name_f (t : ByteArray) (a e : Int) (hs : t.size ≤ 1000000) : label_reader_name.f t a e = runF true t a e := by unfold label_reader_name.f; rw [if_pos (by omega)]
theorem value_f (t : ByteArray) (a e : Int) (hs : t.size ≤ 1000000) : label_reader_value.f t a e = runF false t a e := by unfold label_reader_value.f; rw [if_pos (by omega)]
theorem fin_e (t : ByteArray) (f q : Nat) : (fin t f q).e = 0 ∨ (fin t f q).e = failE t q := by
 unfold fin failE
 split
 ·exact Or.inr rfl
 ·exact Or.inl rfl
inductive OneP (α : Type) where
 | bad (a : Nat) (e : Int)
 | good (x : α) (q : Nat)
def valS (t : ByteArray) (star : Bool) (key : ByteArray) (p : Nat) : OneP S43 :=
 if (star && sgn t p 42) = true then .good ⟨key, ⟨#[42]⟩⟩ (p + 1)
 else if (runS t false p).e = 0 then .good ⟨key, (runS t false p).x⟩ (runS t false p).at_ else .bad (runS t false p).at_ (runS t false p).e
def labS (t : ByteArray) (star : Bool) (p : Nat) : OneP S43 :=
 if (runS t true p).e = 0 then
  (if sgn t (runS t true p).at_ 61 = true then valS t star (runS t true p).x ((runS t true p).at_ + 1) else .bad (runS t true p).at_ (failE t (runS t true p).at_))
 else .bad (runS t true p).at_ (runS t true p).e
def terV (t : ByteArray) (kind : Int) (key : ByteArray) (p : Nat) : OneP S38 :=
 if (runS t false p).e = 0 then .good ⟨kind, key, (runS t false p).x⟩ (runS t false p).at_ else .bad (runS t false p).at_ (runS t false p).e
def terS (t : ByteArray) (p : Nat) : OneP S38 :=
 if sgn t p 33 = true then
  (if (runS t true (p + 1)).e = 0 then .good ⟨4, (runS t true (p + 1)).x, ⟨#[]⟩⟩ (runS t true (p + 1)).at_ else .bad (runS t true (p + 1)).at_ (runS t true (p + 1)).e)
 else if (runS t true p).e = 0 then
  (if sgn t (runS t true p).at_ 61 = true then terV t 1 (runS t true p).x ((runS t true p).at_ + 1)
  else if sgn t (runS t true p).at_ 33 = true then
   (if sgn t ((runS t true p).at_ + 1) 61 = true then terV t 2 (runS t true p).x ((runS t true p).at_ + 2) else .bad ((runS t true p).at_ + 1) (failE t ((runS t true p).at_ + 1)))
  else .good ⟨3, (runS t true p).x, ⟨#[]⟩⟩ (runS t true p).at_)
 else .bad (runS t true p).at_ (runS t true p).e
def Said {α : Type} (t : ByteArray) (o : Option (α × ByteArray × Int × Int)) : OneP α → Prop
 | .bad a e => e ≠ 0 ∧ ∃ x, o = some (x, t, (a : Int), e)
 | .good x q => o = some (x, t, (q : Int), 0)
theorem sgn_lt {t : ByteArray} {p : Nat} {c : Int} (h : sgn t p c = true) : p < t.size := by
 unfold sgn at h
 simp only [Bool.and_eq_true, decide_eq_true_eq] at h
 exact h.1
theorem value_said (t : ByteArray) (key : ByteArray) (p : Nat) (hp : p ≤ t.size) (hs : t.size ≤ 1000000) : Said t ((label_reader_value.f t (p : Int) 0).bind fun v => some ((⟨key, v.1⟩ : S43), v.2.1, v.2.2.1, v.2.2.2)) (valS t false key p) := by
 unfold valS
 rw [value_f t _ _ hs, runF_spec t false p hp, Option.bind_some, Bool.false_and, if_neg (by simp)]
 by_cases h : (runS t false p).e = 0
 ·rw [if_pos h, h]; rfl
 ·rw [if_neg h]; exact ⟨h, _, rfl⟩
theorem starred_said (t : ByteArray) (key : ByteArray) (p : Nat) (hp : p ≤ t.size) (hs : t.size ≤ 1000000) : Said t ((label_reader_starred.f t (p : Int) 0).bind fun v => some ((⟨key, v.1⟩ : S43), v.2.1, v.2.2.1, v.2.2.2)) (valS t true key p) := by
 unfold label_reader_starred.f valS
 have e := sign_f t p 42 hp hs
 rw [show ((42 : UInt8).toNat : Int) = 42 from rfl] at e
 rw [e]
 by_cases hc : sgn t p 42 = true
 ·rw [if_pos hc, Bool.true_and, if_pos hc]; rfl
 ·rw [if_neg hc, Bool.true_and, if_neg hc, Option.bind_some, if_neg (by simp), value_f t _ _ hs, runF_spec t false p hp]
  by_cases h : (runS t false p).e = 0
  ·rw [if_pos h, h]; rfl
  ·rw [if_neg h]; exact ⟨h, _, rfl⟩
theorem value_bad (t : ByteArray) (a e : Int) (hs : t.size ≤ 1000000) (he : e ≠ 0) : label_reader_value.f t a e = some (⟨#[]⟩, t, a, e) := by rw [value_f t _ _ hs, runF_bad t _ _ _ he]
theorem starred_bad (t : ByteArray) (a e : Int) (hs : t.size ≤ 1000000) (he : e ≠ 0) : label_reader_starred.f t a e = some (⟨#[]⟩, t, a, e) := by
 unfold label_reader_starred.f
 rw [sign_bad t a e _ he, Option.bind_some, if_neg (by simp), value_bad t a e hs he]
 rfl
theorem label_said (t : ByteArray) (star : Bool) (vf : ByteArray → Int → Int → Rr) (hs : t.size ≤ 1000000) (hv : ∀ key p, p ≤ t.size → Said t ((vf t (p : Int) 0).bind fun v => some ((⟨key, v.1⟩ : S43), v.2.1, v.2.2.1, v.2.2.2)) (valS t star key p))
  (hb : ∀ a e : Int, e ≠ 0 → vf t a e = some (⟨#[]⟩, t, a, e)) (p : Nat) (hp : p ≤ t.size) : Said t (oneL vf t (p : Int) 0) (labS t star p) := by
 unfold oneL labelF labS
 have hz := runS_size t true p hp
 rw [name_f t _ _ hs, runF_spec t true p hp, Option.bind_some]
 by_cases h : (runS t true p).e = 0
 ·rw [if_pos h, h]
  have e := sign_f t (runS t true p).at_ 61 hz.2 hs
  rw [show ((61 : UInt8).toNat : Int) = 61 from rfl] at e
  dsimp only
  rw [e]
  by_cases hc : sgn t (runS t true p).at_ 61 = true
  ·rw [if_pos hc, if_pos hc, Option.bind_some, if_pos rfl, Option.bind_some]
   have := hv (runS t true p).x ((runS t true p).at_ + 1) (sgn_lt hc)
   dsimp only
   revert this
   cases vf t (((runS t true p).at_ + 1 : Nat) : Int) 0 with
   | none => exact fun h => h
   | some v => exact fun h => h
  ·rw [if_neg hc, if_neg hc, Option.bind_some, if_neg (by simp), fail_at, Option.bind_some, Option.bind_some]
   dsimp only
   rw [hb _ _ (failE_ne _ _)]
   exact ⟨failE_ne _ _, _, rfl⟩
 ·rw [if_neg h]
  dsimp only
  rw [sign_bad t _ _ _ h, Option.bind_some, if_neg (by simp), fail_bad t _ _ h, Option.bind_some, Option.bind_some]
  dsimp only
  rw [hb _ _ h]
  exact ⟨h, _, rfl⟩
end Go.Proofs.Ytfnfjkddlnnolaa.P
namespace Go.Proofs.Ytfnfjkddlnnolaa.P
set_option linter.unusedVariables false
set_option linter.unusedSimpArgs false
open Go.RowKit Go.Proofs.YtfnfjkddlnnolaaW.PrintWords Go.Proofs.YtfnfjkddlnnolaaW.PrintLast Go.Proofs.YtfnfjkddlnnolaaW.PrintMore

theorem terV_said (t : ByteArray) (kind : Int) (key : ByteArray) (p : Nat) (hp : p ≤ t.size) (hs : t.size ≤ 1000000) : Said t ((label_reader_value.f t (p : Int) 0).bind fun v => some ((⟨kind, key, v.1⟩ : S38), v.2.1, v.2.2.1, v.2.2.2)) (terV t kind key p) := by
 unfold terV
 rw [value_f t _ _ hs, runF_spec t false p hp, Option.bind_some]
 by_cases h : (runS t false p).e = 0
 ·rw [if_pos h, h]; rfl
 ·rw [if_neg h]; exact ⟨h, _, rfl⟩
theorem term_said (t : ByteArray) (hs : t.size ≤ 1000000) (p : Nat) (hp : p ≤ t.size) : Said t (oneT t (p : Int) 0) (terS t p) := by
 unfold oneT label_reader_term.f terS
 have s33 := fun p hp => sign_f t p 33 hp hs
 have s61 := fun p hp => sign_f t p 61 hp hs
 rw [show ((33 : UInt8).toNat : Int) = 33 from rfl] at s33
 rw [show ((61 : UInt8).toNat : Int) = 61 from rfl] at s61
 rw [s33 p hp]
 by_cases h0 : sgn t p 33 = true
 ·rw [if_pos h0, if_pos h0, Option.bind_some, if_pos rfl]
  dsimp only
  rw [name_f t _ _ hs, runF_spec t true (p + 1) (sgn_lt h0), Option.bind_some, Option.bind_some]
  by_cases h : (runS t true (p + 1)).e = 0
  ·rw [if_pos h, h]; rfl
  ·rw [if_neg h]; exact ⟨h, _, rfl⟩
 ·rw [if_neg h0, if_neg h0, Option.bind_some, if_neg (by simp)]
  dsimp only
  have hz := runS_size t true p hp
  rw [name_f t _ _ hs, runF_spec t true p hp, Option.bind_some]
  dsimp only
  by_cases h : (runS t true p).e = 0
  ·rw [if_pos h, h, s61 _ hz.2]
   by_cases h1 : sgn t (runS t true p).at_ 61 = true
   ·rw [if_pos h1, if_pos h1, Option.bind_some, if_pos rfl]
    have := terV_said t 1 (runS t true p).x ((runS t true p).at_ + 1) (sgn_lt h1) hs
    dsimp only
    revert this
    cases label_reader_value.f t (((runS t true p).at_ + 1 : Nat) : Int) 0 with
    | none => exact fun h => h
    | some v => exact fun h => h
   ·rw [if_neg h1, if_neg h1, Option.bind_some, if_neg (by simp)]
    dsimp only
    rw [s33 _ hz.2]
    by_cases h2 : sgn t (runS t true p).at_ 33 = true
    ·rw [if_pos h2, if_pos h2, Option.bind_some, if_pos rfl]
     dsimp only
     rw [s61 _ (sgn_lt h2)]
     by_cases h3 : sgn t ((runS t true p).at_ + 1) 61 = true
     ·rw [if_pos h3, if_pos h3, Option.bind_some, if_pos rfl]
      have := terV_said t 2 (runS t true p).x ((runS t true p).at_ + 2) (sgn_lt h3) hs
      dsimp only
      revert this
      cases label_reader_value.f t (((runS t true p).at_ + 2 : Nat) : Int) 0 with
      | none => exact fun h => h
      | some v => exact fun h => h
     ·rw [if_neg h3, if_neg h3, Option.bind_some, if_neg (by simp)]
      dsimp only
      rw [fail_at, Option.bind_some]
      dsimp only
      rw [value_bad t _ _ hs (failE_ne _ _)]
      exact ⟨failE_ne _ _, _, rfl⟩
    ·rw [if_neg h2, if_neg h2, Option.bind_some, if_neg (by simp)]
     rfl
  ·rw [if_neg h, sign_bad t _ _ _ h, Option.bind_some, if_neg (by simp)]
   dsimp only
   rw [sign_bad t _ _ _ h, Option.bind_some, if_neg (by simp)]
   exact ⟨h, _, rfl⟩
theorem labS_le (t : ByteArray) (star : Bool) (p : Nat) (hp : p ≤ t.size) (x : S43) (q : Nat) (h : labS t star p = .good x q) : p < q ∧ q ≤ t.size := by
 unfold labS valS at h
 have h1 := runS_size t true p hp
 split at h
 ·split at h
  ·rename_i h2
   have h3 := sgn_lt h2
   have h4 := runS_size t false ((runS t true p).at_ + 1) h3
   split at h
   ·rename_i h5
    have h6 := sgn_lt (Bool.and_eq_true _ _ ▸ h5 : _ ∧ _).2
    cases h; omega
   ·split at h
    ·cases h; omega
    ·cases h
  ·cases h
 ·cases h
theorem fin_ok {t : ByteArray} {f q : Nat} (h : (fin t f q).e = 0) : f ≠ q ∧ ¬ (q < t.size ∧ insB (gb t q) = true) ∧ fin t f q = ⟨t.extract f q, q, 0⟩ := by
 unfold fin at h ⊢
 split at h
 ·rename_i hc
  split at h <;> cases h
 ·rename_i hc
  rw [if_neg hc]
  exact ⟨fun e => hc (Or.inl e), fun e => hc (Or.inr e), rfl⟩
theorem runS_ok {t : ByteArray} {b : Bool} {p : Nat} (h : (runS t b p).e = 0) : rn t 15 b p ≠ 0 ∧ ¬ (p + rn t 15 b p < t.size ∧ insB (gb t (p + rn t 15 b p)) = true) ∧ runS t b p = ⟨t.extract p (p + rn t 15 b p), p + rn t 15 b p, 0⟩ := by
 obtain ⟨h1, h2, h3⟩ := fin_ok h
 exact ⟨by omega, h2, h3⟩
theorem terV_le (t : ByteArray) (kind : Int) (key : ByteArray) (p : Nat) (hp : p ≤ t.size) (x : S38) (q : Nat) (h : terV t kind key p = .good x q) : p < q ∧ q ≤ t.size := by
 unfold terV at h
 have h1 := runS_size t false p hp
 split at h
 ·rename_i h2
  obtain ⟨h3, _, h4⟩ := runS_ok h2
  cases h
  rw [h4] at h1 ⊢
  dsimp only at h1 ⊢
  omega
 ·cases h
theorem terS_le (t : ByteArray) (p : Nat) (hp : p ≤ t.size) (x : S38) (q : Nat) (h : terS t p = .good x q) : p < q ∧ q ≤ t.size := by
 unfold terS at h
 have h1 := runS_size t true p hp
 split at h
 ·rename_i h2
  have h3 := runS_size t true (p + 1) (sgn_lt h2)
  split at h
  ·cases h; omega
  ·cases h
 ·split at h
  ·rename_i hr
   obtain ⟨hr1, _, hr2⟩ := runS_ok hr
   have hr3 : (runS t true p).at_ = p + rn t 15 true p := by rw [hr2]
   split at h
   ·rename_i h2
    have := terV_le _ _ _ _ (sgn_lt h2) _ _ h
    omega
   ·split at h
    ·split at h
     ·rename_i h2
      have := terV_le _ _ _ _ (sgn_lt h2) _ _ h
      omega
     ·cases h
    ·cases h; omega
  ·cases h
def mayL {α : Type} (may : α → α → Bool) (out : List α) (x : α) : Bool := match out.getLast? with
 | none => true
 | some y => may y x
def partsS {α : Type} (t : ByteArray) (one : Nat → OneP α) (may : α → α → Bool) : Nat → Nat → List α → List α × Nat × Int
 | 0, _, out => (out, 0, 0)
 | k + 1, p, out => match one p with
  | .bad a e => ([], a, e)
  | .good x q => if q < t.size ∧ sgn t q 44 = false then ([], q, 4) else if out.length = 6 then ([], p, 5) else if mayL may out x = false then ([], p, 4) else if q < t.size then partsS t one may k (q + 1) (out ++ [x]) else (out ++ [x], 0, 0)
theorem partsF_S {α : Type} (t : ByteArray) (oneP : ByteArray → Int → Int → Option (α × ByteArray × Int × Int)) (mayP : α → α → Option Bool) (one : Nat → OneP α) (may : α → α → Bool) (hs : t.size ≤ 1000000)
  (h1 : ∀ p, p ≤ t.size → Said t (oneP t (p : Int) 0) (one p)) (h2 : ∀ p x q, p ≤ t.size → one p = .good x q → p < q ∧ q ≤ t.size) (h3 : ∀ a b, mayP a b = some (may a b)) :
  ∀ (k : Nat) (p : Nat) (out : List α), p ≤ t.size → k + out.length = 7 → partsF oneP mayP (k + 1) t (p : Int) true out = some ((partsS t one may k p out).1, ((partsS t one may k p out).2.1 : Int), (partsS t one may k p out).2.2) ∨ k = 0 := by
 intro k
 induction k with
 | zero => intro _ _ _ _; exact Or.inr rfl
 | succ k ih =>
  intro p out hp hk
  left
  have hS := h1 p hp
  have hq := h2 p
  unfold partsS partsF
  rw [if_pos rfl]
  cases ho : one p with
  | bad a e =>
   rw [ho] at hS
   obtain ⟨he, x, hx⟩ := hS
   rw [hx, Option.bind_some]
   dsimp only
   rw [sign_bad t _ _ _ he, Option.bind_some]
   dsimp only
   rw [if_neg (fun h => he h.1), Option.bind_some, if_pos he]
  | good x q =>
   rw [ho] at hS
   have hx : oneP t (p : Int) 0 = some (x, t, (q : Int), 0) := hS
   have hq1 := (hq x q hp ho).2
   have s44 := sign_f t q 44 hq1 hs
   rw [show ((44 : UInt8).toNat : Int) = 44 from rfl] at s44
   rw [hx, Option.bind_some]
   dsimp only
   rw [s44]
   have tail : ∀ (m : Bool) (q2 : Nat), (m = true → q < t.size ∧ q2 = q + 1) → (m = false → ¬ q < t.size) → ((some (t, (q2 : Int), (0 : Int)) : Option (ByteArray × Int × Int)).bind fun z => if z.2.2 ≠ 0 then some (([] : List α), z.2.1, z.2.2) else if out.length = 6 then some ([], (p : Int), 5)
     else (match out.getLast? with | none => some true | some y => mayP y x).bind fun ok => if ok = true then partsF oneP mayP (k + 1) z.1 z.2.1 m (out ++ [x]) else some ([], (p : Int), 4)) =
     some ((if out.length = 6 then (([] : List α), p, (5 : Int)) else if mayL may out x = false then ([], p, 4) else if q < t.size then partsS t one may k (q + 1) (out ++ [x]) else (out ++ [x], 0, 0)).1,
      (((if out.length = 6 then (([] : List α), p, (5 : Int)) else if mayL may out x = false then ([], p, 4) else if q < t.size then partsS t one may k (q + 1) (out ++ [x]) else (out ++ [x], 0, 0)).2.1 : Nat) : Int),
      (if out.length = 6 then (([] : List α), p, (5 : Int)) else if mayL may out x = false then ([], p, 4) else if q < t.size then partsS t one may k (q + 1) (out ++ [x]) else (out ++ [x], 0, 0)).2.2) := by
    intro m q2 hm1 hm2
    rw [Option.bind_some]
    dsimp only
    rw [if_neg (by simp)]
    by_cases h6 : out.length = 6
    ·rw [if_pos h6, if_pos h6]
    ·rw [if_neg h6, if_neg h6]
     have hmay : (match out.getLast? with | none => some true | some y => mayP y x) = some (mayL may out x) := by
      unfold mayL
      cases out.getLast? with
      | none => rfl
      | some y => exact h3 y x
     rw [hmay, Option.bind_some]
     cases mayL may out x with
     | false => rw [if_neg (by simp), if_pos rfl]
     | true =>
      rw [if_pos rfl, if_neg (by simp)]
      cases m with
      | true =>
       obtain ⟨hlt, rfl⟩ := hm1 rfl
       rw [if_pos hlt]
       rcases ih (q + 1) (out ++ [x]) hlt (by simp; omega) with h | h
       ·exact h
       ·exact absurd h (by omega)
      | false =>
       rw [if_neg (hm2 rfl)]
       unfold partsF
       rw [if_neg (by simp)]
       rfl
   cases hsg : sgn t q 44 with
   | true =>
    have hlt := sgn_lt hsg
    rw [if_pos rfl, if_neg (by simp), Option.bind_some]
    dsimp only
    rw [if_neg (by simp)]
    exact tail true (q + 1) (fun _ => ⟨hlt, rfl⟩) (fun h => by cases h)
   | false =>
    rw [if_neg (by simp), Option.bind_some]
    dsimp only
    by_cases hlt : q < t.size
    ·rw [if_pos ⟨rfl, rfl, by omega⟩, if_pos ⟨hlt, rfl⟩, fail_at, Option.bind_some, Option.bind_some]
     dsimp only
     rw [if_pos (failE_ne _ _)]
     have : failE t q = 4 := by unfold failE; rw [if_neg (by omega)]
     rw [this]
    ·rw [if_neg (fun h => hlt (by omega)), if_neg (fun h => hlt h.1)]
     exact tail false q (fun h => by cases h) (fun _ => hlt)
def wholeS {α : Type} (t : ByteArray) (one : Nat → OneP α) (may : α → α → Bool) : List α × Nat × Int := if t.size = 0 then ([], 0, 0) else partsS t one may 7 0 []
theorem partsF_whole {α : Type} (t : ByteArray) (oneP : ByteArray → Int → Int → Option (α × ByteArray × Int × Int)) (mayP : α → α → Option Bool) (one : Nat → OneP α) (may : α → α → Bool) (hs : t.size ≤ 1000000)
  (h1 : ∀ p, p ≤ t.size → Said t (oneP t (p : Int) 0) (one p)) (h2 : ∀ p x q, p ≤ t.size → one p = .good x q → p < q ∧ q ≤ t.size) (h3 : ∀ a b, mayP a b = some (may a b)) :
  partsF oneP mayP 8 t 0 (!t.toList.isEmpty) [] = some ((wholeS t one may).1, ((wholeS t one may).2.1 : Int), (wholeS t one may).2.2) := by
 unfold wholeS
 by_cases h0 : t.size = 0
 ·have e : t.toList.isEmpty = true := by
   rw [ByteArray.toList_eq, List.isEmpty_iff]
   exact List.length_eq_zero_iff.1 h0
  rw [if_pos h0, e]
  unfold partsF
  rw [if_neg (by simp)]
  rfl
 ·have e : t.toList.isEmpty = false := by
   rw [ByteArray.toList_eq, Bool.eq_false_iff]
   intro h
   exact h0 (List.length_eq_zero_iff.2 (List.isEmpty_iff.1 h))
  rw [if_neg h0, e]
  rcases partsF_S t oneP mayP one may hs h1 h2 h3 7 0 [] (by omega) rfl with h | h
  ·exact h
  ·cases h
end Go.Proofs.Ytfnfjkddlnnolaa.P
namespace Go.Proofs.Ytfnfjkddlnnolaa.P
set_option linter.unusedVariables false
set_option linter.unusedSimpArgs false
open Go.RowKit Go.Proofs.YtfnfjkddlnnolaaW.PrintWords Go.Proofs.YtfnfjkddlnnolaaW.PrintLast Go.Proofs.YtfnfjkddlnnolaaW.PrintMore

theorem cmp_cases : ∀ (a b : List UInt8), (Lib.compareBytes a b = -1 ∧ Op.bytesLess a b = true ∧ a ≠ b) ∨ (Lib.compareBytes a b = 1 ∧ Op.bytesLess a b = false ∧ a ≠ b) ∨ (Lib.compareBytes a b = 0 ∧ Op.bytesLess a b = false ∧ a = b)
 | [], [] => Or.inr (Or.inr ⟨rfl, rfl, rfl⟩)
 | [], _ :: _ => Or.inl ⟨rfl, rfl, by simp⟩
 | _ :: _, [] => Or.inr (Or.inl ⟨rfl, rfl, by simp⟩)
 | x :: a, y :: b => by
  have ih := cmp_cases a b
  unfold Lib.compareBytes Op.bytesLess
  by_cases h1 : x < y
  ·left
   rw [if_pos h1, decide_eq_true h1]
   exact ⟨rfl, rfl, fun e => by cases e; exact absurd h1 (UInt8.lt_irrefl _)⟩
  ·rw [if_neg h1, decide_eq_false h1, Bool.false_or]
   by_cases h2 : y < x
   ·right; left
    rw [if_pos h2]
    have hne : x ≠ y := fun e => by subst e; exact absurd h2 (UInt8.lt_irrefl _)
    refine ⟨rfl, ?_, fun e => hne (by cases e; rfl)⟩
    rw [beq_eq_false_iff_ne.2 hne]; rfl
   ·rw [if_neg h2]
    have he : x = y := by
     apply UInt8.toNat_inj.1
     have h3 := UInt8.not_lt.1 h1
     have h4 := UInt8.not_lt.1 h2
     rw [UInt8.le_iff_toNat_le] at h3 h4
     omega
    subst he
    rw [beq_self_eq_true, Bool.true_and]
    rcases ih with ⟨h3, h4, h5⟩ | ⟨h3, h4, h5⟩ | ⟨h3, h4, h5⟩
    ·exact Or.inl ⟨h3, h4, fun e => h5 (by cases e; rfl)⟩
    ·exact Or.inr (Or.inl ⟨h3, h4, fun e => h5 (by cases e; rfl)⟩)
    ·exact Or.inr (Or.inr ⟨h3, h4, by rw [h5]⟩)
def riseB (star : Bool) (k1 v1 k2 v2 : ByteArray) : Bool := Op.bytesLess k1.data.toList k2.data.toList || (star && (k1.data.toList == k2.data.toList && Op.bytesLess v1.data.toList v2.data.toList))
theorem byKey_f (a b : S43) : byKeyL a b = some (riseB false a.f0 a.f1 b.f0 b.f1) := by
 unfold byKeyL label_byKey.f riseB
 rw [ByteArray.toList_eq, ByteArray.toList_eq, Bool.false_and, Bool.or_false]
theorem or2 (a b : Int) : cmp_Or_int.f 3 [a, b] = some (if a = 0 then b else a) := by
 unfold cmp_Or_int.f
 have l2 : (([a, b] : List Int).length : Int) = 2 := rfl
 rw [l2, cmp_Or_int.l0, l2, if_pos (by decide), if_pos (by decide), if_pos (by decide)]
 have e0 : rd [a, b] 0 = a := rfl
 rw [e0]
 by_cases h : a = 0
 ·rw [if_pos h, if_pos h]
  have e1 : wrap64 (0 + 1) = 1 := by unfold wrap64; omega
  rw [e1, cmp_Or_int.l0, l2, if_pos (by decide), if_pos (by decide), if_pos (by decide)]
  have e2 : rd [a, b] 1 = b := rfl
  rw [e2]
  by_cases h2 : b = 0
  ·rw [if_pos h2]
   have e3 : wrap64 (1 + 1) = 2 := by unfold wrap64; omega
   rw [e3, cmp_Or_int.l0, if_neg (by decide), h2]
  ·rw [if_neg h2]
 ·rw [if_neg h, if_neg h]
theorem byBoth_f (a b : S43) : byBothL a b = some (riseB true a.f0 a.f1 b.f0 b.f1) := by
 unfold byBothL label_byBoth.f label_compare.f strings_Compare.f riseB
 rw [Option.bind_some, Option.bind_some, or2]
 simp only [Option.bind_some, Bool.true_and]
 congr 1
 rcases cmp_cases a.f0.data.toList b.f0.data.toList with ⟨h1, h2, h3⟩ | ⟨h1, h2, h3⟩ | ⟨h1, h2, h3⟩
 ·rw [h1, h2]; rfl
 ·rw [h1, h2, beq_eq_false_iff_ne.2 h3]; rfl
 ·rw [h1, h2, beq_iff_eq.2 h3, if_pos rfl, Bool.false_or, Bool.true_and]
  rcases cmp_cases a.f1.data.toList b.f1.data.toList with ⟨h4, h5, _⟩ | ⟨h4, h5, _⟩ | ⟨h4, h5, _⟩ <;> rw [h4, h5] <;> rfl
def riseL (star : Bool) (a b : S43) : Bool := riseB star a.f0 a.f1 b.f0 b.f1
theorem labels_f (t : ByteArray) (hs : t.size ≤ 1000000) : label_Labels.f t = some ((wholeS t (labS t false) (riseL false)).1, ((wholeS t (labS t false) (riseL false)).2.1 : Int), (wholeS t (labS t false) (riseL false)).2.2) :=
 partsF_whole t _ _ _ _ hs (label_said t false _ hs (fun key p hp => value_said t key p hp hs) (fun a e he => value_bad t a e hs he)) (fun p x q hp h => labS_le t false p hp x q h) byKey_f
theorem borne_f (t : ByteArray) (hs : t.size ≤ 1000000) : label_Borne.f t = some ((wholeS t (labS t true) (riseL true)).1, ((wholeS t (labS t true) (riseL true)).2.1 : Int), (wholeS t (labS t true) (riseL true)).2.2) :=
 partsF_whole t _ _ _ _ hs (label_said t true _ hs (fun key p hp => starred_said t key p hp hs) (fun a e he => starred_bad t a e hs he)) (fun p x q hp h => labS_le t true p hp x q h) byBoth_f
theorem terms_f (t : ByteArray) (hs : t.size ≤ 1000000) : label_Terms.f t = some ((wholeS t (terS t) (fun _ _ => true)).1, ((wholeS t (terS t) (fun _ _ => true)).2.1 : Int), (wholeS t (terS t) (fun _ _ => true)).2.2) :=
 partsF_whole t _ _ _ _ hs (fun p hp => term_said t hs p hp) (fun p x q hp h => terS_le t p hp x q h) (fun _ _ => rfl)
end Go.Proofs.Ytfnfjkddlnnolaa.P
namespace Go.Proofs.Ytfnfjkddlnnolaa.P
set_option linter.unusedVariables false
set_option linter.unusedSimpArgs false
open Go.RowKit Go.Proofs.YtfnfjkddlnnolaaW.PrintWords Go.Proofs.YtfnfjkddlnnolaaW.PrintLast Go.Proofs.YtfnfjkddlnnolaaW.PrintMore
theorem wsm {a b : Int} (h : a = b) (h1 : -1000000000 ≤ b) (h2 : b ≤ 1000000000) : wrap64 a = b := by subst h; unfold wrap64; omega
theorem sma_ins {c : Int} (h : smaB c = true) : insB c = true := by unfold insB; rw [h]; rfl
end Go.Proofs.Ytfnfjkddlnnolaa.P
namespace Go.Proofs.Ytfnfjkddlnnolaa.P
set_option linter.unusedVariables false
set_option linter.unusedSimpArgs false
open Go.RowKit Go.Proofs.YtfnfjkddlnnolaaW.PrintWords Go.Proofs.YtfnfjkddlnnolaaW.PrintLast Go.Proofs.YtfnfjkddlnnolaaW.PrintMore
theorem partsS_end {α : Type} (t : ByteArray) (one : Nat → OneP α) (may : α → α → Bool) : ∀ (m p : Nat) (out : List α), m + out.length = 7 → ((∀ p a e, one p = .bad a e → e ≠ 0)) →
  ((partsS t one may m p out).2.2 = 0 → (partsS t one may m p out).2.1 = 0) ∧ ((partsS t one may m p out).2.2 ≠ 0 → (partsS t one may m p out).1 = []) ∧ (partsS t one may m p out).1.length ≤ 7
 | 0, p, out, h, _ => ⟨fun _ => rfl, fun h => absurd rfl h, by unfold partsS; dsimp only; omega⟩
 | m + 1, p, out, h, hb => by
  unfold partsS
  cases ho : one p with
  | bad a e => exact ⟨fun h => absurd h (hb p a e ho), fun _ => rfl, by simp⟩
  | good x q =>
   dsimp only
   by_cases c1 : q < t.size ∧ sgn t q 44 = false
   ·rw [if_pos c1]; exact ⟨(fun h => by cases h), fun _ => rfl, by simp⟩
   rw [if_neg c1]
   by_cases c2 : out.length = 6
   ·rw [if_pos c2]; exact ⟨(fun h => by cases h), fun _ => rfl, by simp⟩
   rw [if_neg c2]
   by_cases c3 : mayL may out x = false
   ·rw [if_pos c3]; exact ⟨(fun h => by cases h), fun _ => rfl, by simp⟩
   rw [if_neg c3]
   by_cases c4 : q < t.size
   ·rw [if_pos c4]; exact partsS_end t one may m (q + 1) (out ++ [x]) (by simp; omega) hb
   ·rw [if_neg c4]; exact ⟨fun _ => rfl, fun h => absurd rfl h, by simp; omega⟩
theorem runS_bad {t : ByteArray} {b : Bool} {p : Nat} : (runS t b p).e = 0 ∨ (runS t b p).e = failE t (runS t b p).at_ := by
 rw [runS_at]
 exact fin_e t p _
theorem labS_bad (t : ByteArray) (star : Bool) (p a : Nat) (e : Int) (h : labS t star p = .bad a e) : e ≠ 0 := by
 unfold labS valS at h
 split at h
 ·split at h
  ·split at h
   ·cases h
   ·split at h
    ·cases h
    ·rename_i hc; cases h; exact hc
  ·cases h; exact failE_ne _ _
 ·rename_i hc; cases h; exact hc
theorem terS_bad (t : ByteArray) (p a : Nat) (e : Int) (h : terS t p = .bad a e) : e ≠ 0 := by
 unfold terS terV at h
 split at h
 ·split at h
  ·cases h
  ·rename_i hc; cases h; exact hc
 ·split at h
  ·split at h
   ·split at h
    ·cases h
    ·rename_i hc; cases h; exact hc
   ·split at h
    ·split at h
     ·split at h
      ·cases h
      ·rename_i hc; cases h; exact hc
     ·cases h; exact failE_ne _ _
    ·cases h
  ·rename_i hc; cases h; exact hc
theorem wholeS_end {α : Type} (t : ByteArray) (one : Nat → OneP α) (may : α → α → Bool) (hb : ∀ p a e, one p = .bad a e → e ≠ 0) : ((wholeS t one may).2.2 = 0 → (wholeS t one may).2.1 = 0) ∧ ((wholeS t one may).2.2 ≠ 0 → (wholeS t one may).1 = []) ∧ (wholeS t one may).1.length ≤ 7 := by
 unfold wholeS
 split
 ·exact ⟨fun _ => rfl, fun h => absurd rfl h, by simp⟩
 ·exact partsS_end t one may 7 0 [] rfl hb
end Go.Proofs.Ytfnfjkddlnnolaa.P
namespace Go.Proofs.Ytfnfjkddlnnolaa.P
set_option linter.unusedVariables false
set_option linter.unusedSimpArgs false
open Go.RowKit Go.Proofs.YtfnfjkddlnnolaaW.PrintWords Go.Proofs.YtfnfjkddlnnolaaW.PrintLast Go.Proofs.YtfnfjkddlnnolaaW.PrintMore

theorem bytes_eq {a b : ByteArray} (h : a.data.toList = b.data.toList) : a = b := by
 apply ByteArray.ext
 exact Array.toList_inj.1 h
theorem app_list (a b : ByteArray) : (a ++ b).data.toList = a.data.toList ++ b.data.toList := by rw [ByteArray.data_append, Array.toList_append]
theorem ext_join (t : ByteArray) {a b c : Nat} (h1 : a ≤ b) (h2 : b ≤ c) : t.extract a b ++ t.extract b c = t.extract a c := by
 rw [ByteArray.extract_append_extract, Nat.min_eq_left h1, Nat.max_eq_right h2]
theorem ext_one {t : ByteArray} {q : Nat} (c : UInt8) (h : sgn t q (c.toNat : Int) = true) : t.extract q (q + 1) = ⟨#[c]⟩ := by
 have hq := sgn_lt h
 unfold sgn at h
 simp only [Bool.and_eq_true, beq_iff_eq] at h
 have h2 := h.2
 rw [gb_at t q hq] at h2
 apply bytes_eq
 rw [ByteArray.data_extract, Array.toList_extract, List.extract_eq_take_drop, show q + 1 - q = 1 by omega]
 have h3 : q < t.data.toList.length := hq
 rw [List.drop_eq_getElem_cons h3]
 show [t.data.toList[q]] = [c]
 congr 1
 apply UInt8.toNat_inj.1
 have : t.data.toList[q] = t[q] := rfl
 rw [this]
 omega
theorem labS_text {t : ByteArray} {star : Bool} {p : Nat} (hp : p ≤ t.size) {x : S43} {q : Nat} (h : labS t star p = .good x q) : textL x = t.extract p q := by
 unfold labS valS at h
 split at h
 ·rename_i h1
  obtain ⟨a1, a2, a3⟩ := runS_ok h1
  rw [a3] at h
  dsimp only at h
  split at h
  ·rename_i h2
   have h3 := sgn_lt h2
   have e2 := ext_one (t := t) 61 h2
   have key : t.extract p (p + rn t 15 true p) ++ (⟨#[61]⟩ : ByteArray) = t.extract p (p + rn t 15 true p + 1) := by
    rw [← e2, ext_join t (by omega) (by omega)]
   split at h
   ·rename_i h4
    have h5 : sgn t (p + rn t 15 true p + 1) 42 = true := by
     simp only [Bool.and_eq_true] at h4
     exact h4.2
    have e5 := ext_one (t := t) 42 h5
    cases h
    unfold textL
    rw [key, ← e5, ext_join t (by omega) (by omega)]
   ·split at h
    ·rename_i h4
     obtain ⟨b1, b2, b3⟩ := runS_ok h4
     rw [b3] at h
     cases h
     unfold textL
     rw [key, ext_join t (by omega) (by omega)]
    ·cases h
  ·cases h
 ·cases h
theorem terV_text {t : ByteArray} {kind : Int} {key : ByteArray} {p : Nat} {x : S38} {q : Nat} (h : terV t kind key p = .good x q) : x.f0 = kind ∧ x.f1 = key ∧ x.f2 = t.extract p q ∧ p ≤ q ∧ x.f2 = (runS t false p).x ∧ (runS t false p).e = 0 := by
 unfold terV at h
 split at h
 ·rename_i h4
  obtain ⟨b1, b2, b3⟩ := runS_ok h4
  rw [b3] at h
  cases h
  exact ⟨rfl, rfl, rfl, by dsimp only; omega, by rw [b3], h4⟩
 ·cases h
theorem terS_text {t : ByteArray} {p : Nat} (hp : p ≤ t.size) {x : S38} {q : Nat} (h : terS t p = .good x q) : textT x = t.extract p q := by
 unfold terS at h
 split at h
 ·rename_i h0
  have e0 := ext_one (t := t) 33 h0
  split at h
  ·rename_i h1
   obtain ⟨a1, a2, a3⟩ := runS_ok h1
   rw [a3] at h
   cases h
   unfold textT
   dsimp only
   rw [if_neg (by decide), if_neg (by decide), if_neg (by decide), if_pos rfl, ← e0]
   rw [ext_join t (by omega) (by omega)]
  ·cases h
 ·split at h
  ·rename_i h1
   obtain ⟨a1, a2, a3⟩ := runS_ok h1
   rw [a3] at h
   dsimp only at h
   split at h
   ·rename_i h2
    have e2 := ext_one (t := t) 61 h2
    obtain ⟨b1, b2, b3, b4, _, _⟩ := terV_text h
    unfold textT
    rw [b1, if_pos rfl, b2, b3, ← e2, ext_join t (by omega) (by omega), ext_join t (by omega) (by omega)]
   ·split at h
    ·rename_i h3
     have e3 := ext_one (t := t) 33 h3
     split at h
     ·rename_i h4
      have e4 := ext_one (t := t) 61 h4
      have e5 : (⟨#[33, 61]⟩ : ByteArray) = t.extract (p + rn t 15 true p) (p + rn t 15 true p + 2) := by
       rw [← ext_join t (b := p + rn t 15 true p + 1) (by omega) (by omega), e3, e4]
       rfl
      obtain ⟨b1, b2, b3, b4, _, _⟩ := terV_text h
      unfold textT
      rw [b1, if_neg (by decide), if_pos rfl, b2, b3, e5, ext_join t (by omega) (by omega), ext_join t (by omega) (by omega)]
     ·cases h
    ·cases h
     unfold textT
     dsimp only
     rw [if_neg (by decide), if_neg (by decide), if_pos rfl]
  ·cases h
theorem rn_ins (t : ByteArray) : ∀ (k : Nat) (b : Bool) (p i : Nat), i < rn t k b p → insB (gb t (p + i)) = true ∧ (i = 0 → fB b (gb t p) = true)
 | 0, _, _, _, h => absurd h (Nat.not_lt_zero _)
 | k + 1, b, p, i, h => by
  unfold rn at h
  split at h
  ·rename_i hc
   cases i with
   | zero =>
    refine ⟨?_, fun _ => hc.2⟩
    cases b with
    | true => exact sma_ins hc.2
    | false => exact hc.2
   | succ i =>
    refine ⟨?_, fun h => by cases h⟩
    have := (rn_ins t k false (p + 1) i (by omega)).1
    rwa [show p + 1 + i = p + (i + 1) by omega] at this
  ·exact absurd h (Nat.not_lt_zero _)
theorem idx_none (s : ByteArray) (h : ∀ i, i < s.size → insB (gb s i) = true) : ∀ (f p : Nat), Lib.idxFuncFrom outN true s f p = -1
 | 0, _ => rfl
 | f + 1, p => by
  unfold Lib.idxFuncFrom
  by_cases hp : p < s.size
  ·have h1 := ascii_fB false s p hp
   have h2 : fB false (gb s p) = true := h p hp
   have h3 : insB (((Utf8.decode s p).1 : Nat) : Int) = true := by
    have := h1.1
    rw [h2] at this
    exact this
   rw [if_pos hp, if_neg (by unfold outN; rw [h3]; decide)]
   exact idx_none s h f _
  ·rw [if_neg hp]
theorem valB_of (s : ByteArray) (h0 : s.size ≠ 0) (h1 : s.size ≤ 15) (h : ∀ i, i < s.size → insB (gb s i) = true) : valB s = true := by
 have e : s.toList.isEmpty = false := by
  rw [ByteArray.toList_eq, Bool.eq_false_iff]
  intro h
  exact h0 (List.length_eq_zero_iff.2 (List.isEmpty_iff.1 h))
 unfold valB Lib.idxFunc
 rw [idx_none s h, e, decide_eq_true (by omega)]
 decide
theorem name_of (s : ByteArray) (h : valB s = true) (h0 : s.size ≠ 0) (h1 : smaB (gb s 0) = true) : label_Name.f s = some true := by
 unfold label_Name.f label_Value.f
 rw [h, Option.bind_some, if_pos rfl, if_pos (by omega), small_f]
 have : wrap32 (bt s 0) = gb s 0 := by
  have h2 := bt_range s 0
  show wrap32 (bt s 0) = bt s ((0 : Nat) : Int)
  rw [show ((0 : Nat) : Int) = 0 from rfl]
  unfold wrap32
  omega
 rw [this, h1]
 rfl
theorem gb_ext (t : ByteArray) (p n i : Nat) (h : p + n ≤ t.size) (hi : i < n) : gb (t.extract p (p + n)) i = gb t (p + i) := by
 have h1 : i < (t.extract p (p + n)).size := by rw [ByteArray.size_extract]; omega
 rw [gb_at _ _ h1, gb_at _ _ (by omega : p + i < t.size), ByteArray.getElem_extract]
theorem runS_val {t : ByteArray} {b : Bool} {p : Nat} (hp : p ≤ t.size) (h : (runS t b p).e = 0) : valB (runS t b p).x = true ∧ (b = true → label_Name.f (runS t b p).x = some true) ∧ (runS t b p).x.size ≤ 15 := by
 obtain ⟨a1, a2, a3⟩ := runS_ok h
 have hz := rn_size t 15 b p hp
 have h15 := rn_le t 15 b p
 have hs : (runS t b p).x.size = rn t 15 b p := by rw [a3]; dsimp only; rw [ByteArray.size_extract]; omega
 have hb : ∀ i, i < (runS t b p).x.size → insB (gb (runS t b p).x i) = true := by
  intro i hi
  rw [hs] at hi
  rw [a3]
  dsimp only
  rw [gb_ext t p _ i hz hi]
  exact (rn_ins t 15 b p i hi).1
 have hv := valB_of _ (by omega) (by omega) hb
 refine ⟨hv, fun hb1 => name_of _ hv (by omega) ?_, by omega⟩
 rw [a3]
 dsimp only
 rw [gb_ext t p _ 0 hz (by omega)]
 have := (rn_ins t 15 b p 0 (by omega)).2 rfl
 rw [hb1] at this
 rw [Nat.add_zero]
 exact this
def goodL (star : Bool) (x : S43) : Prop := label_Name.f x.f0 = some true ∧ (if star = true then label_star.f x.f1 = some true else label_Value.f x.f1 = some true) ∧ x.f0.size ≤ 15 ∧ x.f1.size ≤ 15
theorem star_val {s : ByteArray} (h : valB s = true) : label_star.f s = some true := by
 unfold label_star.f label_Value.f
 split
 ·rfl
 ·rw [h]; rfl
theorem star_star : label_star.f (⟨#[42]⟩ : ByteArray) = some true := by
 unfold label_star.f
 rw [if_pos (by rw [ByteArray.toList_eq])]
theorem labS_good {t : ByteArray} {star : Bool} {p : Nat} (hp : p ≤ t.size) {x : S43} {q : Nat} (h : labS t star p = .good x q) : goodL star x := by
 unfold labS valS at h
 split at h
 ·rename_i h1
  have hn := runS_val hp h1
  have hz := runS_size t true p hp
  split at h
  ·rename_i h2
   have h3 := sgn_lt h2
   split at h
   ·rename_i h4
    have hst : star = true := by
     simp only [Bool.and_eq_true] at h4
     exact h4.1
    cases h
    refine ⟨hn.2.1 rfl, ?_, hn.2.2, (show (1 : Nat) ≤ 15 by decide)⟩
    rw [if_pos hst]
    exact star_star
   ·split at h
    ·rename_i h4
     have hv := runS_val h3 h4
     cases h
     refine ⟨hn.2.1 rfl, ?_, hn.2.2, hv.2.2⟩
     split
     ·exact star_val hv.1
     ·show some (valB _) = _; rw [hv.1]
    ·cases h
  ·cases h
 ·cases h
def goodT (x : S38) : Prop := label_Name.f x.f1 = some true ∧ 1 ≤ x.f0 ∧ x.f0 ≤ 4 ∧ ((x.f0 = 1 ∨ x.f0 = 2) ∧ valB x.f2 = true ∨ (x.f0 = 3 ∨ x.f0 = 4) ∧ x.f2 = ⟨#[]⟩) ∧ x.f1.size ≤ 15 ∧ x.f2.size ≤ 15
theorem terS_good {t : ByteArray} {p : Nat} (hp : p ≤ t.size) {x : S38} {q : Nat} (h : terS t p = .good x q) : goodT x := by
 unfold terS at h
 split at h
 ·rename_i h0
  split at h
  ·rename_i h1
   have hn := runS_val (sgn_lt h0 : p + 1 ≤ t.size) h1
   cases h
   exact ⟨hn.2.1 rfl, (show (1 : Int) ≤ 4 by decide), (show (4 : Int) ≤ 4 by decide), Or.inr ⟨Or.inr rfl, rfl⟩, hn.2.2, (show (0 : Nat) ≤ 15 by decide)⟩
  ·cases h
 ·split at h
  ·rename_i h1
   have hn := runS_val hp h1
   split at h
   ·rename_i h2
    obtain ⟨b1, b2, _, _, b5, b6⟩ := terV_text h
    have hv := runS_val (sgn_lt h2) b6
    exact ⟨by rw [b2]; exact hn.2.1 rfl, by omega, by omega, Or.inl ⟨Or.inl b1, by rw [b5]; exact hv.1⟩, by rw [b2]; exact hn.2.2, by rw [b5]; exact hv.2.2⟩
   ·split at h
    ·split at h
     ·rename_i h4
      obtain ⟨b1, b2, _, _, b5, b6⟩ := terV_text h
      have hv := runS_val (sgn_lt h4) b6
      exact ⟨by rw [b2]; exact hn.2.1 rfl, by omega, by omega, Or.inl ⟨Or.inr b1, by rw [b5]; exact hv.1⟩, by rw [b2]; exact hn.2.2, by rw [b5]; exact hv.2.2⟩
     ·cases h
    ·cases h
     exact ⟨hn.2.1 rfl, (show (1 : Int) ≤ 3 by decide), (show (3 : Int) ≤ 4 by decide), Or.inr ⟨Or.inl rfl, rfl⟩, hn.2.2, (show (0 : Nat) ≤ 15 by decide)⟩
  ·cases h
def preL {α : Type} (txt : α → ByteArray) (l : List α) : List UInt8 := (l.map fun x => (txt x).data.toList ++ [44]).flatten
theorem join_snoc {α : Type} (txt : α → ByteArray) (l : List α) (x : α) : Lib.join (((l ++ [x]).map txt).map (·.data.toList)) [44] = preL txt l ++ (txt x).data.toList := by
 induction l with
 | nil => simp [Lib.join_one, preL]
 | cons y r ih =>
  have h : Lib.joinTail [44] (((r ++ [x]).map txt).map (·.data.toList)) = [44] ++ (preL txt r ++ (txt x).data.toList) := by
   cases r with
   | nil => simp [Lib.joinTail, preL]
   | cons z s =>
    rw [← ih]
    simp only [List.cons_append, List.map_cons, Lib.join_cons]
    simp [Lib.joinTail]
  rw [List.cons_append, List.map_cons, List.map_cons, Lib.join_cons, h]
  simp [preL, List.append_assoc]
theorem partsS_text {α : Type} (t : ByteArray) (one : Nat → OneP α) (may : α → α → Bool) (txt : α → ByteArray) (hg : ∀ p x q, p ≤ t.size → one p = .good x q → txt x = t.extract p q ∧ p < q ∧ q ≤ t.size)
  (hb : ∀ p a e, one p = .bad a e → e ≠ 0) : ∀ (m p : Nat) (out : List α), p ≤ t.size → m ≠ 0 → m + out.length = 7 → preL txt out = (t.extract 0 p).data.toList → (partsS t one may m p out).2.2 = 0 →
  Lib.join (((partsS t one may m p out).1.map txt).map (·.data.toList)) [44] = t.data.toList := by
 intro m
 induction m with
 | zero => intro _ _ _ h; exact absurd rfl h
 | succ m ih =>
  intro p out hp _ hm hpre he
  unfold partsS at he ⊢
  cases ho : one p with
  | bad a e => rw [ho] at he; exact absurd he (hb p a e ho)
  | good x q =>
   rw [ho] at he
   dsimp only at he ⊢
   obtain ⟨ht, hlt1, hq⟩ := hg p x q hp ho
   by_cases c1 : q < t.size ∧ sgn t q 44 = false
   ·rw [if_pos c1] at he; cases he
   rw [if_neg c1] at he ⊢
   by_cases c2 : out.length = 6
   ·rw [if_pos c2] at he; cases he
   rw [if_neg c2] at he ⊢
   by_cases c3 : mayL may out x = false
   ·rw [if_pos c3] at he; cases he
   rw [if_neg c3] at he ⊢
   by_cases c4 : q < t.size
   ·rw [if_pos c4] at he ⊢
    have hs : sgn t q 44 = true := by
     cases h : sgn t q 44 with
     | true => rfl
     | false => exact absurd ⟨c4, h⟩ c1
    refine ih (q + 1) (out ++ [x]) c4 (by omega) (by simp; omega) ?_ he
    have e1 := ext_one (t := t) 44 hs
    have e2 : t.extract 0 (q + 1) = t.extract 0 p ++ (t.extract p q ++ t.extract q (q + 1)) := by
     rw [ext_join t (by omega) (by omega), ext_join t (by omega) (by omega)]
    rw [e2, app_list, app_list, ← hpre, ← ht, e1]
    unfold preL
    rw [List.map_append, List.flatten_append]
    simp
   ·rw [if_neg c4]
    dsimp only
    rw [join_snoc, hpre, ht, ← app_list, ext_join t (by omega) (by omega), show q = t.size by omega, ByteArray.extract_zero_size]
def Chain {α : Type} (may : α → α → Bool) (l : List α) : Prop := ∀ i (h : i + 1 < l.length), may (l[i]'(by omega)) l[i + 1] = true
theorem chain_snoc {α : Type} {may : α → α → Bool} {l : List α} {x : α} (h : Chain may l) (hx : mayL may l x = true) : Chain may (l ++ [x]) := by
 intro i hi
 by_cases hlt : i + 1 < l.length
 ·rw [List.getElem_append_left (by omega), List.getElem_append_left hlt]
  exact h i hlt
 ·have hl : i + 1 = l.length := by simp at hi; omega
  rw [List.getElem_append_left (by omega), List.getElem_append_right (by omega)]
  unfold mayL at hx
  have e : l.getLast? = some (l[i]'(by omega)) := by
   rw [List.getLast?_eq_getElem?, show l.length - 1 = i by omega, List.getElem?_eq_getElem (by omega)]
  rw [e] at hx
  simpa using hx
theorem partsS_all {α : Type} (t : ByteArray) (one : Nat → OneP α) (may : α → α → Bool) (G : α → Prop) (hg : ∀ p x q, p ≤ t.size → one p = .good x q → G x ∧ q ≤ t.size) :
  ∀ (m p : Nat) (out : List α), p ≤ t.size → m + out.length = 7 → (∀ x ∈ out, G x) → Chain may out → m ≠ 0 →
  (∀ x ∈ (partsS t one may m p out).1, G x) ∧ Chain may (partsS t one may m p out).1 ∧ (partsS t one may m p out).1.length ≤ 6 := by
 intro m
 have nil : (∀ x ∈ ([] : List α), G x) ∧ Chain may ([] : List α) ∧ ([] : List α).length ≤ 6 := ⟨(fun x h => by cases h), fun i h => absurd h (Nat.not_lt_zero _), Nat.zero_le _⟩
 induction m with
 | zero => intro _ _ _ _ _ _ h; exact absurd rfl h
 | succ m ih =>
  intro p out hp hm h1 h2 _
  unfold partsS
  cases ho : one p with
  | bad a e => exact nil
  | good x q =>
   dsimp only
   obtain ⟨hx, hq⟩ := hg p x q hp ho
   by_cases c1 : q < t.size ∧ sgn t q 44 = false
   ·rw [if_pos c1]; exact nil
   rw [if_neg c1]
   by_cases c2 : out.length = 6
   ·rw [if_pos c2]; exact nil
   rw [if_neg c2]
   by_cases c3 : mayL may out x = false
   ·rw [if_pos c3]; exact nil
   rw [if_neg c3]
   have c3' : mayL may out x = true := by simpa using c3
   have hall : ∀ y ∈ out ++ [x], G y := by
    intro y hy
    rcases List.mem_append.1 hy with h | h
    ·exact h1 y h
    ·rw [List.mem_singleton.1 h]; exact hx
   have hch := chain_snoc h2 c3'
   by_cases c4 : q < t.size
   ·rw [if_pos c4]
    exact ih (q + 1) (out ++ [x]) c4 (by simp; omega) hall hch (by omega)
   ·rw [if_neg c4]
    exact ⟨hall, hch, by simp; omega⟩
theorem partsS_at {α : Type} (t : ByteArray) (one : Nat → OneP α) (may : α → α → Bool) (hb : ∀ p a e, p ≤ t.size → one p = .bad a e → a ≤ t.size ∧ (e = 3 → a = t.size)) (hg : ∀ p x q, p ≤ t.size → one p = .good x q → q ≤ t.size) :
  ∀ (m p : Nat) (out : List α), p ≤ t.size → (partsS t one may m p out).2.1 ≤ t.size ∧ ((partsS t one may m p out).2.2 = 3 → (partsS t one may m p out).2.1 = t.size) := by
 intro m
 induction m with
 | zero => intro p out _; exact ⟨Nat.zero_le _, fun h => by cases h⟩
 | succ m ih =>
  intro p out hp
  unfold partsS
  cases ho : one p with
  | bad a e => exact hb p a e hp ho
  | good x q =>
   dsimp only
   have hq := hg p x q hp ho
   by_cases c1 : q < t.size ∧ sgn t q 44 = false
   ·rw [if_pos c1]; exact ⟨hq, fun h => by cases h⟩
   rw [if_neg c1]
   by_cases c2 : out.length = 6
   ·rw [if_pos c2]; exact ⟨hp, fun h => by cases h⟩
   rw [if_neg c2]
   by_cases c3 : mayL may out x = false
   ·rw [if_pos c3]; exact ⟨hp, fun h => by cases h⟩
   rw [if_neg c3]
   by_cases c4 : q < t.size
   ·rw [if_pos c4]; exact ih (q + 1) (out ++ [x]) c4
   ·rw [if_neg c4]; exact ⟨Nat.zero_le _, fun h => by cases h⟩
theorem failE_3 {t : ByteArray} {a : Nat} (h : failE t a = 3) : a = t.size := by
 unfold failE at h
 split at h
 ·assumption
 ·cases h
theorem runS_3 {t : ByteArray} {b : Bool} {p : Nat} (h : (runS t b p).e = 3) : (runS t b p).at_ = t.size := by
 rcases runS_bad (t := t) (b := b) (p := p) with h1 | h1
 ·rw [h1] at h; cases h
 ·rw [h1] at h; exact failE_3 h
theorem labS_at {t : ByteArray} {star : Bool} {p : Nat} (hp : p ≤ t.size) {a : Nat} {e : Int} (h : labS t star p = .bad a e) : a ≤ t.size ∧ (e = 3 → a = t.size) := by
 unfold labS valS at h
 have hz := runS_size t true p hp
 split at h
 ·split at h
  ·rename_i h2
   have h3 := sgn_lt h2
   have hz2 := runS_size t false _ (h3 : (runS t true p).at_ + 1 ≤ t.size)
   split at h
   ·cases h
   ·split at h
    ·cases h
    ·cases h; exact ⟨hz2.2, runS_3⟩
  ·cases h; exact ⟨hz.2, failE_3⟩
 ·cases h; exact ⟨hz.2, runS_3⟩
theorem terV_at {t : ByteArray} {kind : Int} {key : ByteArray} {p : Nat} (hp : p ≤ t.size) {a : Nat} {e : Int} (h : terV t kind key p = .bad a e) : a ≤ t.size ∧ (e = 3 → a = t.size) := by
 unfold terV at h
 have hz := runS_size t false p hp
 split at h
 ·cases h
 ·cases h; exact ⟨hz.2, runS_3⟩
theorem terS_at {t : ByteArray} {p : Nat} (hp : p ≤ t.size) {a : Nat} {e : Int} (h : terS t p = .bad a e) : a ≤ t.size ∧ (e = 3 → a = t.size) := by
 unfold terS at h
 have hz := runS_size t true p hp
 split at h
 ·rename_i h0
  have hz2 := runS_size t true _ (sgn_lt h0 : p + 1 ≤ t.size)
  split at h
  ·cases h
  ·cases h; exact ⟨hz2.2, runS_3⟩
 ·split at h
  ·split at h
   ·rename_i h2
    exact terV_at (sgn_lt h2) h
   ·split at h
    ·rename_i h3
     split at h
     ·rename_i h4
      exact terV_at (sgn_lt h4) h
     ·cases h; exact ⟨sgn_lt h3, failE_3⟩
    ·cases h
  ·cases h; exact ⟨hz.2, runS_3⟩
end Go.Proofs.Ytfnfjkddlnnolaa.P
namespace Go.Proofs.Ytfnfjkddlnnolaa.P
set_option linter.unusedVariables false
set_option linter.unusedSimpArgs false
open Go.RowKit Go.Proofs.YtfnfjkddlnnolaaW.PrintWords Go.Proofs.YtfnfjkddlnnolaaW.PrintLast Go.Proofs.YtfnfjkddlnnolaaW.PrintMore

theorem valB_size {s : ByteArray} (h : valB s = true) : s.size ≠ 0 ∧ s.size ≤ 15 := by
 unfold valB at h
 simp only [Bool.and_eq_true, decide_eq_true_eq, Bool.not_eq_true'] at h
 refine ⟨fun h0 => ?_, by omega⟩
 have := h.1.1
 rw [ByteArray.toList_eq] at this
 have e : s.data.toList = [] := List.length_eq_zero_iff.1 h0
 rw [e] at this
 cases this
theorem name_total (s : ByteArray) : ∃ b, label_Name.f s = some b ∧ (b = true → valB s = true) := by
 unfold label_Name.f label_Value.f
 cases h : valB s with
 | true =>
  have := (valB_size h).1
  rw [Option.bind_some, if_pos rfl, if_pos (by omega), small_f]
  exact ⟨_, rfl, fun _ => rfl⟩
 | false =>
  rw [Option.bind_some, if_neg (by decide)]
  exact ⟨false, rfl, fun h => by cases h⟩
theorem star_total (s : ByteArray) : ∃ b, label_star.f s = some b ∧ (b = true → s.size ≤ 15) := by
 unfold label_star.f label_Value.f
 split
 ·rename_i h
  refine ⟨true, rfl, fun _ => ?_⟩
  rw [ByteArray.toList_eq] at h
  have : s.data.toList.length = 1 := by rw [h]; rfl
  have e : s.size = s.data.toList.length := rfl
  omega
 ·refine ⟨valB s, rfl, fun h => (valB_size h).2⟩
theorem rd43_get (xs : List S43) (i : Nat) (h : i < xs.length) : rd_T43 xs (i : Int) = xs[i] := by
 unfold rd_T43
 rw [Int.toNat_natCast, List.getD_eq_getElem?_getD, List.getElem?_eq_getElem h]
 rfl
theorem rd38_get (xs : List S38) (i : Nat) (h : i < xs.length) : rd_T38 xs (i : Int) = xs[i] := by
 unfold rd_T38
 rw [Int.toNat_natCast, List.getD_eq_getElem?_getD, List.getElem?_eq_getElem h]
 rfl
theorem checkG_total (vf : ByteArray → Option Bool) (may : S43 → S43 → Option Bool) (xs : List S43) (hv : ∀ s, ∃ b, vf s = some b ∧ (b = true → s.size ≤ 15)) (hm : ∀ a b, ∃ c, may a b = some c) :
  ∀ (n k : Nat), k + n = xs.length + 1 → n ≠ 0 → ∃ c, checkG vf may xs n k = some c ∧ (c = 0 ∨ c = 2) ∧ (c = 0 → xs.length ≤ 6 ∧ ∀ i (h : i < xs.length), k ≤ i → xs[i].f0.size ≤ 15 ∧ xs[i].f1.size ≤ 15) := by
 intro n
 induction n with
 | zero => intro _ _ h; exact absurd rfl h
 | succ n ih =>
  intro k hk _
  unfold checkG
  have no : ∀ {P : Prop}, (2 : Int) = 0 → P := fun h => absurd h (by decide)
  by_cases hlt : k < xs.length
  ·rw [if_pos hlt, rd43_get xs k hlt]
   obtain ⟨a, ha, ha2⟩ := name_total xs[k].f0
   rw [ha, Option.bind_some]
   cases a with
   | false => rw [if_neg (by decide)]; exact ⟨2, rfl, Or.inr rfl, no⟩
   | true =>
    rw [if_pos rfl]
    obtain ⟨b, hb, hb2⟩ := hv xs[k].f1
    rw [hb, Option.bind_some]
    cases b with
    | false => rw [if_neg (by decide)]; exact ⟨2, rfl, Or.inr rfl, no⟩
    | true =>
     rw [if_pos rfl]
     have hmay : ∃ c, (if k = 0 then some true else may (rd_T43 xs ((k : Int) - 1)) xs[k]) = some c := by
      split
      ·exact ⟨_, rfl⟩
      ·exact hm _ _
     obtain ⟨c, hc⟩ := hmay
     rw [hc, Option.bind_some]
     cases c with
     | false => rw [if_neg (by decide)]; exact ⟨2, rfl, Or.inr rfl, no⟩
     | true =>
      rw [if_pos rfl]
      obtain ⟨d, h1, h2, h3⟩ := ih (k + 1) (by omega) (by omega)
      refine ⟨d, h1, h2, fun hd => ⟨(h3 hd).1, fun i hi hki => ?_⟩⟩
      by_cases he : i = k
      ·subst he; exact ⟨(valB_size (ha2 rfl)).2, hb2 rfl⟩
      ·exact (h3 hd).2 i hi (by omega)
  ·rw [if_neg hlt]
   refine ⟨_, rfl, ?_, fun h => ?_⟩
   ·split
    ·exact Or.inl rfl
    ·exact Or.inr rfl
   ·split at h
    ·rename_i h6
     exact ⟨h6, fun i hi hki => absurd hi (by omega)⟩
    ·cases h
theorem checkB_total (l : List S43) : ∃ c, label_CheckBears.f l = some c ∧ (c = 0 ∨ c = 2) ∧ (c = 0 → l.length ≤ 6 ∧ ∀ x ∈ l, x.f0.size ≤ 15 ∧ x.f1.size ≤ 15) := by
 obtain ⟨c, h1, h2, h3⟩ := checkG_total label_star.f byBothL l star_total (fun a b => ⟨_, byBoth_f a b⟩) (l.length + 1) 0 (Nat.zero_add _) (by omega)
 refine ⟨c, h1, h2, fun h => ⟨(h3 h).1, fun x hx => ?_⟩⟩
 obtain ⟨i, hi, rfl⟩ := List.getElem_of_mem hx
 exact (h3 h).2 i hi (Nat.zero_le _)
theorem okL_small {l : List S43} (h : ∀ x ∈ l, x.f0.size ≤ 15 ∧ x.f1.size ≤ 15) : l.all okL = true := by
 rw [List.all_eq_true]
 intro x hx
 have := h x hx
 unfold okL
 rw [decide_eq_true (by omega), decide_eq_true (by omega)]
 rfl
theorem join_len (B : Nat) : ∀ (L : List (List UInt8)), (∀ x ∈ L, x.length ≤ B) → (Lib.join L [44]).length ≤ L.length * (B + 1)
 | [], _ => Nat.zero_le _
 | x :: r, h => by
  rw [Lib.join_cons]
  have h1 := h x List.mem_cons_self
  have h2 : ∀ (r : List (List UInt8)), (∀ x ∈ r, x.length ≤ B) → (Lib.joinTail [44] r).length ≤ r.length * (B + 1) := by
   intro r
   induction r with
   | nil => intro _; exact Nat.zero_le _
   | cons y s ih =>
    intro hr
    have h3 := ih (fun z hz => hr z (List.mem_cons_of_mem _ hz))
    have h4 := hr y List.mem_cons_self
    unfold Lib.joinTail at h3 ⊢
    rw [List.map_cons, List.flatten_cons, List.length_append, List.length_append, List.length_cons, List.length_cons, Nat.add_mul]
    simp only [List.length_nil]
    omega
  have h3 := h2 r (fun z hz => h z (List.mem_cons_of_mem _ hz))
  rw [List.length_append, List.length_cons, Nat.add_mul]
  omega
theorem textL_size {x : S43} (h : x.f0.size ≤ 15 ∧ x.f1.size ≤ 15) : (textL x).size ≤ 31 := by
 unfold textL
 rw [ba_size, ba_size]
 show x.f0.size + 1 + _ ≤ _
 omega
theorem joinL_small {l : List S43} (h : ∀ x ∈ l, x.f0.size ≤ 15 ∧ x.f1.size ≤ 15) (hl : l.length ≤ 12) : joinL l = some ⟨(Lib.join ((l.map textL).map (·.data.toList)) [44]).toArray⟩ := by
 have h0 := join_len 31 ((l.map textL).map (·.data.toList)) (by
  intro y hy
  obtain ⟨b, hb, rfl⟩ := List.mem_map.1 hy
  obtain ⟨x, hx, rfl⟩ := List.mem_map.1 hb
  exact textL_size (h x hx))
 have h1 : ((l.map textL).map (·.data.toList)).length = l.length := by rw [List.length_map, List.length_map]
 rw [h1] at h0
 have h2 : (Lib.join ((l.map textL).map (·.data.toList)) [44]).length ≤ 140737488355328 := by omega
 unfold joinL
 rw [if_pos ⟨okL_small h, by omega, h2⟩]
theorem ref_print_tail (l : List S43) (h : ∀ x ∈ l, x.f0.size ≤ 15 ∧ x.f1.size ≤ 15) (hl : l.length ≤ 12) : ∀ (n k i : Nat) (acc : ByteArray), i + n = l.length → n + 1 ≤ k → 1 ≤ i → acc.size ≤ 40 * i →
  ∃ r, drayageref03_Print.l0 k l acc (i : Int) = some r ∧ r.data.toList = acc.data.toList ++ Lib.joinTail [44] (((l.drop i).map textL).map (·.data.toList)) := by
 intro n
 induction n with
 | zero =>
  intro k i acc hi hk h1 ha
  obtain ⟨k, rfl⟩ : ∃ j, k = j + 1 := ⟨k - 1, by omega⟩
  rw [drayageref03_Print.l0, if_neg (by omega), List.drop_of_length_le (by omega)]
  exact ⟨acc, rfl, by simp [Lib.joinTail]⟩
 | succ n ih =>
  intro k i acc hi hk h1 ha
  obtain ⟨k, rfl⟩ : ∃ j, k = j + 1 := ⟨k - 1, by omega⟩
  have hlt : i < l.length := by omega
  have hx := h _ (List.getElem_mem hlt)
  have e1 : (⟨#[44]⟩ : ByteArray).size = 1 := rfl
  have e2 : (⟨#[61]⟩ : ByteArray).size = 1 := rfl
  rw [drayageref03_Print.l0, rd43_get l i hlt, if_pos (by omega), if_pos (by omega), if_pos (by omega), if_pos (by omega), if_pos (by rw [ba_size]; omega), if_pos (by rw [ba_size, ba_size]; omega), if_pos (by rw [ba_size, ba_size, ba_size]; omega), wsm (b := ((i + 1 : Nat) : Int)) (by omega) (by omega) (by omega)]
  obtain ⟨r, hr1, hr2⟩ := ih k (i + 1) (acc ++ (⟨#[44]⟩ : ByteArray) ++ l[i].f0 ++ (⟨#[61]⟩ : ByteArray) ++ l[i].f1) (by omega) (by omega) (by omega) (by simp only [ba_size]; omega)
  refine ⟨r, hr1, ?_⟩
  rw [hr2, List.drop_eq_getElem_cons hlt]
  simp only [List.map_cons, Lib.joinTail, List.flatten_cons, app_list, textL, List.append_assoc]
theorem ref_print (l : List S43) (h : ∀ x ∈ l, x.f0.size ≤ 15 ∧ x.f1.size ≤ 15) (hl : l.length ≤ 12) (k : Nat) (hk : 14 ≤ k) : ∃ r, drayageref03_Print.f k l = some r ∧ r.data.toList = Lib.join ((l.map textL).map (·.data.toList)) [44] := by
 unfold drayageref03_Print.f
 obtain ⟨k, rfl⟩ : ∃ j, k = j + 1 := ⟨k - 1, by omega⟩
 cases l with
 | nil =>
  rw [drayageref03_Print.l0, if_neg (by decide)]
  exact ⟨_, rfl, rfl⟩
 | cons x r =>
  have hx := h x List.mem_cons_self
  have hlen : (x :: r).length = r.length + 1 := rfl
  have e0 : rd_T43 (x :: r) 0 = x := rfl
  have e1 : (⟨#[]⟩ : ByteArray).size = 0 := rfl
  have e2 : (⟨#[61]⟩ : ByteArray).size = 1 := rfl
  rw [drayageref03_Print.l0, e0, if_pos (by omega), if_neg (by omega), if_pos (by omega), if_pos (by omega), if_pos (by rw [ba_size]; omega), if_pos (by rw [ba_size, ba_size]; omega), wsm (b := ((1 : Nat) : Int)) (by omega) (by omega) (by omega)]
  obtain ⟨q, hq1, hq2⟩ := ref_print_tail (x :: r) h hl r.length k 1 ((⟨#[]⟩ : ByteArray) ++ x.f0 ++ (⟨#[61]⟩ : ByteArray) ++ x.f1) (by omega) (by omega) (by omega) (by simp only [ba_size]; omega)
  refine ⟨q, hq1, ?_⟩
  rw [hq2]
  simp only [List.map_cons, Lib.join_cons, app_list, textL, List.drop_succ_cons, List.drop_zero]
  rfl
def smallT (x : S38) : Prop := 1 ≤ x.f0 ∧ x.f0 ≤ 4 ∧ x.f1.size ≤ 15 ∧ x.f2.size ≤ 15
theorem checkT_total (l : List S38) (hl : l.length ≤ 12) : ∀ (n k i : Nat), i + n = l.length → n + 1 ≤ k → ∃ c, label_CheckTerms.l0 k l l (l.length : Int) (i : Int) = some c ∧ (c = 0 → l.length ≤ 6 ∧ ∀ j (h : j < l.length), i ≤ j → smallT l[j]) := by
 intro n
 induction n with
 | zero =>
  intro k i hi hk
  obtain ⟨k, rfl⟩ : ∃ j, k = j + 1 := ⟨k - 1, by omega⟩
  rw [label_CheckTerms.l0, if_neg (by omega)]
  unfold label_arg.f
  by_cases h6 : l.length ≤ 6
  ·rw [decide_eq_true (by omega), if_pos rfl]
   exact ⟨0, rfl, fun _ => ⟨h6, fun j hj hij => absurd hj (by omega)⟩⟩
  ·rw [decide_eq_false (by omega), if_neg (by decide)]
   exact ⟨2, rfl, fun h => by cases h⟩
 | succ n ih =>
  intro k i hi hk
  obtain ⟨k, rfl⟩ : ∃ j, k = j + 1 := ⟨k - 1, by omega⟩
  have hlt : i < l.length := by omega
  have no : ∀ {P : Prop}, (2 : Int) = 0 → P := fun h => absurd h (by decide)
  rw [label_CheckTerms.l0, rd38_get l i hlt, if_pos (by omega), if_pos (by omega), if_pos (by omega)]
  by_cases h1 : l[i].f0 < 1
  ·rw [if_pos h1]; exact ⟨2, rfl, no⟩
  rw [if_neg h1]
  by_cases h2 : l[i].f0 > 4
  ·rw [if_pos h2]; exact ⟨2, rfl, no⟩
  rw [if_neg h2]
  obtain ⟨a, ha, ha2⟩ := name_total l[i].f1
  rw [ha, Option.bind_some]
  cases a with
  | false => rw [if_neg (by decide)]; exact ⟨2, rfl, no⟩
  | true =>
   rw [if_pos rfl]
   have hval : ∃ b, label_valued.f l[i].f0 = some b := by
    unfold label_valued.f
    split <;> exact ⟨_, rfl⟩
   obtain ⟨b, hb⟩ := hval
   rw [hb, Option.bind_some]
   unfold label_Value.f
   rw [Option.bind_some]
   by_cases h3 : (b != valB l[i].f2) = true
   ·rw [if_pos h3]; exact ⟨2, rfl, no⟩
   rw [if_neg h3, Option.bind_some]
   have hbv : b = valB l[i].f2 := by simpa using h3
   have go : l[i].f2.size ≤ 15 → ∃ c, label_CheckTerms.l0 k l l (l.length : Int) (wrap64 ((i : Int) + 1)) = some c ∧ (c = 0 → l.length ≤ 6 ∧ ∀ j (h : j < l.length), i ≤ j → smallT l[j]) := by
    intro hs
    rw [wsm (b := ((i + 1 : Nat) : Int)) (by omega) (by omega) (by omega)]
    obtain ⟨c, hc1, hc2⟩ := ih k (i + 1) (by omega) (by omega)
    refine ⟨c, hc1, fun h0 => ⟨(hc2 h0).1, fun j hj hij => ?_⟩⟩
    by_cases he : j = i
    ·subst he; exact ⟨by omega, by omega, (valB_size (ha2 rfl)).2, hs⟩
    ·exact (hc2 h0).2 j hj (by omega)
   cases b with
   | true =>
    rw [if_pos rfl]
    exact go (valB_size hbv.symm).2
   | false =>
    rw [if_neg (by decide)]
    by_cases h4 : l[i].f2.toList = []
    ·rw [if_pos h4]
     refine go ?_
     rw [ByteArray.toList_eq] at h4
     have e : l[i].f2.size = l[i].f2.data.toList.length := rfl
     rw [e, h4]
     exact Nat.zero_le _
    ·rw [if_neg h4]; exact ⟨2, rfl, no⟩
theorem okT_small {l : List S38} (h : ∀ x ∈ l, smallT x) : l.all okT = true := by
 rw [List.all_eq_true]
 intro x hx
 obtain ⟨h1, h2, h3, h4⟩ := h x hx
 unfold okT
 rw [decide_eq_true (by omega), decide_eq_true (by omega), decide_eq_true h1, decide_eq_true h2]
 rfl
theorem textT_size {x : S38} (h : smallT x) : (textT x).size ≤ 32 := by
 obtain ⟨h1, h2, h3, h4⟩ := h
 unfold textT
 have e1 : (⟨#[61]⟩ : ByteArray).size = 1 := rfl
 have e2 : (⟨#[33, 61]⟩ : ByteArray).size = 2 := rfl
 have e3 : (⟨#[33]⟩ : ByteArray).size = 1 := rfl
 have e4 : (⟨#[]⟩ : ByteArray).size = 0 := rfl
 split
 ·simp only [ba_size]; omega
 ·split
  ·simp only [ba_size]; omega
  ·split
   ·omega
   ·split
    ·simp only [ba_size]; omega
    ·omega
theorem joinT_small {l : List S38} (h : ∀ x ∈ l, smallT x) (hl : l.length ≤ 12) : joinT l = some ⟨(Lib.join ((l.map textT).map (·.data.toList)) [44]).toArray⟩ := by
 have h0 := join_len 32 ((l.map textT).map (·.data.toList)) (by
  intro y hy
  obtain ⟨b, hb, rfl⟩ := List.mem_map.1 hy
  obtain ⟨x, hx, rfl⟩ := List.mem_map.1 hb
  exact textT_size (h x hx))
 have h1 : ((l.map textT).map (·.data.toList)).length = l.length := by rw [List.length_map, List.length_map]
 rw [h1] at h0
 have h2 : (Lib.join ((l.map textT).map (·.data.toList)) [44]).length ≤ 140737488355328 := by omega
 unfold joinT
 rw [if_pos ⟨okT_small h, by omega, h2⟩]
theorem ref_one (l : List S38) (k i : Nat) (acc : ByteArray) (hlt : i < l.length) (hx : smallT l[i]) (hl : l.length ≤ 12) (ha : acc.size ≤ 1000000) : drayageref03_PrintTerms.j1 (k + 1) l acc (i : Int) = drayageref03_PrintTerms.l0 k l (acc ++ textT l[i]) ((i + 1 : Nat) : Int) := by
 obtain ⟨h1, h2, h3, h4⟩ := hx
 have e1 : (⟨#[61]⟩ : ByteArray).size = 1 := rfl
 have e2 : (⟨#[33, 61]⟩ : ByteArray).size = 2 := rfl
 have e3 : (⟨#[33]⟩ : ByteArray).size = 1 := rfl
 rw [drayageref03_PrintTerms.j1, rd38_get l i hlt, if_pos (by omega), if_pos (by omega), wsm (b := ((i + 1 : Nat) : Int)) (by omega) (by omega) (by omega)]
 unfold textT
 by_cases c1 : l[i].f0 = 1
 ·rw [if_pos c1, if_pos c1, if_pos (by omega), if_pos (by rw [ba_size]; omega), if_pos (by rw [ba_size, ba_size]; omega)]
  simp only [ByteArray.append_assoc]
 rw [if_neg c1, if_neg c1]
 by_cases c2 : l[i].f0 = 2
 ·rw [if_pos c2, if_pos c2, if_pos (by omega), if_pos (by rw [ba_size]; omega), if_pos (by rw [ba_size, ba_size]; omega)]
  simp only [ByteArray.append_assoc]
 rw [if_neg c2, if_neg c2]
 by_cases c3 : l[i].f0 = 3
 ·rw [if_pos c3, if_pos c3, if_pos (by omega)]
 rw [if_neg c3, if_neg c3]
 have c4 : l[i].f0 = 4 := by omega
 rw [if_pos c4, if_pos c4, if_pos (by omega), if_pos (by rw [ba_size]; omega)]
 simp only [ByteArray.append_assoc]
theorem ref_printT_tail (l : List S38) (h : ∀ x ∈ l, smallT x) (hl : l.length ≤ 12) : ∀ (n k i : Nat) (acc : ByteArray), i + n = l.length → 2 * n + 1 ≤ k → 1 ≤ i → acc.size ≤ 40 * i →
  ∃ r, drayageref03_PrintTerms.l0 k l acc (i : Int) = some r ∧ r.data.toList = acc.data.toList ++ Lib.joinTail [44] (((l.drop i).map textT).map (·.data.toList)) := by
 intro n
 induction n with
 | zero =>
  intro k i acc hi hk h1 ha
  obtain ⟨k, rfl⟩ : ∃ j, k = j + 1 := ⟨k - 1, by omega⟩
  rw [drayageref03_PrintTerms.l0, if_neg (by omega), List.drop_of_length_le (by omega)]
  exact ⟨acc, rfl, by simp [Lib.joinTail]⟩
 | succ n ih =>
  intro k i acc hi hk h1 ha
  obtain ⟨k, rfl⟩ : ∃ j, k = j + 2 := ⟨k - 2, by omega⟩
  have hlt : i < l.length := by omega
  have hx := h _ (List.getElem_mem hlt)
  have hsz := textT_size hx
  have e1 : (⟨#[44]⟩ : ByteArray).size = 1 := rfl
  rw [drayageref03_PrintTerms.l0, if_pos (by omega), if_pos (by omega), if_pos (by omega), ref_one l k i _ hlt hx hl (by rw [ba_size]; omega)]
  obtain ⟨r, hr1, hr2⟩ := ih k (i + 1) (acc ++ (⟨#[44]⟩ : ByteArray) ++ textT l[i]) (by omega) (by omega) (by omega) (by simp only [ba_size]; omega)
  refine ⟨r, hr1, ?_⟩
  rw [hr2, List.drop_eq_getElem_cons hlt]
  simp only [List.map_cons, Lib.joinTail, List.flatten_cons, app_list, List.append_assoc]
theorem ref_printT (l : List S38) (h : ∀ x ∈ l, smallT x) (hl : l.length ≤ 12) (k : Nat) (hk : 30 ≤ k) : ∃ r, drayageref03_PrintTerms.f k l = some r ∧ r.data.toList = Lib.join ((l.map textT).map (·.data.toList)) [44] := by
 unfold drayageref03_PrintTerms.f
 obtain ⟨k, rfl⟩ : ∃ j, k = j + 2 := ⟨k - 2, by omega⟩
 cases l with
 | nil =>
  rw [drayageref03_PrintTerms.l0, if_neg (by decide)]
  exact ⟨_, rfl, rfl⟩
 | cons x r =>
  have hlen : (x :: r).length = r.length + 1 := rfl
  have hx := h x List.mem_cons_self
  have hsz := textT_size hx
  have e1 : (⟨#[]⟩ : ByteArray).size = 0 := rfl
  have h1 := ref_one (x :: r) k 0 (⟨#[]⟩ : ByteArray) (by omega) hx hl (by omega)
  rw [show ((0 : Nat) : Int) = 0 from rfl] at h1
  rw [drayageref03_PrintTerms.l0, if_pos (by omega), if_neg (by omega), h1]
  obtain ⟨q, hq1, hq2⟩ := ref_printT_tail (x :: r) h hl r.length k 1 ((⟨#[]⟩ : ByteArray) ++ textT x) (by omega) (by omega) (by omega) (by simp only [ba_size]; omega)
  refine ⟨q, hq1, ?_⟩
  rw [hq2]
  simp only [List.map_cons, Lib.join_cons, app_list, List.drop_succ_cons, List.drop_zero]
  rfl
end Go.Proofs.Ytfnfjkddlnnolaa.P
