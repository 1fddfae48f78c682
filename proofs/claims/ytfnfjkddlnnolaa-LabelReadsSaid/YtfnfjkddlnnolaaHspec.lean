import Derived.Test.YtfnfjkddlnnolaaHread
import Derived.Test.YtfnfjkddlnnolaaPf9
import Derived.Test.YtfnfjkddlnnolaaPf11
import Derived.Test.YtfnfjkddlnnolaaPf13
namespace Go.Proofs.Ytfnfjkddlnnolaa.P
set_option linter.unusedVariables false
set_option linter.unusedSimpArgs false
open Go.RowKit Go.Proofs.YtfnfjkddlnnolaaW.PrintWords Go.Proofs.YtfnfjkddlnnolaaW.PrintLast Go.Proofs.YtfnfjkddlnnolaaW.PrintMore

def rn (t : ByteArray) : Nat → Bool → Nat → Nat
 | 0, _, _ => 0
 | k + 1, b, p => if p < t.size ∧ fB b (gb t p) = true then rn t k false (p + 1) + 1 else 0
theorem rn_size (t : ByteArray) : ∀ (k : Nat) (b : Bool) (p : Nat), p ≤ t.size → p + rn t k b p ≤ t.size
 | 0, _, _, h => h
 | k + 1, b, p, h => by
  unfold rn
  split
  ·rename_i hc
   have := rn_size t k false (p + 1) (by omega); omega
  ·omega
structure Got where
 x : ByteArray
 at_ : Nat
 e : Int
def fin (t : ByteArray) (f q : Nat) : Got :=
 if f = q ∨ (q < t.size ∧ insB (gb t q) = true) then ⟨⟨#[]⟩, q, if q = t.size then 3 else 4⟩ else ⟨t.extract f q, q, 0⟩
def runS (t : ByteArray) (b : Bool) (p : Nat) : Got := fin t p (p + rn t 15 b p)
def sgn (t : ByteArray) (p : Nat) (c : Int) : Bool := decide (p < t.size) && (gb t p == c)
theorem runS_size (t : ByteArray) (b : Bool) (p : Nat) (h : p ≤ t.size) : p ≤ (runS t b p).at_ ∧ (runS t b p).at_ ≤ t.size := by
 unfold runS fin
 have := rn_size t 15 b p h
 split <;> (dsimp only; omega)
theorem gb_at (s : ByteArray) (p : Nat) (h : p < s.size) : gb s p = ((s[p]'h).toNat : Int) := by
 have := bt_at s (p : Int) (by simpa using h)
 unfold gb
 simpa using this.symm
theorem gb_extract (t : ByteArray) (p q : Nat) (h : p + q < t.size) : gb (t.extract p t.size) q = gb t (p + q) := by
 have h1 : q < (t.extract p t.size).size := by rw [ByteArray.size_extract]; omega
 rw [gb_at _ _ h1, gb_at _ _ h, ByteArray.getElem_extract]
theorem runE_rn (t : ByteArray) (a : Nat) (ha : a ≤ t.size) : ∀ (k : Nat) (b : Bool) (p : Nat), p + k = 15 → runE (t.extract a t.size) (k + 1) b p = p + rn t k b (a + p)
 | 0, b, p, h => by
  unfold runE rn
  rw [if_neg (by omega)]
  rfl
 | k + 1, b, p, h => by
  have hs : (t.extract a t.size).size = t.size - a := by rw [ByteArray.size_extract]; omega
  unfold runE rn
  by_cases hp : a + p < t.size
  ·rw [gb_extract t a p hp, hs]
   by_cases hf : fB b (gb t (a + p)) = true
   ·rw [if_pos ⟨by omega, hf, by omega⟩, if_pos ⟨hp, hf⟩, runE_rn t a ha k false (p + 1) (by omega), Nat.add_assoc a p 1]
    omega
   ·rw [if_neg (fun h => hf h.2.1), if_neg (fun h => hf h.2)]
    rfl
  ·rw [hs, if_neg (fun h => hp (by omega)), if_neg (fun h => hp h.1)]
   rfl
theorem runF_spec (t : ByteArray) (b : Bool) (a : Nat) (ha : a ≤ t.size) : runF b t (a : Int) 0 = some ((runS t b a).x, t, ((runS t b a).at_ : Int), (runS t b a).e) := by
 have h := runE_rn t a ha 15 b 0 rfl
 simp only [Nat.add_zero, Nat.zero_add] at h
 rw [runF_at b t a _ ha h]
 unfold runS fin
 by_cases hc : rn t 15 b a = 0 ∨ (a + rn t 15 b a < t.size ∧ insB (gb t (a + rn t 15 b a)) = true)
 ·rw [if_pos hc, if_pos (hc.imp (fun h => by omega) id)]
 ·rw [if_neg hc, if_neg (fun h => hc (h.imp (fun h => by omega) id))]
theorem runF_bad (t : ByteArray) (b : Bool) (a e : Int) (he : e ≠ 0) : runF b t a e = some (⟨#[]⟩, t, a, e) := by
 unfold runF
 rw [if_neg he]
theorem fail_bad (t : ByteArray) (a e : Int) (he : e ≠ 0) : label_reader_fail.f t a e = some (⟨#[]⟩, t, a, e) := by
 unfold label_reader_fail.f
 rw [if_neg he]
theorem sign_bad (t : ByteArray) (a e : Int) (s : ByteArray) (he : e ≠ 0) : label_reader_sign.f t a e s = some (false, t, a, e) := by
 unfold label_reader_sign.f
 rw [if_neg he]
theorem prefix1 (t : ByteArray) (a : Nat) (c : UInt8) (ha : a ≤ t.size) : strings_HasPrefix.f (t.extract a t.size) (⟨#[c]⟩ : ByteArray) = some (sgn t a (c.toNat : Int)) := by
 have hs : (t.extract a t.size).size = t.size - a := by rw [ByteArray.size_extract]; omega
 have h1 : ((⟨#[c]⟩ : ByteArray).size : Int) = 1 := rfl
 unfold strings_HasPrefix.f stringslite_HasPrefix.f sgn
 rw [h1, hs]
 by_cases h : a < t.size
 ·rw [if_pos (by omega), if_pos (by omega), if_pos (by omega), Option.bind_some, decide_eq_true h, Bool.true_and]
  congr 1
  rw [ByteArray.toList_eq, ByteArray.toList_eq]
  have e : ((t.extract a t.size).extract 0 (1 : Int).toNat).data.toList = [t[a]'h] := by
   rw [ByteArray.extract_extract, ByteArray.data_extract]
   have e2 : min (a + (1 : Int).toNat) t.size = a + 1 := by show min (a + 1) _ = _; omega
   rw [Nat.add_zero, e2]
   rw [Array.toList_extract, List.extract_eq_take_drop]
   have h2 : a < t.data.toList.length := h
   rw [show a + 1 - a = 1 by omega, List.drop_eq_getElem_cons h2]
   rfl
  rw [e, gb_at t a h]
  show ([t[a]] == [c]) = _
  rw [Bool.eq_iff_iff]
  simp only [beq_iff_eq, List.cons.injEq, and_true]
  constructor
  ·intro h; rw [h]
  ·intro h; exact UInt8.toNat_inj.1 (by omega)
 ·rw [if_neg (by omega), Option.bind_some, decide_eq_false h, Bool.false_and]
theorem sign_f (t : ByteArray) (a : Nat) (c : UInt8) (ha : a ≤ t.size) (hs : t.size ≤ 1000000) : label_reader_sign.f t (a : Int) 0 (⟨#[c]⟩ : ByteArray) = if sgn t a (c.toNat : Int) = true then some (true, t, ((a + 1 : Nat) : Int), 0) else some (false, t, (a : Int), 0) := by
 unfold label_reader_sign.f
 rw [if_pos rfl, if_pos (by omega), if_pos (by omega), Int.toNat_natCast, prefix1 t a c ha, Option.bind_some]
 cases h : sgn t a (c.toNat : Int) with
 | true =>
  rw [if_pos rfl, if_pos rfl]
  have e : wrap64 ((a : Int) + ((⟨#[c]⟩ : ByteArray).size : Int)) = ((a + 1 : Nat) : Int) := by
   show wrap64 ((a : Int) + 1) = _
   unfold wrap64
   omega
  rw [e]
 | false => rw [if_neg (by simp), if_neg (by simp)]
def failE (t : ByteArray) (a : Nat) : Int := if a = t.size then 3 else 4
theorem failE_ne (t : ByteArray) (a : Nat) : failE t a ≠ 0 := by unfold failE; split <;> decide
theorem fail_at (t : ByteArray) (a : Nat) : label_reader_fail.f t (a : Int) 0 = some (⟨#[]⟩, t, (a : Int), failE t a) := fail_f t a
theorem name_f (t : ByteArray) (a e : Int) (hs : t.size ≤ 1000000) : label_reader_name.f t a e = runF true t a e := by unfold label_reader_name.f; rw [if_pos (by omega)]
theorem value_f (t : ByteArray) (a e : Int) (hs : t.size ≤ 1000000) : label_reader_value.f t a e = runF false t a e := by unfold label_reader_value.f; rw [if_pos (by omega)]
inductive OneP (α : Type) where
 | bad (a : Nat) (e : Int)
 | good (x : α) (q : Nat)
def valS (t : ByteArray) (star : Bool) (key : ByteArray) (p : Nat) : OneP S43 :=
 if (star && sgn t p 42) = true then .good ⟨key, ⟨#[42]⟩⟩ (p + 1)
 else if (runS t false p).e = 0 then .good ⟨key, (runS t false p).x⟩ (runS t false p).at_ else .bad (runS t false p).at_ (runS t false p).e
def labS (t : ByteArray) (star : Bool) (p : Nat) : OneP S43 :=
 if (runS t true p).e = 0 then
  (if sgn t (runS t true p).at_ 61 = true then valS t star (runS t true p).x ((runS t true p).at_ + 1) else .bad (runS t true p).at_ (failE t (runS t true p).at_))
 else .bad (runS t true p).at_ (runS t true p).e
def terV (t : ByteArray) (kind : Int) (key : ByteArray) (p : Nat) : OneP S38 :=
 if (runS t false p).e = 0 then .good ⟨kind, key, (runS t false p).x⟩ (runS t false p).at_ else .bad (runS t false p).at_ (runS t false p).e
def terS (t : ByteArray) (p : Nat) : OneP S38 :=
 if sgn t p 33 = true then
  (if (runS t true (p + 1)).e = 0 then .good ⟨4, (runS t true (p + 1)).x, ⟨#[]⟩⟩ (runS t true (p + 1)).at_ else .bad (runS t true (p + 1)).at_ (runS t true (p + 1)).e)
 else if (runS t true p).e = 0 then
  (if sgn t (runS t true p).at_ 61 = true then terV t 1 (runS t true p).x ((runS t true p).at_ + 1)
  else if sgn t (runS t true p).at_ 33 = true then
   (if sgn t ((runS t true p).at_ + 1) 61 = true then terV t 2 (runS t true p).x ((runS t true p).at_ + 2) else .bad ((runS t true p).at_ + 1) (failE t ((runS t true p).at_ + 1)))
  else .good ⟨3, (runS t true p).x, ⟨#[]⟩⟩ (runS t true p).at_)
 else .bad (runS t true p).at_ (runS t true p).e
def Said {α : Type} (t : ByteArray) (o : Option (α × ByteArray × Int × Int)) : OneP α → Prop
 | .bad a e => e ≠ 0 ∧ ∃ x, o = some (x, t, (a : Int), e)
 | .good x q => o = some (x, t, (q : Int), 0)
theorem sgn_lt {t : ByteArray} {p : Nat} {c : Int} (h : sgn t p c = true) : p < t.size := by
 unfold sgn at h
 simp only [Bool.and_eq_true, decide_eq_true_eq] at h
 exact h.1
theorem value_said (t : ByteArray) (key : ByteArray) (p : Nat) (hp : p ≤ t.size) (hs : t.size ≤ 1000000) : Said t ((label_reader_value.f t (p : Int) 0).bind fun v => some ((⟨key, v.1⟩ : S43), v.2.1, v.2.2.1, v.2.2.2)) (valS t false key p) := by
 unfold valS
 rw [value_f t _ _ hs, runF_spec t false p hp, Option.bind_some, Bool.false_and, if_neg (by simp)]
 by_cases h : (runS t false p).e = 0
 ·rw [if_pos h, h]; rfl
 ·rw [if_neg h]; exact ⟨h, _, rfl⟩
theorem starred_said (t : ByteArray) (key : ByteArray) (p : Nat) (hp : p ≤ t.size) (hs : t.size ≤ 1000000) : Said t ((label_reader_starred.f t (p : Int) 0).bind fun v => some ((⟨key, v.1⟩ : S43), v.2.1, v.2.2.1, v.2.2.2)) (valS t true key p) := by
 unfold label_reader_starred.f valS
 have e := sign_f t p 42 hp hs
 rw [show ((42 : UInt8).toNat : Int) = 42 from rfl] at e
 rw [e]
 by_cases hc : sgn t p 42 = true
 ·rw [if_pos hc, Bool.true_and, if_pos hc]; rfl
 ·rw [if_neg hc, Bool.true_and, if_neg hc, Option.bind_some, if_neg (by simp), value_f t _ _ hs, runF_spec t false p hp]
  by_cases h : (runS t false p).e = 0
  ·rw [if_pos h, h]; rfl
  ·rw [if_neg h]; exact ⟨h, _, rfl⟩
theorem value_bad (t : ByteArray) (a e : Int) (hs : t.size ≤ 1000000) (he : e ≠ 0) : label_reader_value.f t a e = some (⟨#[]⟩, t, a, e) := by rw [value_f t _ _ hs, runF_bad t _ _ _ he]
theorem starred_bad (t : ByteArray) (a e : Int) (hs : t.size ≤ 1000000) (he : e ≠ 0) : label_reader_starred.f t a e = some (⟨#[]⟩, t, a, e) := by
 unfold label_reader_starred.f
 rw [sign_bad t a e _ he, Option.bind_some, if_neg (by simp), value_bad t a e hs he]
 rfl
theorem label_said (t : ByteArray) (star : Bool) (vf : ByteArray → Int → Int → Rr) (hs : t.size ≤ 1000000) (hv : ∀ key p, p ≤ t.size → Said t ((vf t (p : Int) 0).bind fun v => some ((⟨key, v.1⟩ : S43), v.2.1, v.2.2.1, v.2.2.2)) (valS t star key p))
  (hb : ∀ a e : Int, e ≠ 0 → vf t a e = some (⟨#[]⟩, t, a, e)) (p : Nat) (hp : p ≤ t.size) : Said t (oneL vf t (p : Int) 0) (labS t star p) := by
 unfold oneL labelF labS
 have hz := runS_size t true p hp
 rw [name_f t _ _ hs, runF_spec t true p hp, Option.bind_some]
 by_cases h : (runS t true p).e = 0
 ·rw [if_pos h, h]
  have e := sign_f t (runS t true p).at_ 61 hz.2 hs
  rw [show ((61 : UInt8).toNat : Int) = 61 from rfl] at e
  dsimp only
  rw [e]
  by_cases hc : sgn t (runS t true p).at_ 61 = true
  ·rw [if_pos hc, if_pos hc, Option.bind_some, if_pos rfl, Option.bind_some]
   have := hv (runS t true p).x ((runS t true p).at_ + 1) (sgn_lt hc)
   dsimp only
   revert this
   cases vf t (((runS t true p).at_ + 1 : Nat) : Int) 0 with
   | none => exact fun h => h
   | some v => exact fun h => h
  ·rw [if_neg hc, if_neg hc, Option.bind_some, if_neg (by simp), fail_at, Option.bind_some, Option.bind_some]
   dsimp only
   rw [hb _ _ (failE_ne _ _)]
   exact ⟨failE_ne _ _, _, rfl⟩
 ·rw [if_neg h]
  dsimp only
  rw [sign_bad t _ _ _ h, Option.bind_some, if_neg (by simp), fail_bad t _ _ h, Option.bind_some, Option.bind_some]
  dsimp only
  rw [hb _ _ h]
  exact ⟨h, _, rfl⟩
end Go.Proofs.Ytfnfjkddlnnolaa.P
