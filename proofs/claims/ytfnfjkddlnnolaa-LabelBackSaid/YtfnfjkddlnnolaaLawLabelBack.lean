import Derived.Test.YtfnfjkddlnnolaaRows
import Derived.Test.YtfnfjkddlnnolaaPf5
import Derived.WalkKit
import Derived.ProofKit
import Derived.OpenShut
import Derived.ShutString
import Derived.ChangeOld
import Derived.Below
import Derived.SizedLaws
import Derived.Test.YtfnfjkddlnnolaaWRest
import Derived.Test.YtfnfjkddlnnolaaPf18
import Derived.Test.YtfnfjkddlnnolaaHlabels
import Derived.Test.YtfnfjkddlnnolaaPf25
import Derived.Test.YtfnfjkddlnnolaaPf28
import Derived.Test.YtfnfjkddlnnolaaHcheck
import Derived.Test.YtfnfjkddlnnolaaHprint
import Derived.Test.YtfnfjkddlnnolaaPf15
import Derived.Test.YtfnfjkddlnnolaaHread
import Derived.Test.YtfnfjkddlnnolaaPf13
import Derived.Test.YtfnfjkddlnnolaaP0
import Derived.ChangeSlices
import Derived.ChangeArms
import Derived.ChangeMaps5
namespace Go.Proofs.Ytfnfjkddlnnolaa.P
set_option linter.unusedVariables false
set_option linter.unusedSimpArgs false
open Go.RowKit Go.Proofs.YtfnfjkddlnnolaaW.PrintWords Go.Proofs.YtfnfjkddlnnolaaW.PrintLast Go.Proofs.YtfnfjkddlnnolaaW.PrintMore Go.ChangeShapes Go.WideShapes

section
variable {H : Type} {enc : TypeId × Value → H} {P : Program} {w : World} {base : Nat} {spare : Nat → Bool} {held : Bool}
def Opens {α : Type} (enc : TypeId × Value → H) (P : Program) (w : World) (base : Nat) (spare : Nat → Bool) (held : Bool) (t : TypeId) (d : Kd α) (C : α → Prop) : Prop :=
 ∀ (fuel : Nat) (cs : List Value) (x : DataW H × List MemPlace), DataW.trod enc P w base spare held fuel t cs = some x → ∃ v : α, d.K w v cs ∧ C v
theorem open_rows {α : Type} [Inhabited α] {t e : TypeId} {d : Kd α} {C : α → Prop} (ht : P.underlying t = some (.slice e)) (hc : P.cellsOf e = d.sz) (he : Opens enc P w base spare held e d C)
  (fuel : Nat) (cs : List Value) (x : DataW H × List MemPlace) (h : DataW.trod enc P w base spare held fuel t cs = some x) :
  ∃ (A : Option Addr) (c : Nat) (l : List α), cs = [.slice A l.length c] ∧ l.length ≤ c ∧ d.C w A l.length l ∧ ∀ y ∈ l, C y := by
 rcases DataW.trod_slice ht h with ⟨rfl, _⟩ | ⟨a, len, cap, elems, rest, n, _, rfl, _, hb, hl, hm, hlen, hel, _, _⟩
 ·exact ⟨none, 0, [], rfl, Nat.le_refl _, Kd.C_nil d w, fun y hy => by cases hy⟩
 have each : ∀ i, i < len → ∃ v : α, ∃ cs', cs'.length = d.sz ∧ d.K w v cs' ∧ C v ∧ ∀ j u, cs'[j]? = some u → w.cell? (a.add (i * d.sz + j)) = some u := fun i hi => by
  have h1 := hel i hi
  rw [List.getElem?_eq_getElem (by omega), Option.bind_eq_some_iff] at h1
  obtain ⟨cs', hcs, hy⟩ := h1
  obtain ⟨v, hv, hC⟩ := he n cs' _ hy
  obtain ⟨_, hcl, hcell⟩ := World.cells?_some hcs
  refine ⟨v, cs', d.K_len hv, hv, hC, fun j u hu => ?_⟩
  have hj : j < cs'.length := (List.getElem?_eq_some_iff.1 hu).1
  have := hcell j (Nat.lt_of_lt_of_le hj (Nat.le_of_eq hcl))
  rw [hu, hc] at this
  rw [← this, Addr.add_add]
 have hall : ∃ l : List α, l.length = len ∧ ∀ i (hi : i < l.length), ∃ cs', cs'.length = d.sz ∧ d.K w l[i] cs' ∧ C l[i] ∧ ∀ j u, cs'[j]? = some u → w.cell? (a.add (i * d.sz + j)) = some u := by
  clear hel hlen
  have : ∀ m, m ≤ len → ∃ l : List α, l.length = m ∧ ∀ i (hi : i < l.length), ∃ cs', cs'.length = d.sz ∧ d.K w l[i] cs' ∧ C l[i] ∧ ∀ j u, cs'[j]? = some u → w.cell? (a.add (i * d.sz + j)) = some u := by
   intro m
   induction m with
   | zero => intro _; exact ⟨[], rfl, fun i hi => by simp at hi⟩
   | succ m ih =>
    intro hm
    obtain ⟨l, h1, h2⟩ := ih (by omega)
    obtain ⟨v, cs', k1, k2, k3, k4⟩ := each m (by omega)
    refine ⟨l ++ [v], by simp [h1], fun i hi => ?_⟩
    by_cases hlt : i < l.length
    ·obtain ⟨q, g1, g2, g3, g4⟩ := h2 i hlt
     refine ⟨q, g1, ?_, ?_, g4⟩
     ·rw [List.getElem_append_left hlt]; exact g2
     ·rw [List.getElem_append_left hlt]; exact g3
    ·have hi2 : i = m := by simp at hi; omega
     subst hi2
     have e : (l ++ [v])[i]'hi = v := by rw [List.getElem_append_right (by omega)]; simp [h1]
     refine ⟨cs', k1, ?_, ?_, k4⟩
     ·rw [e]; exact k2
     ·rw [e]; exact k3
  exact this len (Nat.le_refl _)
 obtain ⟨l, h1, h2⟩ := hall
 refine ⟨some a, cap, l, by rw [h1], by omega, ⟨rfl, by unfold maxLen at hm; omega, fun _ => ⟨a, rfl, fun j p hp => ?_⟩⟩, fun y hy => ?_⟩
 ·obtain ⟨hj, rfl⟩ := List.getElem?_eq_some_iff.1 hp
  obtain ⟨cs', k1, k2, _, k4⟩ := h2 j hj
  exact ⟨cs', k1, k2, k4⟩
 ·obtain ⟨i, hi, rfl⟩ := List.mem_iff_getElem.1 hy
  obtain ⟨_, _, _, k3, _⟩ := h2 i hi
  exact k3
theorem struct_field {t : TypeId} {fs : Array Field} {fuel : Nat} {cs : List Value} {x : DataW H × List MemPlace} (ht : P.underlying t = some (.struct fs)) (h : DataW.trod enc P w base spare held fuel t cs = some x) :
  cs.length = P.cellsOf t ∧ ∀ (i : Nat) (T : TypeId) (off c : Nat), fs[i]?.map (fun f => (f.type, f.offset)) = some (T, off) → P.cellsOf T = c → ∃ n y, DataW.trod enc P w base spare held n T ((cs.drop off).take c) = some y := by
 obtain ⟨xs, n, _, _, hl, hx, hf⟩ := DataW.trod_struct ht h
 refine ⟨hl, fun i T off c hi hc => ?_⟩
 subst hc
 obtain ⟨f, h1, h2⟩ := Option.map_eq_some_iff.1 hi
 obtain ⟨rfl, rfl⟩ := Prod.mk.inj h2
 have := hf i f h1
 have hlt : i < fs.size := (Array.getElem?_eq_some_iff.1 h1).1
 rw [List.getElem?_eq_getElem (by omega)] at this
 exact ⟨n, _, this⟩
end
end Go.Proofs.Ytfnfjkddlnnolaa.P
namespace Go.Proofs.Ytfnfjkddlnnolaa.P
set_option linter.unusedVariables false
set_option linter.unusedSimpArgs false
open Go.RowKit Go.Proofs.YtfnfjkddlnnolaaW.PrintWords Go.Proofs.YtfnfjkddlnnolaaW.PrintLast Go.Proofs.YtfnfjkddlnnolaaW.PrintMore
instance : Inhabited S43 := ⟨z43⟩
instance : Inhabited S38 := ⟨z38⟩
instance : Inhabited S35 := ⟨z35⟩
section
variable {H : Type} {enc : TypeId × Value → H} {w : World} {base : Nat} {spare : Nat → Bool} {held : Bool}
theorem opens_35 : Opens enc Try.prog w base spare held 35 k35 (fun _ => True) := fun fuel cs x h => by
 obtain ⟨hl, hf⟩ := struct_field Try.underlying35 h
 rw [show Try.prog.cellsOf 35 = 3 by kernel_rfl] at hl
 obtain ⟨c0, c1, c2, rfl⟩ : ∃ c0 c1 c2, cs = [c0, c1, c2] := by
  match cs, hl with
  | [a, b, c], _ => exact ⟨a, b, c, rfl⟩
 obtain ⟨_, _, h0⟩ := hf 0 3 0 1 rfl (by kernel_rfl)
 obtain ⟨_, _, h1⟩ := hf 1 3 1 1 rfl (by kernel_rfl)
 obtain ⟨_, _, h2⟩ := hf 2 3 2 1 rfl (by kernel_rfl)
 obtain ⟨n0, g0, _, _⟩ := DataW.trod_int Try.underlying3 h0
 obtain ⟨n1, g1, _, _⟩ := DataW.trod_int Try.underlying3 h1
 obtain ⟨n2, g2, _, _⟩ := DataW.trod_int Try.underlying3 h2
 replace g0 := List.head_eq_of_cons_eq g0
 replace g1 := List.head_eq_of_cons_eq g1
 replace g2 := List.head_eq_of_cons_eq g2
 subst g0 g1 g2
 exact ⟨⟨n0, n1, n2⟩, k35_mk w ⟨n0, n1, n2⟩, trivial⟩
end
end Go.Proofs.Ytfnfjkddlnnolaa.P
namespace Go.Proofs.Ytfnfjkddlnnolaa.P
set_option linter.unusedVariables false
set_option linter.unusedSimpArgs false
open Go.RowKit Go.Proofs.YtfnfjkddlnnolaaW.PrintWords Go.Proofs.YtfnfjkddlnnolaaW.PrintLast Go.Proofs.YtfnfjkddlnnolaaW.PrintMore

def rn (t : ByteArray) : Nat → Bool → Nat → Nat
 | 0, _, _ => 0
 | k + 1, b, p => if p < t.size ∧ fB b (gb t p) = true then rn t k false (p + 1) + 1 else 0
theorem rn_size (t : ByteArray) : ∀ (k : Nat) (b : Bool) (p : Nat), p ≤ t.size → p + rn t k b p ≤ t.size
 | 0, _, _, h => h
 | k + 1, b, p, h => by
  unfold rn
  split
  ·rename_i hc
   have := rn_size t k false (p + 1) (by omega); omega
  ·omega
structure Got where
 x : ByteArray
 at_ : Nat
 e : Int
def fin (t : ByteArray) (f q : Nat) : Got :=
 if f = q ∨ (q < t.size ∧ insB (gb t q) = true) then ⟨⟨#[]⟩, q, if q = t.size then 3 else 4⟩ else ⟨t.extract f q, q, 0⟩
def runS (t : ByteArray) (b : Bool) (p : Nat) : Got := fin t p (p + rn t 15 b p)
def sgn (t : ByteArray) (p : Nat) (c : Int) : Bool := decide (p < t.size) && (gb t p == c)
theorem runS_size (t : ByteArray) (b : Bool) (p : Nat) (h : p ≤ t.size) : p ≤ (runS t b p).at_ ∧ (runS t b p).at_ ≤ t.size := by
 unfold runS fin
 have := rn_size t 15 b p h
 split <;> (dsimp only; omega)
theorem gb_at (s : ByteArray) (p : Nat) (h : p < s.size) : gb s p = ((s[p]'h).toNat : Int) := by
 have := bt_at s (p : Int) (by simpa using h)
 unfold gb
 simpa using this.symm
theorem gb_extract (t : ByteArray) (p q : Nat) (h : p + q < t.size) : gb (t.extract p t.size) q = gb t (p + q) := by
 have h1 : q < (t.extract p t.size).size := by rw [ByteArray.size_extract]; omega
 rw [gb_at _ _ h1, gb_at _ _ h, ByteArray.getElem_extract]
theorem runE_rn (t : ByteArray) (a : Nat) (ha : a ≤ t.size) : ∀ (k : Nat) (b : Bool) (p : Nat), p + k = 15 → runE (t.extract a t.size) (k + 1) b p = p + rn t k b (a + p)
 | 0, b, p, h => by
  unfold runE rn
  rw [if_neg (by omega)]
  rfl
 | k + 1, b, p, h => by
  have hs : (t.extract a t.size).size = t.size - a := by rw [ByteArray.size_extract]; omega
  unfold runE rn
  by_cases hp : a + p < t.size
  ·rw [gb_extract t a p hp, hs]
   by_cases hf : fB b (gb t (a + p)) = true
   ·rw [if_pos ⟨by omega, hf, by omega⟩, if_pos ⟨hp, hf⟩, runE_rn t a ha k false (p + 1) (by omega), Nat.add_assoc a p 1]
    omega
   ·rw [if_neg (fun h => hf h.2.1), if_neg (fun h => hf h.2)]
    rfl
  ·rw [hs, if_neg (fun h => hp (by omega)), if_neg (fun h => hp h.1)]
   rfl
theorem runF_spec (t : ByteArray) (b : Bool) (a : Nat) (ha : a ≤ t.size) : runF b t (a : Int) 0 = some ((runS t b a).x, t, ((runS t b a).at_ : Int), (runS t b a).e) := by
 have h := runE_rn t a ha 15 b 0 rfl
 simp only [Nat.add_zero, Nat.zero_add] at h
 rw [runF_at b t a _ ha h]
 unfold runS fin
 by_cases hc : rn t 15 b a = 0 ∨ (a + rn t 15 b a < t.size ∧ insB (gb t (a + rn t 15 b a)) = true)
 ·rw [if_pos hc, if_pos (hc.imp (fun h => by omega) id)]
 ·rw [if_neg hc, if_neg (fun h => hc (h.imp (fun h => by omega) id))]
theorem runF_bad (t : ByteArray) (b : Bool) (a e : Int) (he : e ≠ 0) : runF b t a e = some (⟨#[]⟩, t, a, e) := by
 unfold runF
 rw [if_neg he]
theorem fail_bad (t : ByteArray) (a e : Int) (he : e ≠ 0) : label_reader_fail.f t a e = some (⟨#[]⟩, t, a, e) := by
 unfold label_reader_fail.f
 rw [if_neg he]
theorem sign_bad (t : ByteArray) (a e : Int) (s : ByteArray) (he : e ≠ 0) : label_reader_sign.f t a e s = some (false, t, a, e) := by
 unfold label_reader_sign.f
 rw [if_neg he]
theorem prefix1 (t : ByteArray) (a : Nat) (c : UInt8) (ha : a ≤ t.size) : strings_HasPrefix.f (t.extract a t.size) (⟨#[c]⟩ : ByteArray) = some (sgn t a (c.toNat : Int)) := by
 have hs : (t.extract a t.size).size = t.size - a := by rw [ByteArray.size_extract]; omega
 have h1 : ((⟨#[c]⟩ : ByteArray).size : Int) = 1 := rfl
 unfold strings_HasPrefix.f stringslite_HasPrefix.f sgn
 rw [h1, hs]
 by_cases h : a < t.size
 ·rw [if_pos (by omega), if_pos (by omega), if_pos (by omega), Option.bind_some, decide_eq_true h, Bool.true_and]
  congr 1
  rw [ByteArray.toList_eq, ByteArray.toList_eq]
  have e : ((t.extract a t.size).extract 0 (1 : Int).toNat).data.toList = [t[a]'h] := by
   rw [ByteArray.extract_extract, ByteArray.data_extract]
   have e2 : min (a + (1 : Int).toNat) t.size = a + 1 := by show min (a + 1) _ = _; omega
   rw [Nat.add_zero, e2]
   rw [Array.toList_extract, List.extract_eq_take_drop]
   have h2 : a < t.data.toList.length := h
   rw [show a + 1 - a = 1 by omega, List.drop_eq_getElem_cons h2]
   rfl
  rw [e, gb_at t a h]
  show ([t[a]] == [c]) = _
  rw [Bool.eq_iff_iff]
  simp only [beq_iff_eq, List.cons.injEq, and_true]
  constructor
  ·intro h; rw [h]
  ·intro h; exact UInt8.toNat_inj.1 (by omega)
 ·rw [if_neg (by omega), Option.bind_some, decide_eq_false h, Bool.false_and]
theorem sign_f (t : ByteArray) (a : Nat) (c : UInt8) (ha : a ≤ t.size) (hs : t.size ≤ 1000000) : label_reader_sign.f t (a : Int) 0 (⟨#[c]⟩ : ByteArray) = if sgn t a (c.toNat : Int) = true then some (true, t, ((a + 1 : Nat) : Int), 0) else some (false, t, (a : Int), 0) := by
 unfold label_reader_sign.f
 rw [if_pos rfl, if_pos (by omega), if_pos (by omega), Int.toNat_natCast, prefix1 t a c ha, Option.bind_some]
 cases h : sgn t a (c.toNat : Int) with
 | true =>
  rw [if_pos rfl, if_pos rfl]
  have e : wrap64 ((a : Int) + ((⟨#[c]⟩ : ByteArray).size : Int)) = ((a + 1 : Nat) : Int) := by
   show wrap64 ((a : Int) + 1) = _
   unfold wrap64
   omega
  rw [e]
 | false => rw [if_neg (by simp), if_neg (by simp)]
def failE (t : ByteArray) (a : Nat) : Int := if a = t.size then 3 else 4
theorem failE_ne (t : ByteArray) (a : Nat) : failE t a ≠ 0 := by unfold failE; split <;> decide
theorem fail_at (t : ByteArray) (a : Nat) : label_reader_fail.f t (a : Int) 0 = some (⟨#[]⟩, t, (a : Int), failE t a) := fail_f t a
theorem name_f (t : ByteArray) (a e : Int) (hs : t.size ≤ 1000000) : label_reader_name.f t a e = runF true t a e := by unfold label_reader_name.f; rw [if_pos (by omega)]
theorem value_f (t : ByteArray) (a e : Int) (hs : t.size ≤ 1000000) : label_reader_value.f t a e = runF false t a e := by unfold label_reader_value.f; rw [if_pos (by omega)]
inductive OneP (α : Type) where
 | bad (a : Nat) (e : Int)
 | good (x : α) (q : Nat)
def valS (t : ByteArray) (star : Bool) (key : ByteArray) (p : Nat) : OneP S43 :=
 if (star && sgn t p 42) = true then .good ⟨key, ⟨#[42]⟩⟩ (p + 1)
 else if (runS t false p).e = 0 then .good ⟨key, (runS t false p).x⟩ (runS t false p).at_ else .bad (runS t false p).at_ (runS t false p).e
def labS (t : ByteArray) (star : Bool) (p : Nat) : OneP S43 :=
 if (runS t true p).e = 0 then
  (if sgn t (runS t true p).at_ 61 = true then valS t star (runS t true p).x ((runS t true p).at_ + 1) else .bad (runS t true p).at_ (failE t (runS t true p).at_))
 else .bad (runS t true p).at_ (runS t true p).e
def terV (t : ByteArray) (kind : Int) (key : ByteArray) (p : Nat) : OneP S38 :=
 if (runS t false p).e = 0 then .good ⟨kind, key, (runS t false p).x⟩ (runS t false p).at_ else .bad (runS t false p).at_ (runS t false p).e
def terS (t : ByteArray) (p : Nat) : OneP S38 :=
 if sgn t p 33 = true then
  (if (runS t true (p + 1)).e = 0 then .good ⟨4, (runS t true (p + 1)).x, ⟨#[]⟩⟩ (runS t true (p + 1)).at_ else .bad (runS t true (p + 1)).at_ (runS t true (p + 1)).e)
 else if (runS t true p).e = 0 then
  (if sgn t (runS t true p).at_ 61 = true then terV t 1 (runS t true p).x ((runS t true p).at_ + 1)
  else if sgn t (runS t true p).at_ 33 = true then
   (if sgn t ((runS t true p).at_ + 1) 61 = true then terV t 2 (runS t true p).x ((runS t true p).at_ + 2) else .bad ((runS t true p).at_ + 1) (failE t ((runS t true p).at_ + 1)))
  else .good ⟨3, (runS t true p).x, ⟨#[]⟩⟩ (runS t true p).at_)
 else .bad (runS t true p).at_ (runS t true p).e
def Said {α : Type} (t : ByteArray) (o : Option (α × ByteArray × Int × Int)) : OneP α → Prop
 | .bad a e => e ≠ 0 ∧ ∃ x, o = some (x, t, (a : Int), e)
 | .good x q => o = some (x, t, (q : Int), 0)
theorem sgn_lt {t : ByteArray} {p : Nat} {c : Int} (h : sgn t p c = true) : p < t.size := by
 unfold sgn at h
 simp only [Bool.and_eq_true, decide_eq_true_eq] at h
 exact h.1
theorem value_said (t : ByteArray) (key : ByteArray) (p : Nat) (hp : p ≤ t.size) (hs : t.size ≤ 1000000) : Said t ((label_reader_value.f t (p : Int) 0).bind fun v => some ((⟨key, v.1⟩ : S43), v.2.1, v.2.2.1, v.2.2.2)) (valS t false key p) := by
 unfold valS
 rw [value_f t _ _ hs, runF_spec t false p hp, Option.bind_some, Bool.false_and, if_neg (by simp)]
 by_cases h : (runS t false p).e = 0
 ·rw [if_pos h, h]; rfl
 ·rw [if_neg h]; exact ⟨h, _, rfl⟩
theorem starred_said (t : ByteArray) (key : ByteArray) (p : Nat) (hp : p ≤ t.size) (hs : t.size ≤ 1000000) : Said t ((label_reader_starred.f t (p : Int) 0).bind fun v => some ((⟨key, v.1⟩ : S43), v.2.1, v.2.2.1, v.2.2.2)) (valS t true key p) := by
 unfold label_reader_starred.f valS
 have e := sign_f t p 42 hp hs
 rw [show ((42 : UInt8).toNat : Int) = 42 from rfl] at e
 rw [e]
 by_cases hc : sgn t p 42 = true
 ·rw [if_pos hc, Bool.true_and, if_pos hc]; rfl
 ·rw [if_neg hc, Bool.true_and, if_neg hc, Option.bind_some, if_neg (by simp), value_f t _ _ hs, runF_spec t false p hp]
  by_cases h : (runS t false p).e = 0
  ·rw [if_pos h, h]; rfl
  ·rw [if_neg h]; exact ⟨h, _, rfl⟩
theorem value_bad (t : ByteArray) (a e : Int) (hs : t.size ≤ 1000000) (he : e ≠ 0) : label_reader_value.f t a e = some (⟨#[]⟩, t, a, e) := by rw [value_f t _ _ hs, runF_bad t _ _ _ he]
theorem starred_bad (t : ByteArray) (a e : Int) (hs : t.size ≤ 1000000) (he : e ≠ 0) : label_reader_starred.f t a e = some (⟨#[]⟩, t, a, e) := by
 unfold label_reader_starred.f
 rw [sign_bad t a e _ he, Option.bind_some, if_neg (by simp), value_bad t a e hs he]
 rfl
theorem label_said (t : ByteArray) (star : Bool) (vf : ByteArray → Int → Int → Rr) (hs : t.size ≤ 1000000) (hv : ∀ key p, p ≤ t.size → Said t ((vf t (p : Int) 0).bind fun v => some ((⟨key, v.1⟩ : S43), v.2.1, v.2.2.1, v.2.2.2)) (valS t star key p))
  (hb : ∀ a e : Int, e ≠ 0 → vf t a e = some (⟨#[]⟩, t, a, e)) (p : Nat) (hp : p ≤ t.size) : Said t (oneL vf t (p : Int) 0) (labS t star p) := by
 unfold oneL labelF labS
 have hz := runS_size t true p hp
 rw [name_f t _ _ hs, runF_spec t true p hp, Option.bind_some]
 by_cases h : (runS t true p).e = 0
 ·rw [if_pos h, h]
  have e := sign_f t (runS t true p).at_ 61 hz.2 hs
  rw [show ((61 : UInt8).toNat : Int) = 61 from rfl] at e
  dsimp only
  rw [e]
  by_cases hc : sgn t (runS t true p).at_ 61 = true
  ·rw [if_pos hc, if_pos hc, Option.bind_some, if_pos rfl, Option.bind_some]
   have := hv (runS t true p).x ((runS t true p).at_ + 1) (sgn_lt hc)
   dsimp only
   revert this
   cases vf t (((runS t true p).at_ + 1 : Nat) : Int) 0 with
   | none => exact fun h => h
   | some v => exact fun h => h
  ·rw [if_neg hc, if_neg hc, Option.bind_some, if_neg (by simp), fail_at, Option.bind_some, Option.bind_some]
   dsimp only
   rw [hb _ _ (failE_ne _ _)]
   exact ⟨failE_ne _ _, _, rfl⟩
 ·rw [if_neg h]
  dsimp only
  rw [sign_bad t _ _ _ h, Option.bind_some, if_neg (by simp), fail_bad t _ _ h, Option.bind_some, Option.bind_some]
  dsimp only
  rw [hb _ _ h]
  exact ⟨h, _, rfl⟩
end Go.Proofs.Ytfnfjkddlnnolaa.P
namespace Go.Proofs.Ytfnfjkddlnnolaa.P
set_option linter.unusedVariables false
set_option linter.unusedSimpArgs false
open Go.RowKit Go.Proofs.YtfnfjkddlnnolaaW.PrintWords Go.Proofs.YtfnfjkddlnnolaaW.PrintLast Go.Proofs.YtfnfjkddlnnolaaW.PrintMore

theorem terV_said (t : ByteArray) (kind : Int) (key : ByteArray) (p : Nat) (hp : p ≤ t.size) (hs : t.size ≤ 1000000) : Said t ((label_reader_value.f t (p : Int) 0).bind fun v => some ((⟨kind, key, v.1⟩ : S38), v.2.1, v.2.2.1, v.2.2.2)) (terV t kind key p) := by
 unfold terV
 rw [value_f t _ _ hs, runF_spec t false p hp, Option.bind_some]
 by_cases h : (runS t false p).e = 0
 ·rw [if_pos h, h]; rfl
 ·rw [if_neg h]; exact ⟨h, _, rfl⟩
theorem term_said (t : ByteArray) (hs : t.size ≤ 1000000) (p : Nat) (hp : p ≤ t.size) : Said t (oneT t (p : Int) 0) (terS t p) := by
 unfold oneT label_reader_term.f terS
 have s33 := fun p hp => sign_f t p 33 hp hs
 have s61 := fun p hp => sign_f t p 61 hp hs
 rw [show ((33 : UInt8).toNat : Int) = 33 from rfl] at s33
 rw [show ((61 : UInt8).toNat : Int) = 61 from rfl] at s61
 rw [s33 p hp]
 by_cases h0 : sgn t p 33 = true
 ·rw [if_pos h0, if_pos h0, Option.bind_some, if_pos rfl]
  dsimp only
  rw [name_f t _ _ hs, runF_spec t true (p + 1) (sgn_lt h0), Option.bind_some, Option.bind_some]
  by_cases h : (runS t true (p + 1)).e = 0
  ·rw [if_pos h, h]; rfl
  ·rw [if_neg h]; exact ⟨h, _, rfl⟩
 ·rw [if_neg h0, if_neg h0, Option.bind_some, if_neg (by simp)]
  dsimp only
  have hz := runS_size t true p hp
  rw [name_f t _ _ hs, runF_spec t true p hp, Option.bind_some]
  dsimp only
  by_cases h : (runS t true p).e = 0
  ·rw [if_pos h, h, s61 _ hz.2]
   by_cases h1 : sgn t (runS t true p).at_ 61 = true
   ·rw [if_pos h1, if_pos h1, Option.bind_some, if_pos rfl]
    have := terV_said t 1 (runS t true p).x ((runS t true p).at_ + 1) (sgn_lt h1) hs
    dsimp only
    revert this
    cases label_reader_value.f t (((runS t true p).at_ + 1 : Nat) : Int) 0 with
    | none => exact fun h => h
    | some v => exact fun h => h
   ·rw [if_neg h1, if_neg h1, Option.bind_some, if_neg (by simp)]
    dsimp only
    rw [s33 _ hz.2]
    by_cases h2 : sgn t (runS t true p).at_ 33 = true
    ·rw [if_pos h2, if_pos h2, Option.bind_some, if_pos rfl]
     dsimp only
     rw [s61 _ (sgn_lt h2)]
     by_cases h3 : sgn t ((runS t true p).at_ + 1) 61 = true
     ·rw [if_pos h3, if_pos h3, Option.bind_some, if_pos rfl]
      have := terV_said t 2 (runS t true p).x ((runS t true p).at_ + 2) (sgn_lt h3) hs
      dsimp only
      revert this
      cases label_reader_value.f t (((runS t true p).at_ + 2 : Nat) : Int) 0 with
      | none => exact fun h => h
      | some v => exact fun h => h
     ·rw [if_neg h3, if_neg h3, Option.bind_some, if_neg (by simp)]
      dsimp only
      rw [fail_at, Option.bind_some]
      dsimp only
      rw [value_bad t _ _ hs (failE_ne _ _)]
      exact ⟨failE_ne _ _, _, rfl⟩
    ·rw [if_neg h2, if_neg h2, Option.bind_some, if_neg (by simp)]
     rfl
  ·rw [if_neg h, sign_bad t _ _ _ h, Option.bind_some, if_neg (by simp)]
   dsimp only
   rw [sign_bad t _ _ _ h, Option.bind_some, if_neg (by simp)]
   exact ⟨h, _, rfl⟩
theorem labS_le (t : ByteArray) (star : Bool) (p : Nat) (hp : p ≤ t.size) (x : S43) (q : Nat) (h : labS t star p = .good x q) : p < q ∧ q ≤ t.size := by
 unfold labS valS at h
 have h1 := runS_size t true p hp
 split at h
 ·split at h
  ·rename_i h2
   have h3 := sgn_lt h2
   have h4 := runS_size t false ((runS t true p).at_ + 1) h3
   split at h
   ·rename_i h5
    have h6 := sgn_lt (Bool.and_eq_true _ _ ▸ h5 : _ ∧ _).2
    cases h; omega
   ·split at h
    ·cases h; omega
    ·cases h
  ·cases h
 ·cases h
theorem fin_ok {t : ByteArray} {f q : Nat} (h : (fin t f q).e = 0) : f ≠ q ∧ ¬ (q < t.size ∧ insB (gb t q) = true) ∧ fin t f q = ⟨t.extract f q, q, 0⟩ := by
 unfold fin at h ⊢
 split at h
 ·rename_i hc
  split at h <;> cases h
 ·rename_i hc
  rw [if_neg hc]
  exact ⟨fun e => hc (Or.inl e), fun e => hc (Or.inr e), rfl⟩
theorem runS_ok {t : ByteArray} {b : Bool} {p : Nat} (h : (runS t b p).e = 0) : rn t 15 b p ≠ 0 ∧ ¬ (p + rn t 15 b p < t.size ∧ insB (gb t (p + rn t 15 b p)) = true) ∧ runS t b p = ⟨t.extract p (p + rn t 15 b p), p + rn t 15 b p, 0⟩ := by
 obtain ⟨h1, h2, h3⟩ := fin_ok h
 exact ⟨by omega, h2, h3⟩
theorem terV_le (t : ByteArray) (kind : Int) (key : ByteArray) (p : Nat) (hp : p ≤ t.size) (x : S38) (q : Nat) (h : terV t kind key p = .good x q) : p < q ∧ q ≤ t.size := by
 unfold terV at h
 have h1 := runS_size t false p hp
 split at h
 ·rename_i h2
  obtain ⟨h3, _, h4⟩ := runS_ok h2
  cases h
  rw [h4] at h1 ⊢
  dsimp only at h1 ⊢
  omega
 ·cases h
theorem terS_le (t : ByteArray) (p : Nat) (hp : p ≤ t.size) (x : S38) (q : Nat) (h : terS t p = .good x q) : p < q ∧ q ≤ t.size := by
 unfold terS at h
 have h1 := runS_size t true p hp
 split at h
 ·rename_i h2
  have h3 := runS_size t true (p + 1) (sgn_lt h2)
  split at h
  ·cases h; omega
  ·cases h
 ·split at h
  ·rename_i hr
   obtain ⟨hr1, _, hr2⟩ := runS_ok hr
   have hr3 : (runS t true p).at_ = p + rn t 15 true p := by rw [hr2]
   split at h
   ·rename_i h2
    have := terV_le _ _ _ _ (sgn_lt h2) _ _ h
    omega
   ·split at h
    ·split at h
     ·rename_i h2
      have := terV_le _ _ _ _ (sgn_lt h2) _ _ h
      omega
     ·cases h
    ·cases h; omega
  ·cases h
def mayL {α : Type} (may : α → α → Bool) (out : List α) (x : α) : Bool := match out.getLast? with
 | none => true
 | some y => may y x
def partsS {α : Type} (t : ByteArray) (one : Nat → OneP α) (may : α → α → Bool) : Nat → Nat → List α → List α × Nat × Int
 | 0, _, out => (out, 0, 0)
 | k + 1, p, out => match one p with
  | .bad a e => ([], a, e)
  | .good x q => if q < t.size ∧ sgn t q 44 = false then ([], q, 4) else if out.length = 6 then ([], p, 5) else if mayL may out x = false then ([], p, 4) else if q < t.size then partsS t one may k (q + 1) (out ++ [x]) else (out ++ [x], 0, 0)
theorem partsF_S {α : Type} (t : ByteArray) (oneP : ByteArray → Int → Int → Option (α × ByteArray × Int × Int)) (mayP : α → α → Option Bool) (one : Nat → OneP α) (may : α → α → Bool) (hs : t.size ≤ 1000000)
  (h1 : ∀ p, p ≤ t.size → Said t (oneP t (p : Int) 0) (one p)) (h2 : ∀ p x q, p ≤ t.size → one p = .good x q → p < q ∧ q ≤ t.size) (h3 : ∀ a b, mayP a b = some (may a b)) :
  ∀ (k : Nat) (p : Nat) (out : List α), p ≤ t.size → k + out.length = 7 → partsF oneP mayP (k + 1) t (p : Int) true out = some ((partsS t one may k p out).1, ((partsS t one may k p out).2.1 : Int), (partsS t one may k p out).2.2) ∨ k = 0 := by
 intro k
 induction k with
 | zero => intro _ _ _ _; exact Or.inr rfl
 | succ k ih =>
  intro p out hp hk
  left
  have hS := h1 p hp
  have hq := h2 p
  unfold partsS partsF
  rw [if_pos rfl]
  cases ho : one p with
  | bad a e =>
   rw [ho] at hS
   obtain ⟨he, x, hx⟩ := hS
   rw [hx, Option.bind_some]
   dsimp only
   rw [sign_bad t _ _ _ he, Option.bind_some]
   dsimp only
   rw [if_neg (fun h => he h.1), Option.bind_some, if_pos he]
  | good x q =>
   rw [ho] at hS
   have hx : oneP t (p : Int) 0 = some (x, t, (q : Int), 0) := hS
   have hq1 := (hq x q hp ho).2
   have s44 := sign_f t q 44 hq1 hs
   rw [show ((44 : UInt8).toNat : Int) = 44 from rfl] at s44
   rw [hx, Option.bind_some]
   dsimp only
   rw [s44]
   have tail : ∀ (m : Bool) (q2 : Nat), (m = true → q < t.size ∧ q2 = q + 1) → (m = false → ¬ q < t.size) → ((some (t, (q2 : Int), (0 : Int)) : Option (ByteArray × Int × Int)).bind fun z => if z.2.2 ≠ 0 then some (([] : List α), z.2.1, z.2.2) else if out.length = 6 then some ([], (p : Int), 5)
     else (match out.getLast? with | none => some true | some y => mayP y x).bind fun ok => if ok = true then partsF oneP mayP (k + 1) z.1 z.2.1 m (out ++ [x]) else some ([], (p : Int), 4)) =
     some ((if out.length = 6 then (([] : List α), p, (5 : Int)) else if mayL may out x = false then ([], p, 4) else if q < t.size then partsS t one may k (q + 1) (out ++ [x]) else (out ++ [x], 0, 0)).1,
      (((if out.length = 6 then (([] : List α), p, (5 : Int)) else if mayL may out x = false then ([], p, 4) else if q < t.size then partsS t one may k (q + 1) (out ++ [x]) else (out ++ [x], 0, 0)).2.1 : Nat) : Int),
      (if out.length = 6 then (([] : List α), p, (5 : Int)) else if mayL may out x = false then ([], p, 4) else if q < t.size then partsS t one may k (q + 1) (out ++ [x]) else (out ++ [x], 0, 0)).2.2) := by
    intro m q2 hm1 hm2
    rw [Option.bind_some]
    dsimp only
    rw [if_neg (by simp)]
    by_cases h6 : out.length = 6
    ·rw [if_pos h6, if_pos h6]
    ·rw [if_neg h6, if_neg h6]
     have hmay : (match out.getLast? with | none => some true | some y => mayP y x) = some (mayL may out x) := by
      unfold mayL
      cases out.getLast? with
      | none => rfl
      | some y => exact h3 y x
     rw [hmay, Option.bind_some]
     cases mayL may out x with
     | false => rw [if_neg (by simp), if_pos rfl]
     | true =>
      rw [if_pos rfl, if_neg (by simp)]
      cases m with
      | true =>
       obtain ⟨hlt, rfl⟩ := hm1 rfl
       rw [if_pos hlt]
       rcases ih (q + 1) (out ++ [x]) hlt (by simp; omega) with h | h
       ·exact h
       ·exact absurd h (by omega)
      | false =>
       rw [if_neg (hm2 rfl)]
       unfold partsF
       rw [if_neg (by simp)]
       rfl
   cases hsg : sgn t q 44 with
   | true =>
    have hlt := sgn_lt hsg
    rw [if_pos rfl, if_neg (by simp), Option.bind_some]
    dsimp only
    rw [if_neg (by simp)]
    exact tail true (q + 1) (fun _ => ⟨hlt, rfl⟩) (fun h => by cases h)
   | false =>
    rw [if_neg (by simp), Option.bind_some]
    dsimp only
    by_cases hlt : q < t.size
    ·rw [if_pos ⟨rfl, rfl, by omega⟩, if_pos ⟨hlt, rfl⟩, fail_at, Option.bind_some, Option.bind_some]
     dsimp only
     rw [if_pos (failE_ne _ _)]
     have : failE t q = 4 := by unfold failE; rw [if_neg (by omega)]
     rw [this]
    ·rw [if_neg (fun h => hlt (by omega)), if_neg (fun h => hlt h.1)]
     exact tail false q (fun h => by cases h) (fun _ => hlt)
def wholeS {α : Type} (t : ByteArray) (one : Nat → OneP α) (may : α → α → Bool) : List α × Nat × Int := if t.size = 0 then ([], 0, 0) else partsS t one may 7 0 []
theorem partsF_whole {α : Type} (t : ByteArray) (oneP : ByteArray → Int → Int → Option (α × ByteArray × Int × Int)) (mayP : α → α → Option Bool) (one : Nat → OneP α) (may : α → α → Bool) (hs : t.size ≤ 1000000)
  (h1 : ∀ p, p ≤ t.size → Said t (oneP t (p : Int) 0) (one p)) (h2 : ∀ p x q, p ≤ t.size → one p = .good x q → p < q ∧ q ≤ t.size) (h3 : ∀ a b, mayP a b = some (may a b)) :
  partsF oneP mayP 8 t 0 (!t.toList.isEmpty) [] = some ((wholeS t one may).1, ((wholeS t one may).2.1 : Int), (wholeS t one may).2.2) := by
 unfold wholeS
 by_cases h0 : t.size = 0
 ·have e : t.toList.isEmpty = true := by
   rw [ByteArray.toList_eq, List.isEmpty_iff]
   exact List.length_eq_zero_iff.1 h0
  rw [if_pos h0, e]
  unfold partsF
  rw [if_neg (by simp)]
  rfl
 ·have e : t.toList.isEmpty = false := by
   rw [ByteArray.toList_eq, Bool.eq_false_iff]
   intro h
   exact h0 (List.length_eq_zero_iff.2 (List.isEmpty_iff.1 h))
  rw [if_neg h0, e]
  rcases partsF_S t oneP mayP one may hs h1 h2 h3 7 0 [] (by omega) rfl with h | h
  ·exact h
  ·cases h
end Go.Proofs.Ytfnfjkddlnnolaa.P
namespace Go.Proofs.Ytfnfjkddlnnolaa.P
set_option linter.unusedVariables false
set_option linter.unusedSimpArgs false
open Go.RowKit Go.Proofs.YtfnfjkddlnnolaaW.PrintWords Go.Proofs.YtfnfjkddlnnolaaW.PrintLast Go.Proofs.YtfnfjkddlnnolaaW.PrintMore

theorem cmp_cases : ∀ (a b : List UInt8), (Lib.compareBytes a b = -1 ∧ Op.bytesLess a b = true ∧ a ≠ b) ∨ (Lib.compareBytes a b = 1 ∧ Op.bytesLess a b = false ∧ a ≠ b) ∨ (Lib.compareBytes a b = 0 ∧ Op.bytesLess a b = false ∧ a = b)
 | [], [] => Or.inr (Or.inr ⟨rfl, rfl, rfl⟩)
 | [], _ :: _ => Or.inl ⟨rfl, rfl, by simp⟩
 | _ :: _, [] => Or.inr (Or.inl ⟨rfl, rfl, by simp⟩)
 | x :: a, y :: b => by
  have ih := cmp_cases a b
  unfold Lib.compareBytes Op.bytesLess
  by_cases h1 : x < y
  ·left
   rw [if_pos h1, decide_eq_true h1]
   exact ⟨rfl, rfl, fun e => by cases e; exact absurd h1 (UInt8.lt_irrefl _)⟩
  ·rw [if_neg h1, decide_eq_false h1, Bool.false_or]
   by_cases h2 : y < x
   ·right; left
    rw [if_pos h2]
    have hne : x ≠ y := fun e => by subst e; exact absurd h2 (UInt8.lt_irrefl _)
    refine ⟨rfl, ?_, fun e => hne (by cases e; rfl)⟩
    rw [beq_eq_false_iff_ne.2 hne]; rfl
   ·rw [if_neg h2]
    have he : x = y := by
     apply UInt8.toNat_inj.1
     have h3 := UInt8.not_lt.1 h1
     have h4 := UInt8.not_lt.1 h2
     rw [UInt8.le_iff_toNat_le] at h3 h4
     omega
    subst he
    rw [beq_self_eq_true, Bool.true_and]
    rcases ih with ⟨h3, h4, h5⟩ | ⟨h3, h4, h5⟩ | ⟨h3, h4, h5⟩
    ·exact Or.inl ⟨h3, h4, fun e => h5 (by cases e; rfl)⟩
    ·exact Or.inr (Or.inl ⟨h3, h4, fun e => h5 (by cases e; rfl)⟩)
    ·exact Or.inr (Or.inr ⟨h3, h4, by rw [h5]⟩)
def riseB (star : Bool) (k1 v1 k2 v2 : ByteArray) : Bool := Op.bytesLess k1.data.toList k2.data.toList || (star && (k1.data.toList == k2.data.toList && Op.bytesLess v1.data.toList v2.data.toList))
theorem byKey_f (a b : S43) : byKeyL a b = some (riseB false a.f0 a.f1 b.f0 b.f1) := by
 unfold byKeyL label_byKey.f riseB
 rw [ByteArray.toList_eq, ByteArray.toList_eq, Bool.false_and, Bool.or_false]
theorem or2 (a b : Int) : cmp_Or_int.f 3 [a, b] = some (if a = 0 then b else a) := by
 unfold cmp_Or_int.f
 have l2 : (([a, b] : List Int).length : Int) = 2 := rfl
 rw [l2, cmp_Or_int.l0, l2, if_pos (by decide), if_pos (by decide), if_pos (by decide)]
 have e0 : rd [a, b] 0 = a := rfl
 rw [e0]
 by_cases h : a = 0
 ·rw [if_pos h, if_pos h]
  have e1 : wrap64 (0 + 1) = 1 := by unfold wrap64; omega
  rw [e1, cmp_Or_int.l0, l2, if_pos (by decide), if_pos (by decide), if_pos (by decide)]
  have e2 : rd [a, b] 1 = b := rfl
  rw [e2]
  by_cases h2 : b = 0
  ·rw [if_pos h2]
   have e3 : wrap64 (1 + 1) = 2 := by unfold wrap64; omega
   rw [e3, cmp_Or_int.l0, if_neg (by decide), h2]
  ·rw [if_neg h2]
 ·rw [if_neg h, if_neg h]
theorem byBoth_f (a b : S43) : byBothL a b = some (riseB true a.f0 a.f1 b.f0 b.f1) := by
 unfold byBothL label_byBoth.f label_compare.f strings_Compare.f riseB
 rw [Option.bind_some, Option.bind_some, or2]
 simp only [Option.bind_some, Bool.true_and]
 congr 1
 rcases cmp_cases a.f0.data.toList b.f0.data.toList with ⟨h1, h2, h3⟩ | ⟨h1, h2, h3⟩ | ⟨h1, h2, h3⟩
 ·rw [h1, h2]; rfl
 ·rw [h1, h2, beq_eq_false_iff_ne.2 h3]; rfl
 ·rw [h1, h2, beq_iff_eq.2 h3, if_pos rfl, Bool.false_or, Bool.true_and]
  rcases cmp_cases a.f1.data.toList b.f1.data.toList with ⟨h4, h5, _⟩ | ⟨h4, h5, _⟩ | ⟨h4, h5, _⟩ <;> rw [h4, h5] <;> rfl
def riseL (star : Bool) (a b : S43) : Bool := riseB star a.f0 a.f1 b.f0 b.f1
theorem labels_f (t : ByteArray) (hs : t.size ≤ 1000000) : label_Labels.f t = some ((wholeS t (labS t false) (riseL false)).1, ((wholeS t (labS t false) (riseL false)).2.1 : Int), (wholeS t (labS t false) (riseL false)).2.2) :=
 partsF_whole t _ _ _ _ hs (label_said t false _ hs (fun key p hp => value_said t key p hp hs) (fun a e he => value_bad t a e hs he)) (fun p x q hp h => labS_le t false p hp x q h) byKey_f
theorem borne_f (t : ByteArray) (hs : t.size ≤ 1000000) : label_Borne.f t = some ((wholeS t (labS t true) (riseL true)).1, ((wholeS t (labS t true) (riseL true)).2.1 : Int), (wholeS t (labS t true) (riseL true)).2.2) :=
 partsF_whole t _ _ _ _ hs (label_said t true _ hs (fun key p hp => starred_said t key p hp hs) (fun a e he => starred_bad t a e hs he)) (fun p x q hp h => labS_le t true p hp x q h) byBoth_f
theorem terms_f (t : ByteArray) (hs : t.size ≤ 1000000) : label_Terms.f t = some ((wholeS t (terS t) (fun _ _ => true)).1, ((wholeS t (terS t) (fun _ _ => true)).2.1 : Int), (wholeS t (terS t) (fun _ _ => true)).2.2) :=
 partsF_whole t _ _ _ _ hs (fun p hp => term_said t hs p hp) (fun p x q hp h => terS_le t p hp x q h) (fun _ _ => rfl)
end Go.Proofs.Ytfnfjkddlnnolaa.P
namespace Go.Proofs.Ytfnfjkddlnnolaa.P
set_option linter.unusedVariables false
set_option linter.unusedSimpArgs false
open Go.RowKit Go.Proofs.YtfnfjkddlnnolaaW.PrintWords Go.Proofs.YtfnfjkddlnnolaaW.PrintLast Go.Proofs.YtfnfjkddlnnolaaW.PrintMore
theorem wsm {a b : Int} (h : a = b) (h1 : -1000000000 ≤ b) (h2 : b ≤ 1000000000) : wrap64 a = b := by subst h; unfold wrap64; omega
end Go.Proofs.Ytfnfjkddlnnolaa.P
namespace Go.Proofs.Ytfnfjkddlnnolaa.P
set_option linter.unusedVariables false
set_option linter.unusedSimpArgs false
open Go.RowKit Go.Proofs.YtfnfjkddlnnolaaW.PrintWords Go.Proofs.YtfnfjkddlnnolaaW.PrintLast Go.Proofs.YtfnfjkddlnnolaaW.PrintMore
end Go.Proofs.Ytfnfjkddlnnolaa.P
namespace Go.Proofs.Ytfnfjkddlnnolaa.P
set_option linter.unusedVariables false
set_option linter.unusedSimpArgs false
open Go.RowKit Go.Proofs.YtfnfjkddlnnolaaW.PrintWords Go.Proofs.YtfnfjkddlnnolaaW.PrintLast Go.Proofs.YtfnfjkddlnnolaaW.PrintMore

theorem bytes_eq {a b : ByteArray} (h : a.data.toList = b.data.toList) : a = b := by
 apply ByteArray.ext
 exact Array.toList_inj.1 h
theorem app_list (a b : ByteArray) : (a ++ b).data.toList = a.data.toList ++ b.data.toList := by rw [ByteArray.data_append, Array.toList_append]
theorem idx_none (s : ByteArray) (h : ∀ i, i < s.size → insB (gb s i) = true) : ∀ (f p : Nat), Lib.idxFuncFrom outN true s f p = -1
 | 0, _ => rfl
 | f + 1, p => by
  unfold Lib.idxFuncFrom
  by_cases hp : p < s.size
  ·have h1 := ascii_fB false s p hp
   have h2 : fB false (gb s p) = true := h p hp
   have h3 : insB (((Utf8.decode s p).1 : Nat) : Int) = true := by
    have := h1.1
    rw [h2] at this
    exact this
   rw [if_pos hp, if_neg (by unfold outN; rw [h3]; decide)]
   exact idx_none s h f _
  ·rw [if_neg hp]
theorem valB_of (s : ByteArray) (h0 : s.size ≠ 0) (h1 : s.size ≤ 15) (h : ∀ i, i < s.size → insB (gb s i) = true) : valB s = true := by
 have e : s.toList.isEmpty = false := by
  rw [ByteArray.toList_eq, Bool.eq_false_iff]
  intro h
  exact h0 (List.length_eq_zero_iff.2 (List.isEmpty_iff.1 h))
 unfold valB Lib.idxFunc
 rw [idx_none s h, e, decide_eq_true (by omega)]
 decide
theorem name_of (s : ByteArray) (h : valB s = true) (h0 : s.size ≠ 0) (h1 : smaB (gb s 0) = true) : label_Name.f s = some true := by
 unfold label_Name.f label_Value.f
 rw [h, Option.bind_some, if_pos rfl, if_pos (by omega), small_f]
 have : wrap32 (bt s 0) = gb s 0 := by
  have h2 := bt_range s 0
  show wrap32 (bt s 0) = bt s ((0 : Nat) : Int)
  rw [show ((0 : Nat) : Int) = 0 from rfl]
  unfold wrap32
  omega
 rw [this, h1]
 rfl
def goodL (star : Bool) (x : S43) : Prop := label_Name.f x.f0 = some true ∧ (if star = true then label_star.f x.f1 = some true else label_Value.f x.f1 = some true) ∧ x.f0.size ≤ 15 ∧ x.f1.size ≤ 15
theorem star_val {s : ByteArray} (h : valB s = true) : label_star.f s = some true := by
 unfold label_star.f label_Value.f
 split
 ·rfl
 ·rw [h]; rfl
def goodT (x : S38) : Prop := label_Name.f x.f1 = some true ∧ 1 ≤ x.f0 ∧ x.f0 ≤ 4 ∧ ((x.f0 = 1 ∨ x.f0 = 2) ∧ valB x.f2 = true ∨ (x.f0 = 3 ∨ x.f0 = 4) ∧ x.f2 = ⟨#[]⟩) ∧ x.f1.size ≤ 15 ∧ x.f2.size ≤ 15
def Chain {α : Type} (may : α → α → Bool) (l : List α) : Prop := ∀ i (h : i + 1 < l.length), may (l[i]'(by omega)) l[i + 1] = true
end Go.Proofs.Ytfnfjkddlnnolaa.P
namespace Go.Proofs.Ytfnfjkddlnnolaa.P
set_option linter.unusedVariables false
set_option linter.unusedSimpArgs false
open Go.RowKit Go.Proofs.YtfnfjkddlnnolaaW.PrintWords Go.Proofs.YtfnfjkddlnnolaaW.PrintLast Go.Proofs.YtfnfjkddlnnolaaW.PrintMore
theorem rd43_get (xs : List S43) (i : Nat) (h : i < xs.length) : rd_T43 xs (i : Int) = xs[i] := by
 unfold rd_T43
 rw [Int.toNat_natCast, List.getD_eq_getElem?_getD, List.getElem?_eq_getElem h]
 rfl
theorem rd38_get (xs : List S38) (i : Nat) (h : i < xs.length) : rd_T38 xs (i : Int) = xs[i] := by
 unfold rd_T38
 rw [Int.toNat_natCast, List.getD_eq_getElem?_getD, List.getElem?_eq_getElem h]
 rfl
theorem okL_small {l : List S43} (h : ∀ x ∈ l, x.f0.size ≤ 15 ∧ x.f1.size ≤ 15) : l.all okL = true := by
 rw [List.all_eq_true]
 intro x hx
 have := h x hx
 unfold okL
 rw [decide_eq_true (by omega), decide_eq_true (by omega)]
 rfl
theorem join_len (B : Nat) : ∀ (L : List (List UInt8)), (∀ x ∈ L, x.length ≤ B) → (Lib.join L [44]).length ≤ L.length * (B + 1)
 | [], _ => Nat.zero_le _
 | x :: r, h => by
  rw [Lib.join_cons]
  have h1 := h x List.mem_cons_self
  have h2 : ∀ (r : List (List UInt8)), (∀ x ∈ r, x.length ≤ B) → (Lib.joinTail [44] r).length ≤ r.length * (B + 1) := by
   intro r
   induction r with
   | nil => intro _; exact Nat.zero_le _
   | cons y s ih =>
    intro hr
    have h3 := ih (fun z hz => hr z (List.mem_cons_of_mem _ hz))
    have h4 := hr y List.mem_cons_self
    unfold Lib.joinTail at h3 ⊢
    rw [List.map_cons, List.flatten_cons, List.length_append, List.length_append, List.length_cons, List.length_cons, Nat.add_mul]
    simp only [List.length_nil]
    omega
  have h3 := h2 r (fun z hz => h z (List.mem_cons_of_mem _ hz))
  rw [List.length_append, List.length_cons, Nat.add_mul]
  omega
theorem textL_size {x : S43} (h : x.f0.size ≤ 15 ∧ x.f1.size ≤ 15) : (textL x).size ≤ 31 := by
 unfold textL
 rw [ba_size, ba_size]
 show x.f0.size + 1 + _ ≤ _
 omega
theorem joinL_small {l : List S43} (h : ∀ x ∈ l, x.f0.size ≤ 15 ∧ x.f1.size ≤ 15) (hl : l.length ≤ 12) : joinL l = some ⟨(Lib.join ((l.map textL).map (·.data.toList)) [44]).toArray⟩ := by
 have h0 := join_len 31 ((l.map textL).map (·.data.toList)) (by
  intro y hy
  obtain ⟨b, hb, rfl⟩ := List.mem_map.1 hy
  obtain ⟨x, hx, rfl⟩ := List.mem_map.1 hb
  exact textL_size (h x hx))
 have h1 : ((l.map textL).map (·.data.toList)).length = l.length := by rw [List.length_map, List.length_map]
 rw [h1] at h0
 have h2 : (Lib.join ((l.map textL).map (·.data.toList)) [44]).length ≤ 140737488355328 := by omega
 unfold joinL
 rw [if_pos ⟨okL_small h, by omega, h2⟩]
def smallT (x : S38) : Prop := 1 ≤ x.f0 ∧ x.f0 ≤ 4 ∧ x.f1.size ≤ 15 ∧ x.f2.size ≤ 15
theorem okT_small {l : List S38} (h : ∀ x ∈ l, smallT x) : l.all okT = true := by
 rw [List.all_eq_true]
 intro x hx
 obtain ⟨h1, h2, h3, h4⟩ := h x hx
 unfold okT
 rw [decide_eq_true (by omega), decide_eq_true (by omega), decide_eq_true h1, decide_eq_true h2]
 rfl
theorem textT_size {x : S38} (h : smallT x) : (textT x).size ≤ 32 := by
 obtain ⟨h1, h2, h3, h4⟩ := h
 unfold textT
 have e1 : (⟨#[61]⟩ : ByteArray).size = 1 := rfl
 have e2 : (⟨#[33, 61]⟩ : ByteArray).size = 2 := rfl
 have e3 : (⟨#[33]⟩ : ByteArray).size = 1 := rfl
 have e4 : (⟨#[]⟩ : ByteArray).size = 0 := rfl
 split
 ·simp only [ba_size]; omega
 ·split
  ·simp only [ba_size]; omega
  ·split
   ·omega
   ·split
    ·simp only [ba_size]; omega
    ·omega
theorem joinT_small {l : List S38} (h : ∀ x ∈ l, smallT x) (hl : l.length ≤ 12) : joinT l = some ⟨(Lib.join ((l.map textT).map (·.data.toList)) [44]).toArray⟩ := by
 have h0 := join_len 32 ((l.map textT).map (·.data.toList)) (by
  intro y hy
  obtain ⟨b, hb, rfl⟩ := List.mem_map.1 hy
  obtain ⟨x, hx, rfl⟩ := List.mem_map.1 hb
  exact textT_size (h x hx))
 have h1 : ((l.map textT).map (·.data.toList)).length = l.length := by rw [List.length_map, List.length_map]
 rw [h1] at h0
 have h2 : (Lib.join ((l.map textT).map (·.data.toList)) [44]).length ≤ 140737488355328 := by omega
 unfold joinT
 rw [if_pos ⟨okT_small h, by omega, h2⟩]
end Go.Proofs.Ytfnfjkddlnnolaa.P
namespace Go.Proofs.Ytfnfjkddlnnolaa.P
set_option linter.unusedVariables false
set_option linter.unusedSimpArgs false
open Go.RowKit Go.Proofs.YtfnfjkddlnnolaaW.PrintWords Go.Proofs.YtfnfjkddlnnolaaW.PrintLast Go.Proofs.YtfnfjkddlnnolaaW.PrintMore

def Rst (t : ByteArray) (p : Nat) (L : List UInt8) : Prop := p ≤ t.size ∧ t.data.toList.drop p = L
theorem rst_len {t : ByteArray} {p : Nat} {L : List UInt8} (h : Rst t p L) : p + L.length = t.size := by
 have e : t.data.toList.length = t.size := rfl
 have h1 := h.1
 rw [← h.2, List.length_drop]
 omega
theorem rst_step {t : ByteArray} {p : Nat} {a b : List UInt8} (h : Rst t p (a ++ b)) : Rst t (p + a.length) b := by
 have h1 := rst_len h
 rw [List.length_append] at h1
 refine ⟨by omega, ?_⟩
 rw [← List.drop_drop, h.2, List.drop_left]
theorem rst_gb {t : ByteArray} {p : Nat} {L : List UInt8} (h : Rst t p L) (i : Nat) (hi : i < L.length) : gb t (p + i) = ((L[i]).toNat : Int) := by
 have h1 := rst_len h
 rw [gb_at t (p + i) (by omega)]
 obtain ⟨_, rfl⟩ := h
 rw [List.getElem_drop]
 rfl
theorem rst_sgn {t : ByteArray} {p : Nat} {c : UInt8} {L : List UInt8} (h : Rst t p (c :: L)) (d : Int) : sgn t p d = ((c.toNat : Int) == d) := by
 have h1 := rst_len h
 rw [List.length_cons] at h1
 have h2 := rst_gb h 0 (by simp)
 unfold sgn
 rw [decide_eq_true (by omega), Bool.true_and]
 rw [Nat.add_zero] at h2
 rw [h2]
 rfl
theorem rst_end {t : ByteArray} {p : Nat} (h : Rst t p []) : p = t.size := by
 have := rst_len h
 simpa using this
theorem rst_ext {t : ByteArray} {p : Nat} {s : ByteArray} {b : List UInt8} (h : Rst t p (s.data.toList ++ b)) : t.extract p (p + s.size) = s := by
 apply bytes_eq
 rw [ByteArray.data_extract, Array.toList_extract, List.extract_eq_take_drop, h.2]
 have e : p + s.size - p = s.data.toList.length := by
  have : s.data.toList.length = s.size := rfl
  omega
 rw [e, List.take_left]
def Stops (L : List UInt8) : Prop := ∀ c r, L = c :: r → insB (c.toNat : Int) = false
def Runs (b : Bool) (s : ByteArray) : Prop := s.size ≠ 0 ∧ s.size ≤ 15 ∧ (∀ i (h : i < s.data.toList.length), insB ((s.data.toList[i]).toNat : Int) = true) ∧ (b = true → ∀ c r, s.data.toList = c :: r → smaB (c.toNat : Int) = true)
theorem rn_reads (t : ByteArray) : ∀ (k n : Nat) (b : Bool) (p : Nat), n ≤ k → p + n ≤ t.size → (∀ i, i < n → insB (gb t (p + i)) = true) → (n ≠ 0 → fB b (gb t p) = true) → (n = 0 → b = false) → (p + n < t.size → insB (gb t (p + n)) = false) → rn t k b p = n
 | 0, n, b, p, h, _, _, _, _, _ => by
  unfold rn
  omega
 | k + 1, n, b, p, h, h1, h2, h3, h4, h5 => by
  unfold rn
  cases n with
  | zero =>
   rw [if_neg]
   intro hc
   have hb := h4 rfl
   rw [hb] at hc
   have := h5 hc.1
   rw [Nat.add_zero] at this
   have h6 : insB (gb t p) = true := hc.2
   rw [this] at h6
   cases h6
  | succ n =>
   rw [if_pos ⟨by omega, h3 (by omega)⟩]
   congr 1
   refine rn_reads t k n false (p + 1) (by omega) (by omega) (fun i hi => ?_) (fun hn => ?_) (fun _ => rfl) (fun hlt => ?_)
   ·rw [show p + 1 + i = p + (i + 1) by omega]
    exact h2 (i + 1) (by omega)
   ·exact h2 1 (by omega)
   ·rw [show p + 1 + n = p + (n + 1) by omega]
    exact h5 (by omega)
theorem runS_reads {t : ByteArray} {b : Bool} {p : Nat} {s : ByteArray} {r : List UInt8} (h : Rst t p (s.data.toList ++ r)) (hr : Runs b s) (hs : Stops r) : runS t b p = ⟨s, p + s.size, 0⟩ ∧ Rst t (p + s.size) r := by
 have hl := rst_len h
 have e : s.data.toList.length = s.size := rfl
 rw [List.length_append] at hl
 have hstep := rst_step h
 rw [e] at hstep
 have hstop : p + s.size < t.size → insB (gb t (p + s.size)) = false := by
  intro hlt
  cases r with
  | nil => have := rst_end hstep; omega
  | cons c r =>
   have := rst_gb hstep 0 (by simp)
   rw [Nat.add_zero] at this
   rw [this]
   exact hs c r rfl
 have hrn : rn t 15 b p = s.size := by
  refine rn_reads t 15 s.size b p hr.2.1 (by omega) (fun i hi => ?_) (fun hn => ?_) (fun h0 => absurd h0 hr.1) hstop
  ·rw [rst_gb h i (by rw [List.length_append]; omega), List.getElem_append_left (by omega)]
   exact hr.2.2.1 i (by omega)
  ·have h1 := rst_gb h 0 (by rw [List.length_append]; omega)
   rw [Nat.add_zero, List.getElem_append_left (by omega)] at h1
   rw [h1]
   cases b with
   | false => exact hr.2.2.1 0 (by omega)
   | true =>
    have h2 := hr.2.2.2 rfl
    obtain ⟨c, q, hc⟩ : ∃ c q, s.data.toList = c :: q := by
     cases hq : s.data.toList with
     | nil => rw [hq] at e; simp at e; omega
     | cons c q => exact ⟨c, q, rfl⟩
    have h3 := h2 c q hc
    simp only [hc]
    exact h3
 refine ⟨?_, hstep⟩
 unfold runS fin
 rw [hrn, if_neg, rst_ext h]
 intro hc
 rcases hc with hc | hc
 ·have := hr.1; omega
 ·rw [hstop hc.1] at hc
  exact absurd hc.2 (by decide)
def Comma (L : List UInt8) : Prop := ∀ c r, L = c :: r → c = 44
theorem comma_stops {L : List UInt8} (h : Comma L) : Stops L := fun c r e => by rw [h c r e]; rfl
theorem stops_61 (L : List UInt8) : Stops (61 :: L) := fun c r e => by cases e; rfl
theorem stops_33 (L : List UInt8) : Stops (33 :: L) := fun c r e => by cases e; rfl
theorem runs_head {b : Bool} {s : ByteArray} (h : Runs b s) : ∃ c q, s.data.toList = c :: q ∧ insB (c.toNat : Int) = true ∧ (b = true → smaB (c.toNat : Int) = true) := by
 have e : s.data.toList.length = s.size := rfl
 cases hq : s.data.toList with
 | nil => rw [hq] at e; have := h.1; simp at e; omega
 | cons c q =>
  refine ⟨c, q, rfl, ?_, fun hb => h.2.2.2 hb c q hq⟩
  have := h.2.2.1 0 (by rw [hq]; simp)
  simpa only [hq, List.getElem_cons_zero] using this
theorem ins_ne {c : UInt8} (h : insB (c.toNat : Int) = true) (d : Int) (hd : insB d = false) : ((c.toNat : Int) == d) = false := by
 rw [beq_eq_false_iff_ne]
 intro he
 rw [he, hd] at h
 cases h
theorem labS_reads {t : ByteArray} {star : Bool} {p : Nat} {x : S43} {r : List UInt8} (h : Rst t p ((textL x).data.toList ++ r)) (h1 : Runs true x.f0) (h2 : Runs false x.f1) (hr : Comma r) :
  labS t star p = .good x (p + (textL x).size) := by
 have e1 : (textL x).data.toList ++ r = x.f0.data.toList ++ (61 :: (x.f1.data.toList ++ r)) := by
  unfold textL
  rw [app_list, app_list]
  simp
 rw [e1] at h
 obtain ⟨g1, g2⟩ := runS_reads h h1 (stops_61 _)
 have g3 : Rst t (p + x.f0.size + 1) (x.f1.data.toList ++ r) := rst_step (a := [61]) g2
 obtain ⟨g4, g5⟩ := runS_reads g3 h2 (comma_stops hr)
 have s61 : sgn t (p + x.f0.size) 61 = true := by rw [rst_sgn g2]; rfl
 obtain ⟨c, q, hc, hi, _⟩ := runs_head h2
 have g6 := g3
 rw [hc, List.cons_append] at g6
 have s42 : sgn t (p + x.f0.size + 1) 42 = false := by rw [rst_sgn g6]; exact ins_ne hi 42 rfl
 unfold labS valS
 rw [g1]
 dsimp only
 rw [if_pos rfl, if_pos s61, s42, Bool.and_false, if_neg (by decide), g4]
 dsimp only
 rw [if_pos rfl]
 have e2 : (textL x).size = x.f0.size + 1 + x.f1.size := by unfold textL; rw [ba_size, ba_size]; rfl
 rw [e2, show p + (x.f0.size + 1 + x.f1.size) = p + x.f0.size + 1 + x.f1.size by omega]
theorem textT_1 (f1 f2 : ByteArray) : textT ⟨1, f1, f2⟩ = f1 ++ (⟨#[61]⟩ : ByteArray) ++ f2 := rfl
theorem textT_2 (f1 f2 : ByteArray) : textT ⟨2, f1, f2⟩ = f1 ++ (⟨#[33, 61]⟩ : ByteArray) ++ f2 := rfl
theorem textT_3 (f1 f2 : ByteArray) : textT ⟨3, f1, f2⟩ = f1 := rfl
theorem textT_4 (f1 f2 : ByteArray) : textT ⟨4, f1, f2⟩ = (⟨#[33]⟩ : ByteArray) ++ f1 := rfl
def MayT (x : S38) : Prop := Runs true x.f1 ∧ ((x.f0 = 1 ∨ x.f0 = 2) ∧ Runs false x.f2 ∨ (x.f0 = 3 ∨ x.f0 = 4) ∧ x.f2 = ⟨#[]⟩)
theorem terS_reads {t : ByteArray} {p : Nat} {x : S38} {r : List UInt8} (h : Rst t p ((textT x).data.toList ++ r)) (hx : MayT x) (hr : Comma r) :
  terS t p = .good x (p + (textT x).size) := by
 obtain ⟨f0, f1, f2⟩ := x
 obtain ⟨h1, h2⟩ := hx
 dsimp only at h1 h2
 obtain ⟨c, q, hc, hi, _⟩ := runs_head h1
 have e61 : (⟨#[61]⟩ : ByteArray).size = 1 := rfl
 have e33 : (⟨#[33]⟩ : ByteArray).size = 1 := rfl
 have e36 : (⟨#[33, 61]⟩ : ByteArray).size = 2 := rfl
 have first : ∀ L, Rst t p (f1.data.toList ++ L) → sgn t p 33 = false := by
  intro L hL
  rw [hc, List.cons_append] at hL
  rw [rst_sgn hL]
  exact ins_ne hi 33 rfl
 rcases h2 with ⟨hk, hv⟩ | ⟨hk, hv⟩
 ·rcases hk with rfl | rfl
  ·have e1 : (textT ⟨1, f1, f2⟩).data.toList ++ r = f1.data.toList ++ (61 :: (f2.data.toList ++ r)) := by
    rw [textT_1, app_list, app_list]
    simp
   rw [e1] at h
   obtain ⟨g1, g2⟩ := runS_reads h h1 (stops_61 _)
   have g3 : Rst t (p + f1.size + 1) (f2.data.toList ++ r) := rst_step (a := [61]) g2
   obtain ⟨g4, g5⟩ := runS_reads g3 hv (comma_stops hr)
   have s61 : sgn t (p + f1.size) 61 = true := by rw [rst_sgn g2]; rfl
   unfold terS terV
   rw [first _ h, if_neg (by decide), g1]
   dsimp only
   rw [if_pos rfl, if_pos s61, g4]
   dsimp only
   rw [if_pos rfl]
   have e2 : (textT ⟨1, f1, f2⟩).size = f1.size + 1 + f2.size := by rw [textT_1, ba_size, ba_size, e61]
   rw [e2, show p + (f1.size + 1 + f2.size) = p + f1.size + 1 + f2.size by omega]
  ·have e1 : (textT ⟨2, f1, f2⟩).data.toList ++ r = f1.data.toList ++ (33 :: (61 :: (f2.data.toList ++ r))) := by
    rw [textT_2, app_list, app_list]
    simp
   rw [e1] at h
   obtain ⟨g1, g2⟩ := runS_reads h h1 (stops_33 _)
   have g3 : Rst t (p + f1.size + 1) (61 :: (f2.data.toList ++ r)) := rst_step (a := [33]) g2
   have g3' : Rst t (p + f1.size + 2) (f2.data.toList ++ r) := rst_step (a := [61]) g3
   obtain ⟨g4, g5⟩ := runS_reads g3' hv (comma_stops hr)
   have s61 : sgn t (p + f1.size) 61 = false := by rw [rst_sgn g2]; rfl
   have s33 : sgn t (p + f1.size) 33 = true := by rw [rst_sgn g2]; rfl
   have s61' : sgn t (p + f1.size + 1) 61 = true := by rw [rst_sgn g3]; rfl
   unfold terS terV
   rw [first _ h, if_neg (by decide), g1]
   dsimp only
   rw [if_pos rfl, s61, if_neg (by decide), if_pos s33, if_pos s61', g4]
   dsimp only
   rw [if_pos rfl]
   have e2 : (textT ⟨2, f1, f2⟩).size = f1.size + 2 + f2.size := by rw [textT_2, ba_size, ba_size, e36]
   rw [e2, show p + (f1.size + 2 + f2.size) = p + f1.size + 2 + f2.size by omega]
 ·rcases hk with rfl | rfl
  ·have e1 : textT ⟨3, f1, f2⟩ = f1 := by
    exact textT_3 f1 f2
   rw [e1] at h ⊢
   obtain ⟨g1, g2⟩ := runS_reads h h1 (comma_stops hr)
   have sn : ∀ d : Int, d ≠ 44 → sgn t (p + f1.size) d = false := by
    intro d hd
    cases r with
    | nil =>
     have := rst_end g2
     unfold sgn
     rw [decide_eq_false (by omega)]
     rfl
    | cons c r =>
     rw [rst_sgn g2, hr c r rfl, beq_eq_false_iff_ne]
     exact fun h => hd h.symm
   unfold terS
   rw [first _ h, if_neg (by decide), g1]
   dsimp only
   rw [if_pos rfl, sn 61 (by decide), if_neg (by decide), sn 33 (by decide), if_neg (by decide), hv]
  ·have e1 : (textT ⟨4, f1, f2⟩).data.toList ++ r = 33 :: (f1.data.toList ++ r) := by
    rw [textT_4, app_list]
    simp
   rw [e1] at h
   have g1 : Rst t (p + 1) (f1.data.toList ++ r) := rst_step (a := [33]) h
   obtain ⟨g2, g3⟩ := runS_reads g1 h1 (comma_stops hr)
   have s33 : sgn t p 33 = true := by rw [rst_sgn h]; rfl
   unfold terS
   rw [if_pos s33, g2]
   dsimp only
   rw [if_pos rfl, hv]
   have e2 : (textT ⟨4, f1, ⟨#[]⟩⟩).size = 1 + f1.size := by rw [textT_4, ba_size, e33]
   rw [e2, show p + (1 + f1.size) = p + 1 + f1.size by omega]
theorem comma_cons (L : List UInt8) : Comma (44 :: L) := fun c r e => by cases e; rfl
theorem comma_nil : Comma [] := fun c r e => by cases e
theorem parts_reads {α : Type} (t : ByteArray) (one : Nat → OneP α) (may : α → α → Bool) (txt : α → ByteArray) (G : α → Prop)
  (h1 : ∀ p x r, Rst t p ((txt x).data.toList ++ r) → G x → Comma r → one p = .good x (p + (txt x).size)) :
  ∀ (l : List α) (k p : Nat) (out : List α), l ≠ [] → l.length ≤ k → out.length + l.length ≤ 6 → (∀ x ∈ l, G x) → Chain may (out ++ l) → Rst t p (Lib.join ((l.map txt).map (·.data.toList)) [44]) → partsS t one may k p out = (out ++ l, 0, 0)
 | [], _, _, _, h, _, _, _, _, _ => absurd rfl h
 | x :: l, 0, _, _, _, h, _, _, _, _ => by simp at h
 | x :: l, k + 1, p, out, _, hk, h6, hG, hC, hR => by
  rw [List.map_cons, List.map_cons, Lib.join_cons] at hR
  simp only [List.length_cons] at hk h6
  have hmay : mayL may out x = true := by
   unfold mayL
   cases hl : out.getLast? with
   | none => rfl
   | some y =>
    have hne : out ≠ [] := by intro h; rw [h] at hl; cases hl
    have hlen : 0 < out.length := List.length_pos_iff.2 hne
    have := hC (out.length - 1) (by rw [List.length_append, List.length_cons]; omega)
    have e1 : (out ++ x :: l)[out.length - 1]'(by rw [List.length_append]; omega) = y := by
     rw [List.getElem_append_left (by omega)]
     rw [List.getLast?_eq_getElem?, List.getElem?_eq_getElem (by omega)] at hl
     exact Option.some.inj hl
    have e2 : (out ++ x :: l)[out.length - 1 + 1]'(by rw [List.length_append, List.length_cons]; omega) = x := by
     rw [List.getElem_append_right (by omega)]
     have : out.length - 1 + 1 - out.length = 0 := by omega
     simp only [this]
     rfl
    rw [e1, e2] at this
    exact this
  have hG0 := hG x List.mem_cons_self
  cases l with
  | nil =>
   have hR' : Rst t p ((txt x).data.toList ++ []) := by simpa [Lib.joinTail] using hR
   have ho := h1 p x [] hR' hG0 comma_nil
   have he := rst_end (rst_step hR')
   have e : (txt x).data.toList.length = (txt x).size := rfl
   rw [e] at he
   unfold partsS
   rw [ho]
   dsimp only
   rw [if_neg (by omega), if_neg (by omega), hmay, if_neg (by decide), if_neg (by omega)]
  | cons y l =>
   have e0 : Lib.joinTail [44] (((y :: l).map txt).map (·.data.toList)) = 44 :: Lib.join (((y :: l).map txt).map (·.data.toList)) [44] := by
    rw [List.map_cons, List.map_cons, Lib.join_cons]
    unfold Lib.joinTail
    rw [List.map_cons, List.flatten_cons]
    simp
   rw [e0] at hR
   have ho := h1 p x _ hR hG0 (comma_cons _)
   have g1 := rst_step hR
   have e : (txt x).data.toList.length = (txt x).size := rfl
   rw [e] at g1
   have s44 : sgn t (p + (txt x).size) 44 = true := by rw [rst_sgn g1]; rfl
   have g2 : Rst t (p + (txt x).size + 1) (Lib.join (((y :: l).map txt).map (·.data.toList)) [44]) := rst_step (a := [44]) g1
   unfold partsS
   rw [ho]
   dsimp only
   rw [s44, if_neg (by simp), if_neg (by omega), hmay, if_neg (by decide), if_pos (sgn_lt s44)]
   have := parts_reads t one may txt G h1 (y :: l) k (p + (txt x).size + 1) (out ++ [x]) (by simp) (by simp at hk ⊢; omega) (by simp at h6 ⊢; omega) (fun z hz => hG z (List.mem_cons_of_mem _ hz)) (by rw [List.append_assoc]; exact hC) g2
   rw [this, List.append_assoc]
   rfl
theorem whole_reads {α : Type} (one : ByteArray → Nat → OneP α) (may : α → α → Bool) (txt : α → ByteArray) (G : α → Prop)
  (h1 : ∀ t p x r, Rst t p ((txt x).data.toList ++ r) → G x → Comma r → one t p = .good x (p + (txt x).size)) (hne : ∀ x, G x → (txt x).size ≠ 0)
  (l : List α) (h6 : l.length ≤ 6) (hG : ∀ x ∈ l, G x) (hC : Chain may l) : wholeS ⟨(Lib.join ((l.map txt).map (·.data.toList)) [44]).toArray⟩ (one ⟨(Lib.join ((l.map txt).map (·.data.toList)) [44]).toArray⟩) may = (l, 0, 0) := by
 obtain ⟨t, ht⟩ : ∃ t : ByteArray, ⟨(Lib.join ((l.map txt).map (·.data.toList)) [44]).toArray⟩ = t := ⟨_, rfl⟩
 have hd : t.data.toList = Lib.join ((l.map txt).map (·.data.toList)) [44] := by rw [← ht]
 rw [ht]
 unfold wholeS
 cases l with
 | nil => rw [← ht]; rfl
 | cons x l =>
  have h0 : t.size ≠ 0 := by
   have e : t.size = t.data.toList.length := rfl
   rw [e, hd, List.map_cons, List.map_cons, Lib.join_cons, List.length_append]
   have e2 : (txt x).data.toList.length = (txt x).size := rfl
   have := hne x (hG x List.mem_cons_self)
   omega
  rw [if_neg h0]
  have := parts_reads t (one t) may txt G (h1 t) (x :: l) 7 0 [] (by simp) (by omega) (by simpa using h6) hG hC ⟨Nat.zero_le _, by rw [hd]; rfl⟩
  rw [this]
  rfl
end Go.Proofs.Ytfnfjkddlnnolaa.P
namespace Go.Proofs.Ytfnfjkddlnnolaa.P
set_option linter.unusedVariables false
set_option linter.unusedSimpArgs false
open Go.RowKit Go.Proofs.YtfnfjkddlnnolaaW.PrintWords Go.Proofs.YtfnfjkddlnnolaaW.PrintLast Go.Proofs.YtfnfjkddlnnolaaW.PrintMore

theorem runs_small (o : Nat) (h : o < 8) : Runs true (smalls.getD o ⟨#[]⟩) := by
 match o, h with
 | 0, _ | 1, _ | 2, _ | 3, _ | 4, _ | 5, _ | 6, _ | 7, _ => exact ⟨by decide, by decide, by decide +kernel, fun _ c r e => by cases e; rfl⟩
theorem runs_value (o : Nat) (h : o < 6) : Runs false (values.getD o ⟨#[]⟩) := by
 match o, h with
 | 0, _ | 1, _ | 2, _ | 3, _ | 4, _ | 5, _ => exact ⟨by decide, by decide, by decide +kernel, fun h => by cases h⟩
theorem runs_smaT (a : Int) : Runs true (smaT a) := by
 have hb := brn_bd a 8 (by decide)
 exact runs_small _ (by omega)
theorem runs_valT (a : Int) : Runs false (valT a) := by
 have hb := brn_bd a 6 (by decide)
 exact runs_value _ (by omega)
theorem hasA_may (l : List S35) : ∀ (k : Nat), ∀ x ∈ hasA l k, x = ⟨#[]⟩ ∨ Runs false x
 | 0, x, h => by
  unfold hasA at h
  simp only [List.mem_cons, List.not_mem_nil, or_false, or_self] at h
  exact Or.inl h
 | k + 1, x, h => by
  unfold hasA at h
  rcases List.mem_or_eq_of_mem_set h with h | h
  ·exact hasA_may l k x h
  ·rw [h]; exact Or.inr (runs_valT _)
theorem names_rise : ∀ j, j < 8 → ∀ i, i < j → Op.bytesLess (smalls.getD (ord.getD i 0) ⟨#[]⟩).data.toList (smalls.getD (ord.getD j 0) ⟨#[]⟩).data.toList = true := by decide +kernel
theorem riseL_of {star : Bool} {a b : S43} (h : riseL false a b = true) : riseL star a b = true := by
 unfold riseL riseB at h ⊢
 rw [Bool.false_and, Bool.or_false] at h
 rw [h]
 rfl
theorem outL_all (h : List ByteArray) (hh : ∀ x ∈ h, x = ⟨#[]⟩ ∨ Runs false x) : ∀ k, k ≤ 8 → (∀ x ∈ outL h k, (∃ i, i < k ∧ x.f0 = smalls.getD (ord.getD i 0) ⟨#[]⟩) ∧ Runs false x.f1) ∧ (outL h k).Pairwise (fun a b => riseL false a b = true) ∧ (outL h k).length ≤ 6
 | 0, _ => ⟨fun x hx => (by cases hx), List.Pairwise.nil, Nat.zero_le _⟩
 | k + 1, hk => by
  obtain ⟨h1, h2, h3⟩ := outL_all h hh k (by omega)
  by_cases hc : (h.getD (ord.getD k 0) ⟨#[]⟩).toList ≠ [] ∧ (outL h k).length < 6
  ·rw [outL_add hc]
   have hv : Runs false (h.getD (ord.getD k 0) ⟨#[]⟩) := by
    have hmem : h.getD (ord.getD k 0) ⟨#[]⟩ = ⟨#[]⟩ ∨ h.getD (ord.getD k 0) ⟨#[]⟩ ∈ h := by
     rw [List.getD_eq_getElem?_getD]
     by_cases hi : ord.getD k 0 < h.length
     ·rw [List.getElem?_eq_getElem hi]; exact Or.inr (List.getElem_mem hi)
     ·rw [List.getElem?_eq_none (by omega)]; exact Or.inl rfl
    have hne : h.getD (ord.getD k 0) ⟨#[]⟩ ≠ ⟨#[]⟩ := by
     intro e
     apply hc.1
     rw [e, ByteArray.toList_eq]
    rcases hmem with e | e
    ·exact absurd e hne
    ·exact (hh _ e).resolve_left hne
   refine ⟨fun x hx => ?_, ?_, by simp only [List.length_append, List.length_singleton]; omega⟩
   ·rcases List.mem_append.1 hx with hx | hx
    ·obtain ⟨⟨i, hi, e⟩, hr⟩ := h1 x hx
     exact ⟨⟨i, by omega, e⟩, hr⟩
    ·rw [List.mem_singleton] at hx
     subst hx
     exact ⟨⟨k, by omega, rfl⟩, hv⟩
   ·rw [List.pairwise_append]
    refine ⟨h2, List.pairwise_singleton _ _, fun a ha b hb => ?_⟩
    rw [List.mem_singleton] at hb
    subst hb
    obtain ⟨⟨i, hi, e⟩, _⟩ := h1 a ha
    unfold riseL riseB
    rw [e, names_rise k (by omega) i hi]
    rfl
  ·rw [outL_skip hc]
   exact ⟨fun x hx => by obtain ⟨⟨i, hi, e⟩, hr⟩ := h1 x hx; exact ⟨⟨i, by omega, e⟩, hr⟩, h2, h3⟩
def MayL (x : S43) : Prop := Runs true x.f0 ∧ Runs false x.f1
def outs (l : List S35) : List S43 := outL (hasA l l.length) 8
theorem outs_may (l : List S35) : (∀ x ∈ outs l, MayL x) ∧ (outs l).Pairwise (fun a b => riseL false a b = true) ∧ (outs l).length ≤ 6 := by
 obtain ⟨h1, h2, h3⟩ := outL_all (hasA l l.length) (hasA_may l l.length) 8 (by omega)
 refine ⟨fun x hx => ?_, h2, h3⟩
 obtain ⟨⟨i, hi, e⟩, hr⟩ := h1 x hx
 refine ⟨?_, hr⟩
 rw [e]
 exact runs_small _ (ord_lt i)
theorem chain_of {α : Type} {may : α → α → Bool} {l : List α} (h : l.Pairwise (fun a b => may a b = true)) : Chain may l := fun i hi => List.pairwise_iff_getElem.1 h i (i + 1) (by omega) hi (by omega)
theorem outs_chain (star : Bool) (l : List S35) : Chain (riseL star) (outs l) := chain_of ((outs_may l).2.1.imp fun h => riseL_of h)
theorem runs_gb {b : Bool} {s : ByteArray} (h : Runs b s) : ∀ i, i < s.size → insB (gb s i) = true := by
 intro i hi
 rw [gb_at s i hi]
 exact h.2.2.1 i hi
theorem runs_val {b : Bool} {s : ByteArray} (h : Runs b s) : valB s = true := valB_of s h.1 h.2.1 (runs_gb h)
theorem runs_name {s : ByteArray} (h : Runs true s) : label_Name.f s = some true := by
 refine name_of s (runs_val h) h.1 ?_
 obtain ⟨c, q, hc, _, hs⟩ := runs_head h
 have h0 := h.1
 rw [gb_at s 0 (by omega)]
 have e : s[0]'(by omega) = s.data.toList[0]'(by rw [hc]; simp) := rfl
 rw [e]
 simp only [hc]
 exact hs rfl
theorem mayL_good {star : Bool} {x : S43} (h : MayL x) : goodL star x := by
 refine ⟨runs_name h.1, ?_, h.1.2.1, h.2.2.1⟩
 split
 ·exact star_val (runs_val h.2)
 ·unfold label_Value.f
  rw [runs_val h.2]
theorem mayT_good {x : S38} (h : MayT x) : goodT x := by
 obtain ⟨h1, h2⟩ := h
 refine ⟨runs_name h1, by omega, by omega, ?_, h1.2.1, ?_⟩
 ·rcases h2 with ⟨hk, hv⟩ | h2
  ·exact Or.inl ⟨hk, runs_val hv⟩
  ·exact Or.inr h2
 ·rcases h2 with ⟨hk, hv⟩ | ⟨_, h2⟩
  ·exact hv.2.1
  ·rw [h2]; exact Nat.zero_le _
theorem textL_ne {x : S43} : (textL x).size ≠ 0 := by
 unfold textL
 rw [ba_size, ba_size]
 have e : (⟨#[61]⟩ : ByteArray).size = 1 := rfl
 omega
theorem textT_ne {x : S38} (h : MayT x) : (textT x).size ≠ 0 := by
 obtain ⟨h1, h2⟩ := h
 have h0 := h1.1
 unfold textT
 split
 ·simp only [ba_size]; omega
 ·split
  ·simp only [ba_size]; omega
  ·split
   ·omega
   ·split
    ·simp only [ba_size]; omega
    ·omega
def termOf (x : S35) : S38 := ⟨1 + brn x.f2 4, smaT x.f0, if 1 + brn x.f2 4 = 1 ∨ 1 + brn x.f2 4 = 2 then valT x.f1 else ⟨#[]⟩⟩
theorem term_fT (x : S35) : drayagelaw03_term.f x.f0 x.f1 x.f2 = some ((termOf x).f0, (termOf x).f1, (termOf x).f2) := by
 have hb := brn_bd x.f2 4 (by decide)
 unfold drayagelaw03_term.f termOf
 rw [bring_f x.f2 4 (by decide) (by decide), Option.bind_some, small_fT, Option.bind_some, wsm (b := 1 + brn x.f2 4) rfl (by omega) (by omega)]
 dsimp only
 by_cases h1 : 1 + brn x.f2 4 = 1
 ·rw [if_pos h1, value_fT, Option.bind_some, if_pos (Or.inl h1)]
 ·rw [if_neg h1]
  by_cases h2 : 1 + brn x.f2 4 = 2
  ·rw [if_pos h2, value_fT, Option.bind_some, if_pos (Or.inr h2)]
  ·rw [if_neg h2, if_neg (fun h => h.elim h1 h2)]
theorem termOf_may (x : S35) : MayT (termOf x) := by
 have hb := brn_bd x.f2 4 (by decide)
 refine ⟨runs_smaT _, ?_⟩
 unfold termOf
 dsimp only
 by_cases h : 1 + brn x.f2 4 = 1 ∨ 1 + brn x.f2 4 = 2
 ·rw [if_pos h]; exact Or.inl ⟨h, runs_valT _⟩
 ·rw [if_neg h]; exact Or.inr ⟨by omega, rfl⟩
theorem rd35_get (xs : List S35) (i : Nat) (h : i < xs.length) : rd_T35 xs (i : Int) = xs[i] := by
 unfold rd_T35
 rw [Int.toNat_natCast, List.getD_eq_getElem?_getD, List.getElem?_eq_getElem h]
 rfl
end Go.Proofs.Ytfnfjkddlnnolaa.P
namespace Go.Proofs.Ytfnfjkddlnnolaa.Pure
open Go.RowKit Go.Proofs.Ytfnfjkddlnnolaa.P Go.Proofs.YtfnfjkddlnnolaaW.PrintWords Go.Proofs.YtfnfjkddlnnolaaW.PrintLast

theorem checkG_fine (vf : ByteArray → Option Bool) (may : S43 → S43 → Option Bool) (xs : List S43) (hx : ∀ x ∈ xs, label_Name.f x.f0 = some true ∧ vf x.f1 = some true) (hm : ∀ i (h : i + 1 < xs.length), may (xs[i]'(by omega)) xs[i + 1] = some true) (h6 : xs.length ≤ 6) :
  ∀ (n k : Nat), k + n = xs.length + 1 → n ≠ 0 → checkG vf may xs n k = some 0 := by
 intro n
 induction n with
 | zero => intro _ _ h; exact absurd rfl h
 | succ n ih =>
  intro k hk _
  unfold checkG
  by_cases hlt : k < xs.length
  ·have hg := hx _ (List.getElem_mem hlt)
   rw [if_pos hlt, rd43_get xs k hlt, hg.1, Option.bind_some, if_pos rfl, hg.2, Option.bind_some, if_pos rfl]
   have hmay : (if k = 0 then some true else may (rd_T43 xs ((k : Int) - 1)) xs[k]) = some true := by
    split
    ·rfl
    ·rename_i h0
     obtain ⟨j, rfl⟩ : ∃ j, k = j + 1 := ⟨k - 1, by omega⟩
     rw [show ((j + 1 : Nat) : Int) - 1 = (j : Int) by omega, rd43_get xs j (by omega)]
     exact hm j hlt
   rw [hmay, Option.bind_some, if_pos rfl]
   exact ih (k + 1) (by omega) (by omega)
  ·rw [if_neg hlt, if_pos h6]
theorem valB_nil : valB (⟨#[]⟩ : ByteArray) = false := by
 unfold valB
 rw [ByteArray.toList_eq]
 rfl
theorem checkT_fine (l : List S38) (hx : ∀ x ∈ l, goodT x) (h6 : l.length ≤ 6) : ∀ (n k i : Nat), i + n = l.length → n + 1 ≤ k → label_CheckTerms.l0 k l l (l.length : Int) (i : Int) = some 0 := by
 intro n
 induction n with
 | zero =>
  intro k i hi hk
  obtain ⟨k, rfl⟩ : ∃ j, k = j + 1 := ⟨k - 1, by omega⟩
  rw [label_CheckTerms.l0, if_neg (by omega), decide_eq_true (by omega)]
  rfl
 | succ n ih =>
  intro k i hi hk
  obtain ⟨k, rfl⟩ : ∃ j, k = j + 1 := ⟨k - 1, by omega⟩
  have hlt : i < l.length := by omega
  obtain ⟨g1, g2, g3, g4, _, _⟩ := hx _ (List.getElem_mem hlt)
  have hgo := ih k (i + 1) (by omega) (by omega)
  rw [label_CheckTerms.l0, rd38_get l i hlt, if_pos (by omega), if_pos (by omega), if_pos (by omega), if_neg (by omega), if_neg (by omega), g1, Option.bind_some, if_pos rfl, wsm (b := ((i + 1 : Nat) : Int)) (by omega) (by omega) (by omega)]
  unfold label_Value.f
  rcases g4 with ⟨hk1, hv⟩ | ⟨hk1, hv⟩
  ·have e : label_valued.f l[i].f0 = some true := by
    unfold label_valued.f
    rcases hk1 with h | h <;> rw [h] <;> rfl
   rw [e, Option.bind_some, Option.bind_some, hv, if_neg (by decide), Option.bind_some, if_pos rfl]
   exact hgo
  ·have e : label_valued.f l[i].f0 = some false := by
    unfold label_valued.f
    rcases hk1 with h | h <;> rw [h] <;> rfl
   rw [e, Option.bind_some, Option.bind_some, hv, valB_nil, if_neg (by decide), Option.bind_some, if_neg (by decide), if_pos (by rw [ByteArray.toList_eq])]
   exact hgo
end Go.Proofs.Ytfnfjkddlnnolaa.Pure
namespace Go.Proofs.Ytfnfjkddlnnolaa.Pure
open Go.RowKit Go.Proofs.Ytfnfjkddlnnolaa.P Go.Proofs.YtfnfjkddlnnolaaW.PrintWords Go.Proofs.YtfnfjkddlnnolaaW.PrintLast

theorem works_b : drayagelaw03_works.f 100 = some true := by kernel_rfl
theorem back_labels (x0 : List S35) (a : List S43) (hl : a.length ≤ 100) : ∀ (n m i : Nat), i + n = a.length → drayagelaw03_LabelBack.l0 (n + 1 + m) x0 a a a (i : Int) = drayagelaw03_LabelBack.l1 m x0 [] 0
 | 0, m, i, h => by
  rw [show 0 + 1 + m = m + 1 by omega, drayagelaw03_LabelBack.l0, if_neg (by omega)]
 | n + 1, m, i, h => by
  rw [show n + 1 + 1 + m = n + 1 + m + 1 by omega, drayagelaw03_LabelBack.l0, if_pos (by omega), if_pos (by omega), if_pos (by omega)]
  rw [beq_self_eq_true, beq_self_eq_true, if_neg (by decide), if_pos (by omega), if_neg (by decide), wsm (b := ((i + 1 : Nat) : Int)) (by omega) (by omega) (by omega), back_labels x0 a hl n m (i + 1) (by omega)]
theorem back_terms (a : List S38) (hl : a.length ≤ 100) : ∀ (n m i : Nat), i + n = a.length → drayagelaw03_LabelBack.l2 (n + 1 + m) a a (i : Int) = some true
 | 0, m, i, h => by
  rw [show 0 + 1 + m = m + 1 by omega, drayagelaw03_LabelBack.l2, if_neg (by omega)]
 | n + 1, m, i, h => by
  rw [show n + 1 + 1 + m = n + 1 + m + 1 by omega, drayagelaw03_LabelBack.l2, if_pos (by omega), if_pos (by omega), if_pos (by omega)]
  rw [beq_self_eq_true, beq_self_eq_true, beq_self_eq_true, if_neg (by decide), wsm (b := ((i + 1 : Nat) : Int)) (by omega) (by omega) (by omega), back_terms a hl n m (i + 1) (by omega)]
theorem back_gather (x0 : List S35) : ∀ (n m i : Nat), i + n = min x0.length 6 → drayagelaw03_LabelBack.l1 (n + 1 + m) x0 ((x0.take i).map termOf) (i : Int) = drayagelaw03_LabelBack.j3 m ((x0.take 6).map termOf)
 | 0, m, i, h => by
  rw [show 0 + 1 + m = m + 1 by omega, drayagelaw03_LabelBack.l1]
  have e : x0.take i = x0.take 6 := by
   rcases Nat.le_total x0.length 6 with h6 | h6
   ·rw [List.take_of_length_le (by omega), List.take_of_length_le h6]
   ·rw [show i = 6 by omega]
  rw [e]
  by_cases hlt : (i : Int) < (x0.length : Int)
  ·rw [if_pos hlt, if_neg (by omega)]
  ·rw [if_neg hlt]
 | n + 1, m, i, h => by
  have hlt : i < x0.length := by omega
  rw [show n + 1 + 1 + m = n + 1 + m + 1 by omega, drayagelaw03_LabelBack.l1, if_pos (by omega), if_pos (by omega), if_pos (by omega), rd35_get x0 i hlt, term_fT, Option.bind_some]
  have hlen : ((x0.take i).map termOf).length ≤ 6 := by rw [List.length_map, List.length_take]; omega
  rw [if_pos (by omega), wsm (b := ((i + 1 : Nat) : Int)) (by omega) (by omega) (by omega), ← back_gather x0 n m (i + 1) (by omega)]
  rw [List.take_succ_eq_append_getElem hlt, List.map_append]
  rfl
theorem join_size (B : Nat) (L : List (List UInt8)) (h : ∀ x ∈ L, x.length ≤ B) (h6 : L.length ≤ 6) (hB : B ≤ 100) : (⟨(Lib.join L [44]).toArray⟩ : ByteArray).size ≤ 1000000 := by
 have h0 := join_len B L h
 have e : (⟨(Lib.join L [44]).toArray⟩ : ByteArray).size = (Lib.join L [44]).length := rfl
 have : L.length * (B + 1) ≤ 6 * (B + 1) := Nat.mul_le_mul_right _ h6
 omega
theorem LabelBack (l0 : List S35) : ∃ k, drayagelaw03_LabelBack.f k l0 = some true := by
 refine ⟨100, ?_⟩
 unfold drayagelaw03_LabelBack.f
 obtain ⟨h1, h2, h3⟩ := outs_may l0
 have hlab : drayagelaw03_labels.f l0 = some (outs l0) := rfl
 have c0 := outs_chain false l0
 have c1 := outs_chain true l0
 rw [works_b, Option.bind_some, if_pos rfl, hlab, Option.bind_some]
 generalize outs l0 = a at h1 h2 h3 c0 c1
 have hsz : ∀ x ∈ a, x.f0.size ≤ 15 ∧ x.f1.size ≤ 15 := fun x hx => ⟨(h1 x hx).1.2.1, (h1 x hx).2.2.1⟩
 have hp : label_Print.f a = _ := joinL_small hsz (by omega)
 have hts := join_size 31 ((a.map textL).map (·.data.toList)) (by
  intro y hy
  obtain ⟨b, hb, rfl⟩ := List.mem_map.1 hy
  obtain ⟨x, hx, rfl⟩ := List.mem_map.1 hb
  exact textL_size (hsz x hx)) (by rw [List.length_map, List.length_map]; exact h3) (by decide)
 have wL := whole_reads (fun t => labS t false) (riseL false) textL MayL (fun t p x r hr hx hc => labS_reads hr hx.1 hx.2 hc) (fun x _ => textL_ne) a h3 h1 c0
 have wB := whole_reads (fun t => labS t true) (riseL true) textL MayL (fun t p x r hr hx hc => labS_reads hr hx.1 hx.2 hc) (fun x _ => textL_ne) a h3 h1 c1
 have eL := labels_f _ hts
 have eB := borne_f _ hts
 rw [wL] at eL
 rw [wB] at eB
 replace eL : label_Labels.f ⟨(Lib.join ((a.map textL).map (·.data.toList)) [44]).toArray⟩ = some (a, 0, 0) := eL
 replace eB : label_Borne.f ⟨(Lib.join ((a.map textL).map (·.data.toList)) [44]).toArray⟩ = some (a, 0, 0) := eB
 have eC : label_Check.f a = some 0 := checkG_fine label_Value.f byKeyL a (fun x hx => ⟨(mayL_good (star := false) (h1 x hx)).1, by have := (mayL_good (star := false) (h1 x hx)).2.1; rwa [if_neg (by decide)] at this⟩) (fun i h => by rw [byKey_f]; congr 1; exact c0 i h) h3 _ 0 (Nat.zero_add _) (by omega)
 rw [hp, Option.bind_some, eL, Option.bind_some, Option.bind_some, eB, Option.bind_some, eC, Option.bind_some]
 dsimp only
 rw [if_pos rfl, if_pos rfl, if_pos rfl, if_pos rfl, if_pos rfl, if_pos rfl]
 have e0 : ((a.length : Int) != (a.length : Int)) = false := by simp
 rw [e0, drayagelaw03_LabelBack.j0, if_neg (by decide)]
 have g1 := back_labels l0 a (by omega) a.length (98 - a.length) 0 (Nat.zero_add _)
 rw [show a.length + 1 + (98 - a.length) = 99 by omega] at g1
 have g1' : drayagelaw03_LabelBack.l0 99 l0 a a a 0 = _ := g1
 rw [g1']
 have hn : min l0.length 6 ≤ 6 := by omega
 have g2 := back_gather l0 (min l0.length 6) (98 - a.length - (min l0.length 6 + 1)) 0 (Nat.zero_add _)
 rw [show min l0.length 6 + 1 + (98 - a.length - (min l0.length 6 + 1)) = 98 - a.length by omega] at g2
 have g2' : drayagelaw03_LabelBack.l1 (98 - a.length) l0 [] 0 = _ := g2
 rw [g2']
 obtain ⟨k, hk⟩ : ∃ k, 98 - a.length - (min l0.length 6 + 1) = k + 2 := ⟨98 - a.length - (min l0.length 6 + 1) - 2, by omega⟩
 have hk2 : 50 ≤ k := by omega
 rw [hk]
 clear g1 g1' g2 g2' wL wB eL eB eC hp hts
 have t1 : ∀ x ∈ (l0.take 6).map termOf, MayT x := by
  intro x hx
  obtain ⟨y, _, rfl⟩ := List.mem_map.1 hx
  exact termOf_may y
 have t6 : ((l0.take 6).map termOf).length ≤ 6 := by rw [List.length_map, List.length_take]; omega
 generalize (l0.take 6).map termOf = b at t1 t6
 have hst : ∀ x ∈ b, smallT x := fun x hx => by
  obtain ⟨_, q1, q2, _, q3, q4⟩ := mayT_good (t1 x hx)
  exact ⟨q1, q2, q3, q4⟩
 have tp : label_PrintTerms.f b = _ := joinT_small hst (by omega)
 have tts := join_size 32 ((b.map textT).map (·.data.toList)) (by
  intro y hy
  obtain ⟨c, hc, rfl⟩ := List.mem_map.1 hy
  obtain ⟨x, hx, rfl⟩ := List.mem_map.1 hc
  exact textT_size (hst x hx)) (by rw [List.length_map, List.length_map]; exact t6) (by decide)
 have wT := whole_reads terS (fun _ _ => true) textT MayT (fun t p x r hr hx hc => terS_reads hr hx hc) (fun x hx => textT_ne hx) b t6 t1 (fun _ _ => rfl)
 have eT := terms_f _ tts
 rw [wT] at eT
 replace eT : label_Terms.f ⟨(Lib.join ((b.map textT).map (·.data.toList)) [44]).toArray⟩ = some (b, 0, 0) := eT
 have eK : label_CheckTerms.f (k + 1) b = some 0 := checkT_fine b (fun x hx => mayT_good (t1 x hx)) t6 b.length (k + 1) 0 (Nat.zero_add _) (by omega)
 rw [drayagelaw03_LabelBack.j3, tp, Option.bind_some, eT, Option.bind_some, eK, Option.bind_some]
 dsimp only
 have e1 : ((b.length : Int) != (b.length : Int)) = false := by simp
 rw [if_pos rfl, if_pos rfl, if_pos rfl, e1, drayagelaw03_LabelBack.j4, if_neg (by decide)]
 have g3 := back_terms b (by omega) b.length (k - (b.length + 1)) 0 (Nat.zero_add _)
 rw [show b.length + 1 + (k - (b.length + 1)) = k by omega] at g3
 exact g3
end Go.Proofs.Ytfnfjkddlnnolaa.Pure
namespace Go.Proofs.Ytfnfjkddlnnolaa.labelBack
open Go.ChangeShapes Go.WideShapes Go.ChangeAt Go.RowKit
open Go.ChangeMaps (open_string shut_string)
open Go.Proofs.YtfnfjkddlnnolaaW.PrintWords
set_option linter.unusedVariables false
set_option linter.unusedSimpArgs false
theorem own : ownKnob Try.prog.godebug = none := by kernel_rfl
theorem laidOut : laidOutB Try.prog = true := by kernel_rfl
set_option maxRecDepth 100000 in
theorem lifted (os : Os) (started : os.Started) (H : Type) (enc : TypeId × Value → H) :
    ReturnsInHanded {} Try.checked os 5 .any (Rows.labelBackSpec.pre6 enc Try.prog Try.f5 Rows.labelBackRow.domain false) (Rows.labelBackSpec.post enc Try.prog Try.f5 false true false false) := by
  refine returnsInHanded_of_change_sized (C := Try.checked) own started (by kernel_rfl) Try.func5
    (ChangeSpec.witness6 (enc := enc) (C := Try.checked) false ⟨#[], #[.slice none 0 0], []⟩ 8 (by kernel_rfl) (by kernel_rfl) (by kernel_rfl) (by kernel_rfl)) ?_
  intro W base args ds gs before hval0 hW hcnd hsz0 _
  have hsz : (DataW.weightsEach Try.prog (Try.f5.params.toList ++ Rows.labelBackSpec.plain.varTypes Try.prog) (ds ++ gs)).all (· ≤ reachBytes) = true := hsz0
  have hval : ∀ (j : Nat) t v, Try.f5.params[j]? = some t → args[j]? = some v → Value.okWide Try.prog W .any base t v := hval0
  have hW' := hW
  obtain ⟨p, q, hA0, hV, rfl, hfz, hnd⟩ := hW
  have hA : DataW.TrodAll enc Try.prog W 0 (fun _ => true) true Try.f5.params.toList args.toList ds p := hA0
  rw [Try.params5] at hA hval hsz
  obtain ⟨v0, vs0, d0, ds0, p0, q0, hargs, rfl, rfl, h0, r0⟩ := trodAll_cons hA
  obtain ⟨rfl, rfl, rfl⟩ := trodAll_nil r0
  obtain rfl : args = #[v0] := by cases args; simp_all
  obtain ⟨rfl, rfl⟩ := trodVars_none hV
  have k0 := h0
  have lt0 : ∀ x ∈ p0, x.block < W.heap.size := by obtain ⟨m, hm⟩ := k0; exact DataW.trod_lt m _ _ _ hm
  obtain ⟨a0, len0, cap0, rfl⟩ := okWide_slice Try.underlying33 (hval 0 33 v0 rfl rfl)
  obtain ⟨l0, hl0, hc0, hr0, w0⟩ : ∃ l, l.length = len0 ∧ len0 ≤ cap0 ∧ Kd.C (P.k35) W a0 len0 l ∧ ∀ y ∈ l, True := by
    obtain ⟨fuel, hf⟩ := h0
    obtain ⟨A, c, l, hcs, hlc, hC, hw⟩ := P.open_rows (d := (P.k35)) Try.underlying33 (by kernel_rfl) P.opens_35 _ _ _ hf
    simp only [Value.cells, List.cons.injEq, Value.slice.injEq, and_true] at hcs
    obtain ⟨rfl, rfl, rfl⟩ := hcs
    exact ⟨l, rfl, hlc, hC, hw⟩
  subst hl0
  clear hA0 hval0 hsz0 hsz
  obtain ⟨k, h⟩ := Pure.LabelBack l0
  refine (P.drayagelaw03_LabelBack.calls k _ _ l0 true W hr0 hc0 h).mono fun e W' ⟨he, bel0⟩ => ?_
  have bel : Below W.heap.size W W' := by first | exact bel0 | exact bel0.below
  subst he
  exact ⟨_, rfl, _, _, _, [], _, [], hW', trodAll_mk1 (shut_bool Try.underlying4 _), (trodAll_cons_mk (Below.trod laidOut (by kernel_rfl) (of_decide_eq_true (by kernel_rfl)) k0 bel lt0) trodAll_mk0), rfl, bel.frame _, fun h => by cases h⟩
theorem over : Rows.labelBackRow.holds Try.pinned (OpenSpec.ofChange Rows.labelBackSpec) :=
  OpenClaim.holds_of_wide 5 Try.f5 rfl rfl rfl rfl rfl rfl rfl ⟨rfl, rfl, rfl, rfl, rfl⟩ rfl rfl rfl rfl rfl (by kernel_rfl) Try.func5 (by kernel_rfl)
    (of_decide_eq_true (by kernel_rfl)) (by unfold Func.isWrapper; first | (rw [if_pos (by decide +kernel)]; kernel_rfl) | (rw [if_neg (by decide +kernel)]; exact ⟨rfl, rfl⟩))
    (fun os started H enc _ => lifted os started H enc)
theorem proved : Rows.LabelBackSaid := over
#print axioms proved
end Go.Proofs.Ytfnfjkddlnnolaa.labelBack
namespace Go.Proofs.Ytfnfjkddlnnolaa
theorem labelBack_holds : Rows.LabelBackSaid := labelBack.proved
end Go.Proofs.Ytfnfjkddlnnolaa
