import Derived.Test.YtfnfjkddlnnolaaP0
import Derived.Test.YtfnfjkddlnnolaaWRest
import Derived.ChangeSlices
import Derived.ChangeArms
import Derived.ChangeMaps5
import Derived.OpenShut
namespace Go.Proofs.Ytfnfjkddlnnolaa.P
set_option linter.unusedVariables false
set_option linter.unusedSimpArgs false
open Go.RowKit Go.Proofs.YtfnfjkddlnnolaaW.PrintWords Go.Proofs.YtfnfjkddlnnolaaW.PrintLast Go.Proofs.YtfnfjkddlnnolaaW.PrintMore Go.ChangeShapes Go.WideShapes

section
variable {H : Type} {enc : TypeId × Value → H} {P : Program} {w : World} {base : Nat} {spare : Nat → Bool} {held : Bool}
def Opens {α : Type} (enc : TypeId × Value → H) (P : Program) (w : World) (base : Nat) (spare : Nat → Bool) (held : Bool) (t : TypeId) (d : Kd α) (C : α → Prop) : Prop :=
 ∀ (fuel : Nat) (cs : List Value) (x : DataW H × List MemPlace), DataW.trod enc P w base spare held fuel t cs = some x → ∃ v : α, d.K w v cs ∧ C v
theorem open_rows {α : Type} [Inhabited α] {t e : TypeId} {d : Kd α} {C : α → Prop} (ht : P.underlying t = some (.slice e)) (hc : P.cellsOf e = d.sz) (he : Opens enc P w base spare held e d C)
  (fuel : Nat) (cs : List Value) (x : DataW H × List MemPlace) (h : DataW.trod enc P w base spare held fuel t cs = some x) :
  ∃ (A : Option Addr) (c : Nat) (l : List α), cs = [.slice A l.length c] ∧ l.length ≤ c ∧ d.C w A l.length l ∧ ∀ y ∈ l, C y := by
 rcases DataW.trod_slice ht h with ⟨rfl, _⟩ | ⟨a, len, cap, elems, rest, n, _, rfl, _, hb, hl, hm, hlen, hel, _, _⟩
 ·exact ⟨none, 0, [], rfl, Nat.le_refl _, Kd.C_nil d w, fun y hy => by cases hy⟩
 have each : ∀ i, i < len → ∃ v : α, ∃ cs', cs'.length = d.sz ∧ d.K w v cs' ∧ C v ∧ ∀ j u, cs'[j]? = some u → w.cell? (a.add (i * d.sz + j)) = some u := fun i hi => by
  have h1 := hel i hi
  rw [List.getElem?_eq_getElem (by omega), Option.bind_eq_some_iff] at h1
  obtain ⟨cs', hcs, hy⟩ := h1
  obtain ⟨v, hv, hC⟩ := he n cs' _ hy
  obtain ⟨_, hcl, hcell⟩ := World.cells?_some hcs
  refine ⟨v, cs', d.K_len hv, hv, hC, fun j u hu => ?_⟩
  have hj : j < cs'.length := (List.getElem?_eq_some_iff.1 hu).1
  have := hcell j (Nat.lt_of_lt_of_le hj (Nat.le_of_eq hcl))
  rw [hu, hc] at this
  rw [← this, Addr.add_add]
 have hall : ∃ l : List α, l.length = len ∧ ∀ i (hi : i < l.length), ∃ cs', cs'.length = d.sz ∧ d.K w l[i] cs' ∧ C l[i] ∧ ∀ j u, cs'[j]? = some u → w.cell? (a.add (i * d.sz + j)) = some u := by
  clear hel hlen
  have : ∀ m, m ≤ len → ∃ l : List α, l.length = m ∧ ∀ i (hi : i < l.length), ∃ cs', cs'.length = d.sz ∧ d.K w l[i] cs' ∧ C l[i] ∧ ∀ j u, cs'[j]? = some u → w.cell? (a.add (i * d.sz + j)) = some u := by
   intro m
   induction m with
   | zero => intro _; exact ⟨[], rfl, fun i hi => by simp at hi⟩
   | succ m ih =>
    intro hm
    obtain ⟨l, h1, h2⟩ := ih (by omega)
    obtain ⟨v, cs', k1, k2, k3, k4⟩ := each m (by omega)
    refine ⟨l ++ [v], by simp [h1], fun i hi => ?_⟩
    by_cases hlt : i < l.length
    ·obtain ⟨q, g1, g2, g3, g4⟩ := h2 i hlt
     refine ⟨q, g1, ?_, ?_, g4⟩
     ·rw [List.getElem_append_left hlt]; exact g2
     ·rw [List.getElem_append_left hlt]; exact g3
    ·have hi2 : i = m := by simp at hi; omega
     subst hi2
     have e : (l ++ [v])[i]'hi = v := by rw [List.getElem_append_right (by omega)]; simp [h1]
     refine ⟨cs', k1, ?_, ?_, k4⟩
     ·rw [e]; exact k2
     ·rw [e]; exact k3
  exact this len (Nat.le_refl _)
 obtain ⟨l, h1, h2⟩ := hall
 refine ⟨some a, cap, l, by rw [h1], by omega, ⟨rfl, by unfold maxLen at hm; omega, fun _ => ⟨a, rfl, fun j p hp => ?_⟩⟩, fun y hy => ?_⟩
 ·obtain ⟨hj, rfl⟩ := List.getElem?_eq_some_iff.1 hp
  obtain ⟨cs', k1, k2, _, k4⟩ := h2 j hj
  exact ⟨cs', k1, k2, k4⟩
 ·obtain ⟨i, hi, rfl⟩ := List.mem_iff_getElem.1 hy
  obtain ⟨_, _, _, k3, _⟩ := h2 i hi
  exact k3
theorem struct_field {t : TypeId} {fs : Array Field} {fuel : Nat} {cs : List Value} {x : DataW H × List MemPlace} (ht : P.underlying t = some (.struct fs)) (h : DataW.trod enc P w base spare held fuel t cs = some x) :
  cs.length = P.cellsOf t ∧ ∀ (i : Nat) (T : TypeId) (off c : Nat), fs[i]?.map (fun f => (f.type, f.offset)) = some (T, off) → P.cellsOf T = c → ∃ n y, DataW.trod enc P w base spare held n T ((cs.drop off).take c) = some y := by
 obtain ⟨xs, n, _, _, hl, hx, hf⟩ := DataW.trod_struct ht h
 refine ⟨hl, fun i T off c hi hc => ?_⟩
 subst hc
 obtain ⟨f, h1, h2⟩ := Option.map_eq_some_iff.1 hi
 obtain ⟨rfl, rfl⟩ := Prod.mk.inj h2
 have := hf i f h1
 have hlt : i < fs.size := (Array.getElem?_eq_some_iff.1 h1).1
 rw [List.getElem?_eq_getElem (by omega)] at this
 exact ⟨n, _, this⟩
end
end Go.Proofs.Ytfnfjkddlnnolaa.P
namespace Go.Proofs.Ytfnfjkddlnnolaa.P
set_option linter.unusedVariables false
set_option linter.unusedSimpArgs false
open Go.RowKit Go.Proofs.YtfnfjkddlnnolaaW.PrintWords Go.Proofs.YtfnfjkddlnnolaaW.PrintLast Go.Proofs.YtfnfjkddlnnolaaW.PrintMore
instance : Inhabited S43 := ⟨z43⟩
instance : Inhabited S38 := ⟨z38⟩
section
variable {H : Type} {enc : TypeId × Value → H} {w : World} {base : Nat} {spare : Nat → Bool} {held : Bool}
theorem opens_43 : Opens enc Try.prog w base spare held 43 k43 (fun _ => True) := fun fuel cs x h => by
 obtain ⟨hl, hf⟩ := struct_field Try.underlying43 h
 rw [show Try.prog.cellsOf 43 = 2 by kernel_rfl] at hl
 obtain ⟨c0, c1, rfl⟩ : ∃ c0 c1, cs = [c0, c1] := by
  match cs, hl with
  | [a, b], _ => exact ⟨a, b, rfl⟩
 obtain ⟨_, _, h0⟩ := hf 0 9 0 1 rfl (by kernel_rfl)
 obtain ⟨_, _, h1⟩ := hf 1 9 1 1 rfl (by kernel_rfl)
 obtain ⟨n0, g0, _, _⟩ := DataW.trod_string Try.underlying9 h0
 obtain ⟨n1, g1, _, _⟩ := DataW.trod_string Try.underlying9 h1
 replace g0 := List.head_eq_of_cons_eq g0
 replace g1 := List.head_eq_of_cons_eq g1
 subst g0 g1
 exact ⟨⟨n0, n1⟩, k43_mk w ⟨n0, n1⟩, trivial⟩
theorem opens_38 : Opens enc Try.prog w base spare held 38 k38 (fun _ => True) := fun fuel cs x h => by
 obtain ⟨hl, hf⟩ := struct_field Try.underlying38 h
 rw [show Try.prog.cellsOf 38 = 3 by kernel_rfl] at hl
 obtain ⟨c0, c1, c2, rfl⟩ : ∃ c0 c1 c2, cs = [c0, c1, c2] := by
  match cs, hl with
  | [a, b, c], _ => exact ⟨a, b, c, rfl⟩
 obtain ⟨_, _, h0⟩ := hf 0 3 0 1 rfl (by kernel_rfl)
 obtain ⟨_, _, h1⟩ := hf 1 9 1 1 rfl (by kernel_rfl)
 obtain ⟨_, _, h2⟩ := hf 2 9 2 1 rfl (by kernel_rfl)
 obtain ⟨n0, g0, _, _⟩ := DataW.trod_int Try.underlying3 h0
 obtain ⟨n1, g1, _, _⟩ := DataW.trod_string Try.underlying9 h1
 obtain ⟨n2, g2, _, _⟩ := DataW.trod_string Try.underlying9 h2
 replace g0 := List.head_eq_of_cons_eq g0
 replace g1 := List.head_eq_of_cons_eq g1
 replace g2 := List.head_eq_of_cons_eq g2
 subst g0 g1 g2
 exact ⟨⟨n0, n1, n2⟩, k38_mk w ⟨n0, n1, n2⟩, trivial⟩
end
end Go.Proofs.Ytfnfjkddlnnolaa.P
