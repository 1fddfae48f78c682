import Derived.Test.YtagkgddkpnbfoaaWRest
import Derived.ChangeSlices
import Derived.ChangeArms
import Derived.ChangeMaps5
import Derived.OpenShut
/- Arguments opened by their kinds: what can be read as data is a row of elements. -/
namespace Go.Proofs.Ytagkgddkpnbfoaa.P
set_option linter.unusedVariables false
set_option linter.unusedSimpArgs false
open Go.RowKit Go.Proofs.YtagkgddkpnbfoaaW.PrintWords Go.Proofs.YtagkgddkpnbfoaaW.PrintLast Go.Proofs.YtagkgddkpnbfoaaW.PrintMore Go.ChangeShapes Go.WideShapes

section
variable {H : Type} {enc : TypeId × Value → H} {P : Program} {w : World} {base : Nat} {spare : Nat → Bool} {held : Bool}
/-- what of a type can be read is of a kind, and such -/
def Opens {α : Type} (enc : TypeId × Value → H) (P : Program) (w : World) (base : Nat) (spare : Nat → Bool) (held : Bool) (t : TypeId) (d : Kd α) (C : α → Prop) : Prop :=
  ∀ (fuel : Nat) (cs : List Value) (x : DataW H × List MemPlace), DataW.trod enc P w base spare held fuel t cs = some x → ∃ v : α, d.K w v cs ∧ C v
theorem opens_int {t : TypeId} {k : IntKind} (ht : P.underlying t = some (.int k)) : Opens enc P w base spare held t (Kd.int k) (fun n => (Lit.int k n).wf = true) := fun fuel cs x h => by
  obtain ⟨n, rfl, _, hw⟩ := DataW.trod_int ht h
  exact ⟨n, rfl, hw⟩
theorem opens_string {t : TypeId} (ht : P.underlying t = some .string) : Opens enc P w base spare held t Kd.string (fun s => s.size ≤ maxLen) := fun fuel cs x h => by
  obtain ⟨s, rfl, _, hw⟩ := DataW.trod_string ht h
  exact ⟨s, rfl, hw⟩
/-- a slice -/
theorem open_rows {α : Type} [Inhabited α] {t e : TypeId} {d : Kd α} {C : α → Prop} (ht : P.underlying t = some (.slice e)) (hc : P.cellsOf e = d.sz) (he : Opens enc P w base spare held e d C)
    (fuel : Nat) (cs : List Value) (x : DataW H × List MemPlace) (h : DataW.trod enc P w base spare held fuel t cs = some x) :
    ∃ (A : Option Addr) (c : Nat) (l : List α), cs = [.slice A l.length c] ∧ l.length ≤ c ∧ d.C w A l.length l ∧ ∀ y ∈ l, C y := by
  rcases DataW.trod_slice ht h with ⟨rfl, _⟩ | ⟨a, len, cap, elems, rest, n, _, rfl, _, hb, hl, hm, hlen, hel, _, _⟩
  · exact ⟨none, 0, [], rfl, Nat.le_refl _, Kd.C_nil d w, fun y hy => by cases hy⟩
  have each : ∀ i, i < len → ∃ v : α, ∃ cs', cs'.length = d.sz ∧ d.K w v cs' ∧ C v ∧ ∀ j u, cs'[j]? = some u → w.cell? (a.add (i * d.sz + j)) = some u := fun i hi => by
    have h1 := hel i hi
    rw [List.getElem?_eq_getElem (by omega), Option.bind_eq_some_iff] at h1
    obtain ⟨cs', hcs, hy⟩ := h1
    obtain ⟨v, hv, hC⟩ := he n cs' _ hy
    obtain ⟨_, hcl, hcell⟩ := World.cells?_some hcs
    refine ⟨v, cs', d.K_len hv, hv, hC, fun j u hu => ?_⟩
    have hj : j < cs'.length := (List.getElem?_eq_some_iff.1 hu).1
    have := hcell j (Nat.lt_of_lt_of_le hj (Nat.le_of_eq hcl))
    rw [hu, hc] at this
    rw [← this, Addr.add_add]
  have hall : ∃ l : List α, l.length = len ∧ ∀ i (hi : i < l.length), ∃ cs', cs'.length = d.sz ∧ d.K w l[i] cs' ∧ C l[i] ∧ ∀ j u, cs'[j]? = some u → w.cell? (a.add (i * d.sz + j)) = some u := by
    clear hel hlen
    have : ∀ m, m ≤ len → ∃ l : List α, l.length = m ∧ ∀ i (hi : i < l.length), ∃ cs', cs'.length = d.sz ∧ d.K w l[i] cs' ∧ C l[i] ∧ ∀ j u, cs'[j]? = some u → w.cell? (a.add (i * d.sz + j)) = some u := by
      intro m
      induction m with
      | zero => intro _; exact ⟨[], rfl, fun i hi => by simp at hi⟩
      | succ m ih =>
        intro hm
        obtain ⟨l, h1, h2⟩ := ih (by omega)
        obtain ⟨v, cs', k1, k2, k3, k4⟩ := each m (by omega)
        refine ⟨l ++ [v], by simp [h1], fun i hi => ?_⟩
        by_cases hlt : i < l.length
        · obtain ⟨q, g1, g2, g3, g4⟩ := h2 i hlt
          refine ⟨q, g1, ?_, ?_, g4⟩
          · rw [List.getElem_append_left hlt]; exact g2
          · rw [List.getElem_append_left hlt]; exact g3
        · have hi2 : i = m := by simp at hi; omega
          subst hi2
          have e : (l ++ [v])[i]'hi = v := by rw [List.getElem_append_right (by omega)]; simp [h1]
          refine ⟨cs', k1, ?_, ?_, k4⟩
          · rw [e]; exact k2
          · rw [e]; exact k3
    exact this len (Nat.le_refl _)
  obtain ⟨l, h1, h2⟩ := hall
  refine ⟨some a, cap, l, by rw [h1], by omega, ⟨rfl, by unfold maxLen at hm; omega, fun _ => ⟨a, rfl, fun j p hp => ?_⟩⟩, fun y hy => ?_⟩
  · obtain ⟨hj, rfl⟩ := List.getElem?_eq_some_iff.1 hp
    obtain ⟨cs', k1, k2, _, k4⟩ := h2 j hj
    exact ⟨cs', k1, k2, k4⟩
  · obtain ⟨i, hi, rfl⟩ := List.mem_iff_getElem.1 hy
    obtain ⟨_, _, _, k3, _⟩ := h2 i hi
    exact k3
theorem opens_slice {α : Type} [Inhabited α] {t e : TypeId} {d : Kd α} {C : α → Prop} (ht : P.underlying t = some (.slice e)) (hc : P.cellsOf e = d.sz) (he : Opens enc P w base spare held e d C) (q : Nat) :
    Opens enc P w base spare held t (Kd.slice q d) (fun l => ∀ y ∈ l, C y) := fun fuel cs x h => by
  obtain ⟨A, c, l, rfl, h1, h2, h3⟩ := open_rows ht hc he fuel cs x h
  exact ⟨l, ⟨A, c, rfl, h1, h2⟩, h3⟩
/-- a struct's fields, one by one: what stands there can be read -/
theorem struct_field {t : TypeId} {fs : Array Field} {fuel : Nat} {cs : List Value} {x : DataW H × List MemPlace} (ht : P.underlying t = some (.struct fs)) (h : DataW.trod enc P w base spare held fuel t cs = some x) :
    cs.length = P.cellsOf t ∧ ∀ (i : Nat) (T : TypeId) (off c : Nat), fs[i]?.map (fun f => (f.type, f.offset)) = some (T, off) → P.cellsOf T = c → ∃ n y, DataW.trod enc P w base spare held n T ((cs.drop off).take c) = some y := by
  obtain ⟨xs, n, _, _, hl, hx, hf⟩ := DataW.trod_struct ht h
  refine ⟨hl, fun i T off c hi hc => ?_⟩
  subst hc
  obtain ⟨f, h1, h2⟩ := Option.map_eq_some_iff.1 hi
  obtain ⟨rfl, rfl⟩ := Prod.mk.inj h2
  have := hf i f h1
  have hlt : i < fs.size := (Array.getElem?_eq_some_iff.1 h1).1
  rw [List.getElem?_eq_getElem (by omega)] at this
  exact ⟨n, _, this⟩
end
end Go.Proofs.Ytagkgddkpnbfoaa.P
