import Derived.Test.YtfnfjkddlnnolaaRows
import Derived.WalkKit
import Derived.ProofKit
import Derived.OpenShut
import Derived.ShutString
import Derived.ChangeOld
import Derived.Below
import Derived.SizedLaws
import Derived.Test.YtfnfjkddlnnolaaWRest
import Derived.Test.YtfnfjkddlnnolaaPf4w
import Derived.Test.YtfnfjkddlnnolaaP0
import Derived.ChangeSlices
import Derived.ChangeArms
import Derived.ChangeMaps5
namespace Go.Proofs.Ytfnfjkddlnnolaa.P
set_option linter.unusedVariables false
set_option linter.unusedSimpArgs false
open Go.RowKit Go.Proofs.YtfnfjkddlnnolaaW.PrintWords Go.Proofs.YtfnfjkddlnnolaaW.PrintLast Go.Proofs.YtfnfjkddlnnolaaW.PrintMore Go.ChangeShapes Go.WideShapes

section
variable {H : Type} {enc : TypeId × Value → H} {P : Program} {w : World} {base : Nat} {spare : Nat → Bool} {held : Bool}
def Opens {α : Type} (enc : TypeId × Value → H) (P : Program) (w : World) (base : Nat) (spare : Nat → Bool) (held : Bool) (t : TypeId) (d : Kd α) (C : α → Prop) : Prop :=
 ∀ (fuel : Nat) (cs : List Value) (x : DataW H × List MemPlace), DataW.trod enc P w base spare held fuel t cs = some x → ∃ v : α, d.K w v cs ∧ C v
theorem open_rows {α : Type} [Inhabited α] {t e : TypeId} {d : Kd α} {C : α → Prop} (ht : P.underlying t = some (.slice e)) (hc : P.cellsOf e = d.sz) (he : Opens enc P w base spare held e d C)
  (fuel : Nat) (cs : List Value) (x : DataW H × List MemPlace) (h : DataW.trod enc P w base spare held fuel t cs = some x) :
  ∃ (A : Option Addr) (c : Nat) (l : List α), cs = [.slice A l.length c] ∧ l.length ≤ c ∧ d.C w A l.length l ∧ ∀ y ∈ l, C y := by
 rcases DataW.trod_slice ht h with ⟨rfl, _⟩ | ⟨a, len, cap, elems, rest, n, _, rfl, _, hb, hl, hm, hlen, hel, _, _⟩
 ·exact ⟨none, 0, [], rfl, Nat.le_refl _, Kd.C_nil d w, fun y hy => by cases hy⟩
 have each : ∀ i, i < len → ∃ v : α, ∃ cs', cs'.length = d.sz ∧ d.K w v cs' ∧ C v ∧ ∀ j u, cs'[j]? = some u → w.cell? (a.add (i * d.sz + j)) = some u := fun i hi => by
  have h1 := hel i hi
  rw [List.getElem?_eq_getElem (by omega), Option.bind_eq_some_iff] at h1
  obtain ⟨cs', hcs, hy⟩ := h1
  obtain ⟨v, hv, hC⟩ := he n cs' _ hy
  obtain ⟨_, hcl, hcell⟩ := World.cells?_some hcs
  refine ⟨v, cs', d.K_len hv, hv, hC, fun j u hu => ?_⟩
  have hj : j < cs'.length := (List.getElem?_eq_some_iff.1 hu).1
  have := hcell j (Nat.lt_of_lt_of_le hj (Nat.le_of_eq hcl))
  rw [hu, hc] at this
  rw [← this, Addr.add_add]
 have hall : ∃ l : List α, l.length = len ∧ ∀ i (hi : i < l.length), ∃ cs', cs'.length = d.sz ∧ d.K w l[i] cs' ∧ C l[i] ∧ ∀ j u, cs'[j]? = some u → w.cell? (a.add (i * d.sz + j)) = some u := by
  clear hel hlen
  have : ∀ m, m ≤ len → ∃ l : List α, l.length = m ∧ ∀ i (hi : i < l.length), ∃ cs', cs'.length = d.sz ∧ d.K w l[i] cs' ∧ C l[i] ∧ ∀ j u, cs'[j]? = some u → w.cell? (a.add (i * d.sz + j)) = some u := by
   intro m
   induction m with
   | zero => intro _; exact ⟨[], rfl, fun i hi => by simp at hi⟩
   | succ m ih =>
    intro hm
    obtain ⟨l, h1, h2⟩ := ih (by omega)
    obtain ⟨v, cs', k1, k2, k3, k4⟩ := each m (by omega)
    refine ⟨l ++ [v], by simp [h1], fun i hi => ?_⟩
    by_cases hlt : i < l.length
    ·obtain ⟨q, g1, g2, g3, g4⟩ := h2 i hlt
     refine ⟨q, g1, ?_, ?_, g4⟩
     ·rw [List.getElem_append_left hlt]; exact g2
     ·rw [List.getElem_append_left hlt]; exact g3
    ·have hi2 : i = m := by simp at hi; omega
     subst hi2
     have e : (l ++ [v])[i]'hi = v := by rw [List.getElem_append_right (by omega)]; simp [h1]
     refine ⟨cs', k1, ?_, ?_, k4⟩
     ·rw [e]; exact k2
     ·rw [e]; exact k3
  exact this len (Nat.le_refl _)
 obtain ⟨l, h1, h2⟩ := hall
 refine ⟨some a, cap, l, by rw [h1], by omega, ⟨rfl, by unfold maxLen at hm; omega, fun _ => ⟨a, rfl, fun j p hp => ?_⟩⟩, fun y hy => ?_⟩
 ·obtain ⟨hj, rfl⟩ := List.getElem?_eq_some_iff.1 hp
  obtain ⟨cs', k1, k2, _, k4⟩ := h2 j hj
  exact ⟨cs', k1, k2, k4⟩
 ·obtain ⟨i, hi, rfl⟩ := List.mem_iff_getElem.1 hy
  obtain ⟨_, _, _, k3, _⟩ := h2 i hi
  exact k3
theorem struct_field {t : TypeId} {fs : Array Field} {fuel : Nat} {cs : List Value} {x : DataW H × List MemPlace} (ht : P.underlying t = some (.struct fs)) (h : DataW.trod enc P w base spare held fuel t cs = some x) :
  cs.length = P.cellsOf t ∧ ∀ (i : Nat) (T : TypeId) (off c : Nat), fs[i]?.map (fun f => (f.type, f.offset)) = some (T, off) → P.cellsOf T = c → ∃ n y, DataW.trod enc P w base spare held n T ((cs.drop off).take c) = some y := by
 obtain ⟨xs, n, _, _, hl, hx, hf⟩ := DataW.trod_struct ht h
 refine ⟨hl, fun i T off c hi hc => ?_⟩
 subst hc
 obtain ⟨f, h1, h2⟩ := Option.map_eq_some_iff.1 hi
 obtain ⟨rfl, rfl⟩ := Prod.mk.inj h2
 have := hf i f h1
 have hlt : i < fs.size := (Array.getElem?_eq_some_iff.1 h1).1
 rw [List.getElem?_eq_getElem (by omega)] at this
 exact ⟨n, _, this⟩
end
end Go.Proofs.Ytfnfjkddlnnolaa.P
namespace Go.Proofs.Ytfnfjkddlnnolaa.P
set_option linter.unusedVariables false
set_option linter.unusedSimpArgs false
open Go.RowKit Go.Proofs.YtfnfjkddlnnolaaW.PrintWords Go.Proofs.YtfnfjkddlnnolaaW.PrintLast Go.Proofs.YtfnfjkddlnnolaaW.PrintMore
instance : Inhabited S43 := ⟨z43⟩
instance : Inhabited S38 := ⟨z38⟩
instance : Inhabited S35 := ⟨z35⟩
section
variable {H : Type} {enc : TypeId × Value → H} {w : World} {base : Nat} {spare : Nat → Bool} {held : Bool}
theorem opens_35 : Opens enc Try.prog w base spare held 35 k35 (fun _ => True) := fun fuel cs x h => by
 obtain ⟨hl, hf⟩ := struct_field Try.underlying35 h
 rw [show Try.prog.cellsOf 35 = 3 by kernel_rfl] at hl
 obtain ⟨c0, c1, c2, rfl⟩ : ∃ c0 c1 c2, cs = [c0, c1, c2] := by
  match cs, hl with
  | [a, b, c], _ => exact ⟨a, b, c, rfl⟩
 obtain ⟨_, _, h0⟩ := hf 0 3 0 1 rfl (by kernel_rfl)
 obtain ⟨_, _, h1⟩ := hf 1 3 1 1 rfl (by kernel_rfl)
 obtain ⟨_, _, h2⟩ := hf 2 3 2 1 rfl (by kernel_rfl)
 obtain ⟨n0, g0, _, _⟩ := DataW.trod_int Try.underlying3 h0
 obtain ⟨n1, g1, _, _⟩ := DataW.trod_int Try.underlying3 h1
 obtain ⟨n2, g2, _, _⟩ := DataW.trod_int Try.underlying3 h2
 replace g0 := List.head_eq_of_cons_eq g0
 replace g1 := List.head_eq_of_cons_eq g1
 replace g2 := List.head_eq_of_cons_eq g2
 subst g0 g1 g2
 exact ⟨⟨n0, n1, n2⟩, k35_mk w ⟨n0, n1, n2⟩, trivial⟩
end
end Go.Proofs.Ytfnfjkddlnnolaa.P
namespace Go.Proofs.Ytfnfjkddlnnolaa.P
open Go.RowKit Go.Proofs.YtfnfjkddlnnolaaW.PrintWords Go.Proofs.YtfnfjkddlnnolaaW.PrintLast Go.Proofs.YtfnfjkddlnnolaaW.PrintMore
theorem LabelOpposite_true (A0 : Option Addr) (c0 : Nat) (l0 : List S35) (x y : S35) (w : World) (hr0 : Kd.C k35 w A0 l0.length l0) (hc0 : l0.length ≤ c0) :
  Calls Try.prog 4 #[.slice A0 l0.length c0, .agg #[.int .i64 x.f0, .int .i64 x.f1, .int .i64 x.f2], .agg #[.int .i64 y.f0, .int .i64 y.f1, .int .i64 y.f2]] w fun e w' => e = .returned (.bool true) ∧ Below w.heap.size w w' := by
 obtain ⟨k, h⟩ := Pure.LabelOpposite l0 x.f0 x.f1 x.f2 y.f0 y.f1 y.f2
 exact drayagelaw03_LabelOpposite.calls k A0 c0 l0 _ _ _ _ _ _ true w hr0 hc0 h
end Go.Proofs.Ytfnfjkddlnnolaa.P
namespace Go.Proofs.Ytfnfjkddlnnolaa.labelOpposite
open Go.ChangeShapes Go.WideShapes Go.ChangeAt Go.RowKit
open Go.ChangeMaps (open_string shut_string)
open Go.Proofs.YtfnfjkddlnnolaaW.PrintWords
set_option linter.unusedVariables false
set_option linter.unusedSimpArgs false
theorem own : ownKnob Try.prog.godebug = none := by kernel_rfl
theorem laidOut : laidOutB Try.prog = true := by kernel_rfl
set_option maxRecDepth 100000 in
theorem lifted (os : Os) (started : os.Started) (H : Type) (enc : TypeId × Value → H) :
    ReturnsInHanded {} Try.checked os 4 .any (Rows.labelOppositeSpec.pre6 enc Try.prog Try.f4 Rows.labelOppositeRow.domain false) (Rows.labelOppositeSpec.post enc Try.prog Try.f4 false true false false) := by
  refine returnsInHanded_of_change_sized (C := Try.checked) own started (by kernel_rfl) Try.func4
    (ChangeSpec.witness6 (enc := enc) (C := Try.checked) false ⟨#[], #[.slice none 0 0, .agg #[.int .i64 0, .int .i64 0, .int .i64 0], .agg #[.int .i64 0, .int .i64 0, .int .i64 0]], []⟩ 8 (by kernel_rfl) (by kernel_rfl) (by kernel_rfl) (by kernel_rfl)) ?_
  intro W base args ds gs before hval0 hW hcnd hsz0 _
  have hsz : (DataW.weightsEach Try.prog (Try.f4.params.toList ++ Rows.labelOppositeSpec.plain.varTypes Try.prog) (ds ++ gs)).all (· ≤ reachBytes) = true := hsz0
  have hval : ∀ (j : Nat) t v, Try.f4.params[j]? = some t → args[j]? = some v → Value.okWide Try.prog W .any base t v := hval0
  have hW' := hW
  obtain ⟨p, q, hA0, hV, rfl, hfz, hnd⟩ := hW
  have hA : DataW.TrodAll enc Try.prog W 0 (fun _ => true) true Try.f4.params.toList args.toList ds p := hA0
  rw [Try.params4] at hA hval hsz
  obtain ⟨v0, vs0, d0, ds0, p0, q0, hargs, rfl, rfl, h0, r0⟩ := trodAll_cons hA
  obtain ⟨v1, vs1, d1, ds1, p1, q1, rfl, rfl, rfl, h1, r1⟩ := trodAll_cons r0
  obtain ⟨v2, vs2, d2, ds2, p2, q2, rfl, rfl, rfl, h2, r2⟩ := trodAll_cons r1
  obtain ⟨rfl, rfl, rfl⟩ := trodAll_nil r2
  obtain rfl : args = #[v0, v1, v2] := by cases args; simp_all
  obtain ⟨rfl, rfl⟩ := trodVars_none hV
  have k0 := h0
  have lt0 : ∀ x ∈ p0, x.block < W.heap.size := by obtain ⟨m, hm⟩ := k0; exact DataW.trod_lt m _ _ _ hm
  obtain ⟨a0, len0, cap0, rfl⟩ := okWide_slice Try.underlying33 (hval 0 33 v0 rfl rfl)
  obtain ⟨l0, hl0, hc0, hr0, w0⟩ : ∃ l, l.length = len0 ∧ len0 ≤ cap0 ∧ Kd.C (P.k35) W a0 len0 l ∧ ∀ y ∈ l, True := by
    obtain ⟨fuel, hf⟩ := h0
    obtain ⟨A, c, l, hcs, hlc, hC, hw⟩ := P.open_rows (d := (P.k35)) Try.underlying33 (by kernel_rfl) P.opens_35 _ _ _ hf
    simp only [Value.cells, List.cons.injEq, Value.slice.injEq, and_true] at hcs
    obtain ⟨rfl, rfl, rfl⟩ := hcs
    exact ⟨l, rfl, hlc, hC, hw⟩
  subst hl0
  have k1 := h1
  have lt1 : ∀ x ∈ p1, x.block < W.heap.size := by obtain ⟨m, hm⟩ := k1; exact DataW.trod_lt m _ _ _ hm
  obtain ⟨cs1, rfl, _⟩ := okWide_struct Try.underlying35 (hval 1 35 v1 rfl rfl)
  obtain ⟨x1, hx1⟩ : ∃ x : P.S35, (P.k35).K W x cs1.toList := by
    obtain ⟨fuel, hf⟩ := h1
    obtain ⟨v, hv, _⟩ := P.opens_35 _ _ _ hf
    exact ⟨v, by simpa [Value.cells] using hv⟩
  obtain hcs1 := P.k35_open hx1
  obtain rfl : cs1 = #[.int .i64 x1.f0, .int .i64 x1.f1, .int .i64 x1.f2] := by cases cs1; simp_all
  have k2 := h2
  have lt2 : ∀ x ∈ p2, x.block < W.heap.size := by obtain ⟨m, hm⟩ := k2; exact DataW.trod_lt m _ _ _ hm
  obtain ⟨cs2, rfl, _⟩ := okWide_struct Try.underlying35 (hval 2 35 v2 rfl rfl)
  obtain ⟨x2, hx2⟩ : ∃ x : P.S35, (P.k35).K W x cs2.toList := by
    obtain ⟨fuel, hf⟩ := h2
    obtain ⟨v, hv, _⟩ := P.opens_35 _ _ _ hf
    exact ⟨v, by simpa [Value.cells] using hv⟩
  obtain hcs2 := P.k35_open hx2
  obtain rfl : cs2 = #[.int .i64 x2.f0, .int .i64 x2.f1, .int .i64 x2.f2] := by cases cs2; simp_all
  clear hA0 hval0 hsz0 hsz
  refine (P.LabelOpposite_true a0 cap0 l0 x1 x2 W hr0 hc0).mono fun e W' ⟨he, bel0⟩ => ?_
  have bel : Below W.heap.size W W' := by first | exact bel0 | exact bel0.below
  subst he
  exact ⟨_, rfl, _, _, _, [], _, [], hW', trodAll_mk1 (shut_bool Try.underlying4 _), (trodAll_cons_mk (Below.trod laidOut (by kernel_rfl) (of_decide_eq_true (by kernel_rfl)) k0 bel lt0) (trodAll_cons_mk (Below.trod laidOut (by kernel_rfl) (of_decide_eq_true (by kernel_rfl)) k1 bel lt1) (trodAll_cons_mk (Below.trod laidOut (by kernel_rfl) (of_decide_eq_true (by kernel_rfl)) k2 bel lt2) trodAll_mk0))), rfl, bel.frame _, fun h => by cases h⟩
theorem over : Rows.labelOppositeRow.holds Try.pinned (OpenSpec.ofChange Rows.labelOppositeSpec) :=
  OpenClaim.holds_of_wide 4 Try.f4 rfl rfl rfl rfl rfl rfl rfl ⟨rfl, rfl, rfl, rfl, rfl⟩ rfl rfl rfl rfl rfl (by kernel_rfl) Try.func4 (by kernel_rfl)
    (of_decide_eq_true (by kernel_rfl)) (by unfold Func.isWrapper; first | (rw [if_pos (by decide +kernel)]; kernel_rfl) | (rw [if_neg (by decide +kernel)]; exact ⟨rfl, rfl⟩))
    (fun os started H enc _ => lifted os started H enc)
theorem proved : Rows.LabelOppositeSaid := over
#print axioms proved
end Go.Proofs.Ytfnfjkddlnnolaa.labelOpposite
namespace Go.Proofs.Ytfnfjkddlnnolaa
theorem labelOpposite_holds : Rows.LabelOppositeSaid := labelOpposite.proved
end Go.Proofs.Ytfnfjkddlnnolaa
