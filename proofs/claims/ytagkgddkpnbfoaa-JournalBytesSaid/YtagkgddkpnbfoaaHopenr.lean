import Derived.Test.YtagkgddkpnbfoaaHopen
import Derived.Test.YtagkgddkpnbfoaaP0
/- Records that come in. -/
namespace Go.Proofs.Ytagkgddkpnbfoaa.P
set_option linter.unusedVariables false
set_option linter.unusedSimpArgs false
open Go.RowKit Go.Proofs.YtagkgddkpnbfoaaW.PrintWords Go.Proofs.YtagkgddkpnbfoaaW.PrintLast Go.Proofs.YtagkgddkpnbfoaaW.PrintMore
instance : Inhabited S49 := ⟨z49⟩
instance : Inhabited S25 := ⟨z25⟩
section
variable {H : Type} {enc : TypeId × Value → H} {w : World} {base : Nat} {spare : Nat → Bool} {held : Bool}
theorem opens_49 : Opens enc Try.prog w base spare held 49 k49 (fun _ => True) := fun fuel cs x h => by
  obtain ⟨hl, hf⟩ := struct_field Try.underlying49 h
  rw [show Try.prog.cellsOf 49 = 3 by kernel_rfl] at hl
  obtain ⟨c0, c1, c2, rfl⟩ : ∃ c0 c1 c2, cs = [c0, c1, c2] := by
    match cs, hl with
    | [a, b, c], _ => exact ⟨a, b, c, rfl⟩
  obtain ⟨_, _, h0⟩ := hf 0 3 0 1 rfl (by kernel_rfl)
  obtain ⟨_, _, h1⟩ := hf 1 3 1 1 rfl (by kernel_rfl)
  obtain ⟨_, _, h2⟩ := hf 2 3 2 1 rfl (by kernel_rfl)
  obtain ⟨n0, g0, _, _⟩ := DataW.trod_int Try.underlying3 h0
  obtain ⟨n1, g1, _, _⟩ := DataW.trod_int Try.underlying3 h1
  obtain ⟨n2, g2, _, _⟩ := DataW.trod_int Try.underlying3 h2
  replace g0 := List.head_eq_of_cons_eq g0
  replace g1 := List.head_eq_of_cons_eq g1
  replace g2 := List.head_eq_of_cons_eq g2
  subst g0 g1 g2
  exact ⟨⟨n0, n1, n2⟩, k49_mk w ⟨n0, n1, n2⟩, trivial⟩
theorem opens_25 : Opens enc Try.prog w base spare held 25 k25 (fun _ => True) := fun fuel cs x h => by
  obtain ⟨hl, hf⟩ := struct_field Try.underlying25 h
  rw [show Try.prog.cellsOf 25 = 5 by kernel_rfl] at hl
  obtain ⟨c0, c1, c2, c3, c4, rfl⟩ : ∃ c0 c1 c2 c3 c4, cs = [c0, c1, c2, c3, c4] := by
    match cs, hl with
    | [a, b, c, d, e], _ => exact ⟨a, b, c, d, e, rfl⟩
  obtain ⟨_, _, h0⟩ := hf 0 3 0 1 rfl (by kernel_rfl)
  obtain ⟨_, _, h1⟩ := hf 1 3 1 1 rfl (by kernel_rfl)
  obtain ⟨_, _, h2⟩ := hf 2 3 2 1 rfl (by kernel_rfl)
  obtain ⟨_, _, h3⟩ := hf 3 22 3 1 rfl (by kernel_rfl)
  obtain ⟨_, _, h4⟩ := hf 4 23 4 1 rfl (by kernel_rfl)
  obtain ⟨n0, g0, _, _⟩ := DataW.trod_int Try.underlying3 h0
  obtain ⟨n1, g1, _, _⟩ := DataW.trod_int Try.underlying3 h1
  obtain ⟨n2, g2, _, _⟩ := DataW.trod_int Try.underlying3 h2
  obtain ⟨A3, k3, l3, g3, q3, r3, _⟩ := open_rows (d := Kd.int .i64) Try.underlying22 (by kernel_rfl) (opens_int Try.underlying3) _ _ _ h3
  obtain ⟨A4, k4, l4, g4, q4, r4, _⟩ := open_rows (d := k49) Try.underlying23 (by kernel_rfl) opens_49 _ _ _ h4
  replace g0 := List.head_eq_of_cons_eq g0
  replace g1 := List.head_eq_of_cons_eq g1
  replace g2 := List.head_eq_of_cons_eq g2
  replace g3 := List.head_eq_of_cons_eq g3
  replace g4 := List.head_eq_of_cons_eq g4
  subst g0 g1 g2 g3 g4
  exact ⟨⟨n0, n1, n2, l3, l4⟩, k25_mk w ⟨n0, n1, n2, l3, l4⟩ q3 r3 q4 r4, trivial⟩
end
end Go.Proofs.Ytagkgddkpnbfoaa.P
