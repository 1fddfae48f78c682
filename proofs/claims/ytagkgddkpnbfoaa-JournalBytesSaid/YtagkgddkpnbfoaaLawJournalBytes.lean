import Derived.Test.YtagkgddkpnbfoaaRows
import Derived.Test.YtagkgddkpnbfoaaHjbytes
import Derived.Test.YtagkgddkpnbfoaaHopenr
import Derived.WalkKit
import Derived.ProofKit
import Derived.OpenShut
import Derived.ShutString
import Derived.ChangeOld
import Derived.Below
import Derived.SizedLaws
import Derived.Test.YtagkgddkpnbfoaaWRest
import Derived.Test.YtagkgddkpnbfoaaHopen
/- The row of JournalBytes: for every input the law returns true, out of its contract and its plain law. -/
namespace Go.Proofs.Ytagkgddkpnbfoaa.journalBytes
open Go.ChangeShapes Go.WideShapes Go.ChangeAt Go.RowKit
open Go.ChangeMaps (open_string shut_string)
open Go.Proofs.YtagkgddkpnbfoaaW.PrintWords
set_option linter.unusedVariables false
set_option linter.unusedSimpArgs false
theorem own : ownKnob Try.prog.godebug = none := by kernel_rfl
theorem laidOut : laidOutB Try.prog = true := by kernel_rfl
set_option maxRecDepth 100000 in
theorem lifted (os : Os) (started : os.Started) (H : Type) (enc : TypeId × Value → H) :
    ReturnsInHanded {} Try.checked os 3 .any (Rows.journalBytesSpec.pre6 enc Try.prog Try.f3 Rows.journalBytesRow.domain false) (Rows.journalBytesSpec.post enc Try.prog Try.f3 false true false false) := by
  refine returnsInHanded_of_change_sized (C := Try.checked) own started (by kernel_rfl) Try.func3
    (ChangeSpec.witness6 (enc := enc) (C := Try.checked) false ⟨#[], #[.agg #[.int .i64 0, .int .i64 0, .int .i64 0, .slice none 0 0, .slice none 0 0], .slice none 0 0], []⟩ 8 (by kernel_rfl) (by kernel_rfl) (by kernel_rfl) (by kernel_rfl)) ?_
  intro W base args ds gs before hval0 hW hcnd hsz0 _
  have hsz : (DataW.weightsEach Try.prog (Try.f3.params.toList ++ Rows.journalBytesSpec.plain.varTypes Try.prog) (ds ++ gs)).all (· ≤ reachBytes) = true := hsz0
  have hval : ∀ (j : Nat) t v, Try.f3.params[j]? = some t → args[j]? = some v → Value.okWide Try.prog W .any base t v := hval0
  have hW' := hW
  obtain ⟨p, q, hA0, hV, rfl, hfz, hnd⟩ := hW
  have hA : DataW.TrodAll enc Try.prog W 0 (fun _ => true) true Try.f3.params.toList args.toList ds p := hA0
  rw [Try.params3] at hA hval hsz
  obtain ⟨v0, vs0, d0, ds0, p0, q0, hargs, rfl, rfl, h0, r0⟩ := trodAll_cons hA
  obtain ⟨v1, vs1, d1, ds1, p1, q1, rfl, rfl, rfl, h1, r1⟩ := trodAll_cons r0
  obtain ⟨rfl, rfl, rfl⟩ := trodAll_nil r1
  obtain rfl : args = #[v0, v1] := by cases args; simp_all
  obtain ⟨rfl, rfl⟩ := trodVars_none hV
  have k0 := h0
  have lt0 : ∀ x ∈ p0, x.block < W.heap.size := by obtain ⟨m, hm⟩ := k0; exact DataW.trod_lt m _ _ _ hm
  obtain ⟨cs0, rfl, _⟩ := okWide_struct Try.underlying25 (hval 0 25 v0 rfl rfl)
  obtain ⟨x0, hx0⟩ : ∃ x : P.S25, (P.k25).K W x cs0.toList := by
    obtain ⟨fuel, hf⟩ := h0
    obtain ⟨v, hv, _⟩ := P.opens_25 _ _ _ hf
    exact ⟨v, by simpa [Value.cells] using hv⟩
  obtain ⟨A3, c3, A4, c4, hcs0, g3, r3, g4, r4⟩ := P.k25_open hx0
  obtain rfl : cs0 = #[.int .i64 x0.f0, .int .i64 x0.f1, .int .i64 x0.f2, .slice A3 x0.f3.length c3, .slice A4 x0.f4.length c4] := by cases cs0; simp_all
  have k1 := h1
  have lt1 : ∀ x ∈ p1, x.block < W.heap.size := by obtain ⟨m, hm⟩ := k1; exact DataW.trod_lt m _ _ _ hm
  obtain ⟨a1, len1, cap1, rfl⟩ := okWide_slice Try.underlying26 (hval 1 26 v1 rfl rfl)
  obtain ⟨l1, hl1, hc1, hr1, w1⟩ : ∃ l, l.length = len1 ∧ len1 ≤ cap1 ∧ Kd.C (Kd.int .u8) W a1 len1 l ∧ ∀ y ∈ l, (Lit.int .u8 y).wf = true := by
    obtain ⟨fuel, hf⟩ := h1
    obtain ⟨A, c, l, hcs, hlc, hC, hw⟩ := P.open_rows (d := (Kd.int .u8)) Try.underlying26 (by kernel_rfl) (P.opens_int Try.underlying5) _ _ _ hf
    simp only [Value.cells, List.cons.injEq, Value.slice.injEq, and_true] at hcs
    obtain ⟨rfl, rfl, rfl⟩ := hcs
    exact ⟨l, rfl, hlc, hC, hw⟩
  subst hl1
  clear hA0 hval0 hsz0 hsz
  refine (P.JournalBytes_calls x0.f0 x0.f1 x0.f2 A3 c3 x0.f3 A4 c4 x0.f4 a1 cap1 l1 W r3 g3 r4 g4 hr1 hc1 (fun y hy => bounds_u8 (w1 y hy))).mono fun e W' ⟨he, bel0⟩ => ?_
  have bel : Below W.heap.size W W' := by first | exact bel0 | exact bel0.below
  subst he
  exact ⟨_, rfl, _, _, _, [], _, [], hW', trodAll_mk1 (shut_bool Try.underlying4 _), (trodAll_cons_mk (Below.trod laidOut (by kernel_rfl) (of_decide_eq_true (by kernel_rfl)) k0 bel lt0) (trodAll_cons_mk (Below.trod laidOut (by kernel_rfl) (of_decide_eq_true (by kernel_rfl)) k1 bel lt1) trodAll_mk0)), rfl, bel.frame _, fun h => by cases h⟩
theorem over : Rows.journalBytesRow.holds Try.pinned (OpenSpec.ofChange Rows.journalBytesSpec) :=
  OpenClaim.holds_of_wide 3 Try.f3 rfl rfl rfl rfl rfl rfl rfl ⟨rfl, rfl, rfl, rfl, rfl⟩ rfl rfl rfl rfl rfl (by kernel_rfl) Try.func3 (by kernel_rfl)
    (of_decide_eq_true (by kernel_rfl)) (by unfold Func.isWrapper; first | (rw [if_pos (by decide +kernel)]; kernel_rfl) | (rw [if_neg (by decide +kernel)]; exact ⟨rfl, rfl⟩))
    (fun os started H enc _ => lifted os started H enc)
theorem proved : Rows.JournalBytesSaid := over
#print axioms proved
end Go.Proofs.Ytagkgddkpnbfoaa.journalBytes
namespace Go.Proofs.Ytagkgddkpnbfoaa
/-- The row, under a short name, for the claim. -/
theorem journalBytes_holds : Rows.JournalBytesSaid := journalBytes.proved
end Go.Proofs.Ytagkgddkpnbfoaa
