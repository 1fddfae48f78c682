import Derived.Test.YtfnfjkddlnnolaaRows
import Derived.Test.YtfnfjkddlnnolaaPf6
import Derived.Test.YtfnfjkddlnnolaaHopenr
import Derived.WalkKit
import Derived.ProofKit
import Derived.OpenShut
import Derived.ShutString
import Derived.ChangeOld
import Derived.Below
import Derived.SizedLaws
import Derived.Test.YtfnfjkddlnnolaaWRest
import Derived.Test.YtfnfjkddlnnolaaHspec7
namespace Go.Proofs.Ytfnfjkddlnnolaa.Pure
open Go.RowKit Go.Proofs.Ytfnfjkddlnnolaa.P Go.Proofs.YtfnfjkddlnnolaaW.PrintWords Go.Proofs.YtfnfjkddlnnolaaW.PrintLast

theorem works_99 : drayagelaw03_works.f 99 = some true := by kernel_rfl
theorem prints_terms (l : List S38) (hl : l.length ≤ 12) : drayagelaw03_LabelPrints.j0 100 l false = some true := by
 rw [drayagelaw03_LabelPrints.j0, if_neg (by decide)]
 obtain ⟨c, hc1, hc2⟩ := checkT_total l hl l.length 99 0 (Nat.zero_add _) (by omega)
 have hc : label_CheckTerms.f 99 l = some c := hc1
 rw [hc, Option.bind_some]
 by_cases h0 : c = 0
 ·rw [if_pos h0]
  obtain ⟨h6, hall⟩ := hc2 h0
  have hs : ∀ x ∈ l, smallT x := by
   intro x hx
   obtain ⟨i, hi, rfl⟩ := List.getElem_of_mem hx
   exact hall i hi (Nat.zero_le _)
  obtain ⟨r, hr1, hr2⟩ := ref_printT l hs hl 99 (by omega)
  have hp : label_PrintTerms.f l = _ := joinT_small hs hl
  rw [hp, hr1, Option.bind_some, Option.bind_some, if_pos (by rw [ByteArray.toList_eq, ByteArray.toList_eq, hr2]), works_99]
  rfl
 ·rw [if_neg h0, works_99]
  rfl
theorem LabelPrints (l0 : List S43) (l1 : List S38) : ∃ k, drayagelaw03_LabelPrints.f k l0 l1 = some true := by
 refine ⟨100, ?_⟩
 unfold drayagelaw03_LabelPrints.f
 have m0 : 0 ≤ mn (l0.length : Int) 12 := by unfold mn; omega
 have m1 : mn (l0.length : Int) 12 ≤ (l0.length : Int) := by unfold mn; omega
 have m2 : mn (l0.length : Int) 12 ≤ 12 := by unfold mn; omega
 have n0 : 0 ≤ mn (l1.length : Int) 12 := by unfold mn; omega
 have n1 : mn (l1.length : Int) 12 ≤ (l1.length : Int) := by unfold mn; omega
 have n2 : mn (l1.length : Int) 12 ≤ 12 := by unfold mn; omega
 rw [if_pos m0, if_pos m1, Option.bind_some, if_pos n0, if_pos n1, Option.bind_some]
 have hl0 : (l0.take (mn (l0.length : Int) 12).toNat).length ≤ 12 := by rw [List.length_take]; omega
 have hl1 : (l1.take (mn (l1.length : Int) 12).toNat).length ≤ 12 := by rw [List.length_take]; omega
 generalize l0.take (mn (l0.length : Int) 12).toNat = a at hl0
 generalize l1.take (mn (l1.length : Int) 12).toNat = b at hl1
 obtain ⟨c, hc, _, hc2⟩ := checkB_total a
 rw [hc, Option.bind_some]
 by_cases h0 : c = 0
 ·rw [if_pos h0]
  obtain ⟨_, hs⟩ := hc2 h0
  obtain ⟨r, hr1, hr2⟩ := ref_print a hs hl0 100 (by omega)
  have hp : label_Print.f a = _ := joinL_small hs hl0
  rw [hp, hr1, Option.bind_some, Option.bind_some]
  have e : ((⟨(Lib.join ((a.map textL).map (·.data.toList)) [44]).toArray⟩ : ByteArray).toList != r.toList) = false := by
   rw [bne_eq_false_iff_eq, ByteArray.toList_eq, ByteArray.toList_eq, hr2]
  rw [e]
  exact prints_terms b hl1
 ·rw [if_neg h0]
  exact prints_terms b hl1
end Go.Proofs.Ytfnfjkddlnnolaa.Pure
namespace Go.Proofs.Ytfnfjkddlnnolaa.labelPrints
open Go.ChangeShapes Go.WideShapes Go.ChangeAt Go.RowKit
open Go.ChangeMaps (open_string shut_string)
open Go.Proofs.YtfnfjkddlnnolaaW.PrintWords
set_option linter.unusedVariables false
set_option linter.unusedSimpArgs false
theorem own : ownKnob Try.prog.godebug = none := by kernel_rfl
theorem laidOut : laidOutB Try.prog = true := by kernel_rfl
set_option maxRecDepth 100000 in
theorem lifted (os : Os) (started : os.Started) (H : Type) (enc : TypeId × Value → H) :
    ReturnsInHanded {} Try.checked os 6 .any (Rows.labelPrintsSpec.pre6 enc Try.prog Try.f6 Rows.labelPrintsRow.domain false) (Rows.labelPrintsSpec.post enc Try.prog Try.f6 false true false false) := by
  refine returnsInHanded_of_change_sized (C := Try.checked) own started (by kernel_rfl) Try.func6
    (ChangeSpec.witness6 (enc := enc) (C := Try.checked) false ⟨#[], #[.slice none 0 0, .slice none 0 0], []⟩ 8 (by kernel_rfl) (by kernel_rfl) (by kernel_rfl) (by kernel_rfl)) ?_
  intro W base args ds gs before hval0 hW hcnd hsz0 _
  have hsz : (DataW.weightsEach Try.prog (Try.f6.params.toList ++ Rows.labelPrintsSpec.plain.varTypes Try.prog) (ds ++ gs)).all (· ≤ reachBytes) = true := hsz0
  have hval : ∀ (j : Nat) t v, Try.f6.params[j]? = some t → args[j]? = some v → Value.okWide Try.prog W .any base t v := hval0
  have hW' := hW
  obtain ⟨p, q, hA0, hV, rfl, hfz, hnd⟩ := hW
  have hA : DataW.TrodAll enc Try.prog W 0 (fun _ => true) true Try.f6.params.toList args.toList ds p := hA0
  rw [Try.params6] at hA hval hsz
  obtain ⟨v0, vs0, d0, ds0, p0, q0, hargs, rfl, rfl, h0, r0⟩ := trodAll_cons hA
  obtain ⟨v1, vs1, d1, ds1, p1, q1, rfl, rfl, rfl, h1, r1⟩ := trodAll_cons r0
  obtain ⟨rfl, rfl, rfl⟩ := trodAll_nil r1
  obtain rfl : args = #[v0, v1] := by cases args; simp_all
  obtain ⟨rfl, rfl⟩ := trodVars_none hV
  have k0 := h0
  have lt0 : ∀ x ∈ p0, x.block < W.heap.size := by obtain ⟨m, hm⟩ := k0; exact DataW.trod_lt m _ _ _ hm
  obtain ⟨a0, len0, cap0, rfl⟩ := okWide_slice Try.underlying22 (hval 0 22 v0 rfl rfl)
  obtain ⟨l0, hl0, hc0, hr0, w0⟩ : ∃ l, l.length = len0 ∧ len0 ≤ cap0 ∧ Kd.C (P.k43) W a0 len0 l ∧ ∀ y ∈ l, True := by
    obtain ⟨fuel, hf⟩ := h0
    obtain ⟨A, c, l, hcs, hlc, hC, hw⟩ := P.open_rows (d := (P.k43)) Try.underlying22 (by kernel_rfl) P.opens_43 _ _ _ hf
    simp only [Value.cells, List.cons.injEq, Value.slice.injEq, and_true] at hcs
    obtain ⟨rfl, rfl, rfl⟩ := hcs
    exact ⟨l, rfl, hlc, hC, hw⟩
  subst hl0
  have k1 := h1
  have lt1 : ∀ x ∈ p1, x.block < W.heap.size := by obtain ⟨m, hm⟩ := k1; exact DataW.trod_lt m _ _ _ hm
  obtain ⟨a1, len1, cap1, rfl⟩ := okWide_slice Try.underlying26 (hval 1 26 v1 rfl rfl)
  obtain ⟨l1, hl1, hc1, hr1, w1⟩ : ∃ l, l.length = len1 ∧ len1 ≤ cap1 ∧ Kd.C (P.k38) W a1 len1 l ∧ ∀ y ∈ l, True := by
    obtain ⟨fuel, hf⟩ := h1
    obtain ⟨A, c, l, hcs, hlc, hC, hw⟩ := P.open_rows (d := (P.k38)) Try.underlying26 (by kernel_rfl) P.opens_38 _ _ _ hf
    simp only [Value.cells, List.cons.injEq, Value.slice.injEq, and_true] at hcs
    obtain ⟨rfl, rfl, rfl⟩ := hcs
    exact ⟨l, rfl, hlc, hC, hw⟩
  subst hl1
  clear hA0 hval0 hsz0 hsz
  obtain ⟨k, h⟩ := Pure.LabelPrints l0 l1
  refine (P.drayagelaw03_LabelPrints.calls k _ _ l0 _ _ l1 true W hr0 hc0 hr1 hc1 h).mono fun e W' ⟨he, bel0⟩ => ?_
  have bel : Below W.heap.size W W' := by first | exact bel0 | exact bel0.below
  subst he
  exact ⟨_, rfl, _, _, _, [], _, [], hW', trodAll_mk1 (shut_bool Try.underlying4 _), (trodAll_cons_mk (Below.trod laidOut (by kernel_rfl) (of_decide_eq_true (by kernel_rfl)) k0 bel lt0) (trodAll_cons_mk (Below.trod laidOut (by kernel_rfl) (of_decide_eq_true (by kernel_rfl)) k1 bel lt1) trodAll_mk0)), rfl, bel.frame _, fun h => by cases h⟩
theorem over : Rows.labelPrintsRow.holds Try.pinned (OpenSpec.ofChange Rows.labelPrintsSpec) :=
  OpenClaim.holds_of_wide 6 Try.f6 rfl rfl rfl rfl rfl rfl rfl ⟨rfl, rfl, rfl, rfl, rfl⟩ rfl rfl rfl rfl rfl (by kernel_rfl) Try.func6 (by kernel_rfl)
    (of_decide_eq_true (by kernel_rfl)) (by unfold Func.isWrapper; first | (rw [if_pos (by decide +kernel)]; kernel_rfl) | (rw [if_neg (by decide +kernel)]; exact ⟨rfl, rfl⟩))
    (fun os started H enc _ => lifted os started H enc)
theorem proved : Rows.LabelPrintsSaid := over
#print axioms proved
end Go.Proofs.Ytfnfjkddlnnolaa.labelPrints
namespace Go.Proofs.Ytfnfjkddlnnolaa
theorem labelPrints_holds : Rows.LabelPrintsSaid := labelPrints.proved
end Go.Proofs.Ytfnfjkddlnnolaa
