import Derived.Test.YtfnfjkddlnnolaaPf3
import Derived.Test.YtfnfjkddlnnolaaHspec5
namespace Go.Proofs.Ytfnfjkddlnnolaa.Pure
open Go.RowKit Go.Proofs.Ytfnfjkddlnnolaa.P Go.Proofs.YtfnfjkddlnnolaaW.PrintWords Go.Proofs.YtfnfjkddlnnolaaW.PrintLast

theorem works_100 : drayagelaw03_works.f 100 = some true := by kernel_rfl
theorem LabelReads : drayagelaw03_LabelReads.Pure := by
 intro a0 ha
 refine ⟨100, ?_⟩
 unfold drayagelaw03_LabelReads.f
 have hm0 : 0 ≤ mn (a0.size : Int) 300 := by unfold mn; omega
 have hm1 : mn (a0.size : Int) 300 ≤ (a0.size : Int) := by unfold mn; omega
 have hm2 : mn (a0.size : Int) 300 ≤ 300 := by unfold mn; omega
 rw [if_pos hm0, if_pos hm1]
 generalize ht : a0.extract 0 (mn (a0.size : Int) 300).toNat = t
 have hs : t.size ≤ 1000000 := by rw [← ht, ByteArray.size_extract]; omega
 have hL := wholeS_end t (labS t false) (riseL false) (labS_bad t false)
 have hB := wholeS_end t (labS t true) (riseL true) (labS_bad t true)
 have hT := wholeS_end t (terS t) (fun _ _ => true) (terS_bad t)
 have e1 : drayageref03_Labels.f 100 t = drayageref03_labels.f 100 t false := by unfold drayageref03_Labels.f; cases drayageref03_labels.f 100 t false <;> rfl
 have e2 : drayageref03_Borne.f 100 t = drayageref03_labels.f 100 t true := by unfold drayageref03_Borne.f; cases drayageref03_labels.f 100 t true <;> rfl
 have e3 : drayageref03_Terms.f 100 t = drayageref03_parts.f 100 t false false := by unfold drayageref03_Terms.f; cases drayageref03_parts.f 100 t false false <;> rfl
 rw [labels_f t hs, borne_f t hs, terms_f t hs, e1, e2, e3, ref_labels t false hs 100 (by omega), ref_labels t true hs 100 (by omega), ref_terms t hs 100 (by omega)]
 simp only [Option.bind_some]
 rw [same_labels _ 100 (by omega) (by omega), same_labels _ 100 (by omega) (by omega), same_terms _ 100 (by omega) (by omega)]
 simp only [Option.bind_some, if_true]
 rw [works_100]
 rfl
end Go.Proofs.Ytfnfjkddlnnolaa.Pure
