import Derived.Test.YtfnfjkddlnnolaaHterms
namespace Go.Proofs.Ytfnfjkddlnnolaa.P
set_option linter.unusedVariables false
set_option linter.unusedSimpArgs false
open Go.RowKit Go.Proofs.YtfnfjkddlnnolaaW.PrintWords Go.Proofs.YtfnfjkddlnnolaaW.PrintLast Go.Proofs.YtfnfjkddlnnolaaW.PrintMore
def label_Labels.f (t : ByteArray) : Option (List S43 × Int × Int) := partsF (oneL label_reader_value.f) byKeyL 8 t 0 (!t.toList.isEmpty) []
def label_Borne.f (t : ByteArray) : Option (List S43 × Int × Int) := partsF (oneL label_reader_starred.f) byBothL 8 t 0 (!t.toList.isEmpty) []
def label_Terms.f (t : ByteArray) : Option (List S38 × Int × Int) := partsF oneT anyT 8 t 0 (!t.toList.isEmpty) []
set_option maxRecDepth 100000 in
set_option maxHeartbeats 800000 in
theorem label_Labels.calls (a0 : ByteArray) (r1 : List S43) (r2 r3 : Int) (w : World) (h : label_Labels.f a0 = some (r1, r2, r3)) :
  Calls Try.prog 8 #[.string a0] w fun e w' => ∃ v0_ : Value, e = .returned (.tuple #[v0_, .int .i64 r2, .int .i64 r3]) ∧ Kd.R k43 43 w' w.heap.size (fun _ => True) v0_ r1 ∧ Below w.heap.size w w' := by
 have hu55 := Try.underlying55
 have A := Aside0.mk h
 clear h
 obtain ⟨p, hp⟩ : ∃ p, w.heap.size = p := ⟨_, rfl⟩
 go_enter Try.func8, Try.ntmps8
 go_wp2_with fail
 have hb1 : Below w.heap.size w (w.alloc (.cells #[.string a0, .int .i64 0, .int .i64 0] 55)) := below_alloc (Below.refl _ _) _
 have hI : IsS55 w (w.alloc (.cells #[.string a0, .int .i64 0, .int .i64 0] 55)) p a0 0 0 := by rw [← hp]; exact IsS55.new w w a0 0 0 (Below.refl _ _)
 have hs : (w.alloc (.cells #[.string a0, .int .i64 0, .int .i64 0] 55)).heap.size = p + 1 := by rw [← hp]; simp
 refine (parts32_calls 8 p (p + 1) a0 w _ (hI.alloc _) (below_alloc hb1 _) (by omega) (by rw [← hs]; exact heap_alloc_new _ _) _ _ _ A.out).mono ?_
 rintro _ W2 ⟨v0, rfl, hR, hB⟩
 have HR := Aside0.mk (And.intro hR hB)
 clear hR hB hI hb1 hs
 go_wp2_with fail
 go_ret3
 exact ⟨v0, rfl, HR.out.1, HR.out.2⟩
set_option maxRecDepth 100000 in
set_option maxHeartbeats 800000 in
theorem label_Borne.calls (a0 : ByteArray) (r1 : List S43) (r2 r3 : Int) (w : World) (h : label_Borne.f a0 = some (r1, r2, r3)) :
  Calls Try.prog 10 #[.string a0] w fun e w' => ∃ v0_ : Value, e = .returned (.tuple #[v0_, .int .i64 r2, .int .i64 r3]) ∧ Kd.R k43 43 w' w.heap.size (fun _ => True) v0_ r1 ∧ Below w.heap.size w w' := by
 have hu55 := Try.underlying55
 have A := Aside0.mk h
 clear h
 obtain ⟨p, hp⟩ : ∃ p, w.heap.size = p := ⟨_, rfl⟩
 go_enter Try.func10, Try.ntmps10
 go_wp2_with fail
 have hb1 : Below w.heap.size w (w.alloc (.cells #[.string a0, .int .i64 0, .int .i64 0] 55)) := below_alloc (Below.refl _ _) _
 have hI : IsS55 w (w.alloc (.cells #[.string a0, .int .i64 0, .int .i64 0] 55)) p a0 0 0 := by rw [← hp]; exact IsS55.new w w a0 0 0 (Below.refl _ _)
 have hs : (w.alloc (.cells #[.string a0, .int .i64 0, .int .i64 0] 55)).heap.size = p + 1 := by rw [← hp]; simp
 refine (parts36_calls 8 p (p + 1) a0 w _ (hI.alloc _) (below_alloc hb1 _) (by omega) (by rw [← hs]; exact heap_alloc_new _ _) _ _ _ A.out).mono ?_
 rintro _ W2 ⟨v0, rfl, hR, hB⟩
 have HR := Aside0.mk (And.intro hR hB)
 clear hR hB hI hb1 hs
 go_wp2_with fail
 go_ret3
 exact ⟨v0, rfl, HR.out.1, HR.out.2⟩
set_option maxRecDepth 100000 in
set_option maxHeartbeats 800000 in
theorem label_Terms.calls (a0 : ByteArray) (r1 : List S38) (r2 r3 : Int) (w : World) (h : label_Terms.f a0 = some (r1, r2, r3)) :
  Calls Try.prog 12 #[.string a0] w fun e w' => ∃ v0_ : Value, e = .returned (.tuple #[v0_, .int .i64 r2, .int .i64 r3]) ∧ Kd.R k38 38 w' w.heap.size (fun _ => True) v0_ r1 ∧ Below w.heap.size w w' := by
 have hu55 := Try.underlying55
 have A := Aside0.mk h
 clear h
 obtain ⟨p, hp⟩ : ∃ p, w.heap.size = p := ⟨_, rfl⟩
 go_enter Try.func12, Try.ntmps12
 go_wp2_with fail
 have hb1 : Below w.heap.size w (w.alloc (.cells #[.string a0, .int .i64 0, .int .i64 0] 55)) := below_alloc (Below.refl _ _) _
 have hI : IsS55 w (w.alloc (.cells #[.string a0, .int .i64 0, .int .i64 0] 55)) p a0 0 0 := by rw [← hp]; exact IsS55.new w w a0 0 0 (Below.refl _ _)
 refine (partsT_calls 8 p a0 w _ hI hb1 _ _ _ A.out).mono ?_
 rintro _ W2 ⟨v0, rfl, hR, hB⟩
 have HR := Aside0.mk (And.intro hR hB)
 clear hR hB hI hb1
 go_wp2_with fail
 go_ret3
 exact ⟨v0, rfl, HR.out.1, HR.out.2⟩
end Go.Proofs.Ytfnfjkddlnnolaa.P
