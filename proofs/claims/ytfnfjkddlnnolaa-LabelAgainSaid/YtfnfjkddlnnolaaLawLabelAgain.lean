import Derived.Test.YtfnfjkddlnnolaaRows
import Derived.WalkKit
import Derived.ProofKit
import Derived.OpenShut
import Derived.ShutString
import Derived.ChangeOld
import Derived.Below
import Derived.SizedLaws
import Derived.Test.YtfnfjkddlnnolaaWRest
import Derived.Test.YtfnfjkddlnnolaaHopenr
import Derived.Test.YtfnfjkddlnnolaaHagain
import Derived.Test.YtfnfjkddlnnolaaHspec7
namespace Go.Proofs.Ytfnfjkddlnnolaa.Pure
open Go.RowKit Go.Proofs.Ytfnfjkddlnnolaa.P Go.Proofs.YtfnfjkddlnnolaaW.PrintWords Go.Proofs.YtfnfjkddlnnolaaW.PrintLast

theorem checkG_fine (vf : ByteArray → Option Bool) (may : S43 → S43 → Option Bool) (xs : List S43) (hx : ∀ x ∈ xs, label_Name.f x.f0 = some true ∧ vf x.f1 = some true) (hm : ∀ i (h : i + 1 < xs.length), may (xs[i]'(by omega)) xs[i + 1] = some true) (h6 : xs.length ≤ 6) :
  ∀ (n k : Nat), k + n = xs.length + 1 → n ≠ 0 → checkG vf may xs n k = some 0 := by
 intro n
 induction n with
 | zero => intro _ _ h; exact absurd rfl h
 | succ n ih =>
  intro k hk _
  unfold checkG
  by_cases hlt : k < xs.length
  ·have hg := hx _ (List.getElem_mem hlt)
   rw [if_pos hlt, rd43_get xs k hlt, hg.1, Option.bind_some, if_pos rfl, hg.2, Option.bind_some, if_pos rfl]
   have hmay : (if k = 0 then some true else may (rd_T43 xs ((k : Int) - 1)) xs[k]) = some true := by
    split
    ·rfl
    ·rename_i h0
     obtain ⟨j, rfl⟩ : ∃ j, k = j + 1 := ⟨k - 1, by omega⟩
     rw [show ((j + 1 : Nat) : Int) - 1 = (j : Int) by omega, rd43_get xs j (by omega)]
     exact hm j hlt
   rw [hmay, Option.bind_some, if_pos rfl]
   exact ih (k + 1) (by omega) (by omega)
  ·rw [if_neg hlt, if_pos h6]
theorem valB_nil : valB (⟨#[]⟩ : ByteArray) = false := by
 unfold valB
 rw [ByteArray.toList_eq]
 rfl
theorem checkT_fine (l : List S38) (hx : ∀ x ∈ l, goodT x) (h6 : l.length ≤ 6) : ∀ (n k i : Nat), i + n = l.length → n + 1 ≤ k → label_CheckTerms.l0 k l l (l.length : Int) (i : Int) = some 0 := by
 intro n
 induction n with
 | zero =>
  intro k i hi hk
  obtain ⟨k, rfl⟩ : ∃ j, k = j + 1 := ⟨k - 1, by omega⟩
  rw [label_CheckTerms.l0, if_neg (by omega), decide_eq_true (by omega)]
  rfl
 | succ n ih =>
  intro k i hi hk
  obtain ⟨k, rfl⟩ : ∃ j, k = j + 1 := ⟨k - 1, by omega⟩
  have hlt : i < l.length := by omega
  obtain ⟨g1, g2, g3, g4, _, _⟩ := hx _ (List.getElem_mem hlt)
  have hgo := ih k (i + 1) (by omega) (by omega)
  rw [label_CheckTerms.l0, rd38_get l i hlt, if_pos (by omega), if_pos (by omega), if_pos (by omega), if_neg (by omega), if_neg (by omega), g1, Option.bind_some, if_pos rfl, wsm (b := ((i + 1 : Nat) : Int)) (by omega) (by omega) (by omega)]
  unfold label_Value.f
  rcases g4 with ⟨hk1, hv⟩ | ⟨hk1, hv⟩
  ·have e : label_valued.f l[i].f0 = some true := by
    unfold label_valued.f
    rcases hk1 with h | h <;> rw [h] <;> rfl
   rw [e, Option.bind_some, Option.bind_some, hv, if_neg (by decide), Option.bind_some, if_pos rfl]
   exact hgo
  ·have e : label_valued.f l[i].f0 = some false := by
    unfold label_valued.f
    rcases hk1 with h | h <;> rw [h] <;> rfl
   rw [e, Option.bind_some, Option.bind_some, hv, valB_nil, if_neg (by decide), Option.bind_some, if_neg (by decide), if_pos (by rw [ByteArray.toList_eq])]
   exact hgo
theorem whole_fine {α : Type} (t : ByteArray) (one : Nat → OneP α) (may : α → α → Bool) (txt : α → ByteArray) (G : α → Prop) (pf : List α → Option ByteArray) (cf : List α → Option Int)
  (hbad : ∀ p a e, one p = .bad a e → e ≠ 0) (hat : ∀ p a e, p ≤ t.size → one p = .bad a e → a ≤ t.size ∧ (e = 3 → a = t.size))
  (hg : ∀ p x q, p ≤ t.size → one p = .good x q → txt x = t.extract p q ∧ p < q ∧ q ≤ t.size ∧ G x)
  (hp : ∀ l : List α, (∀ x ∈ l, G x) → l.length ≤ 6 → pf l = some ⟨(Lib.join ((l.map txt).map (·.data.toList)) [44]).toArray⟩)
  (hc : ∀ l : List α, (∀ x ∈ l, G x) → Chain may l → l.length ≤ 6 → cf l = some 0) :
  Fine t pf cf (wholeS t one may).1 ((wholeS t one may).2.1 : Int) (wholeS t one may).2.2 := by
 have hend := wholeS_end t one may hbad
 have nil : (∀ x ∈ ([] : List α), G x) := fun x h => by cases h
 have nilc : Chain may ([] : List α) := fun i h => absurd h (Nat.not_lt_zero _)
 have hall : (∀ x ∈ (wholeS t one may).1, G x) ∧ Chain may (wholeS t one may).1 ∧ (wholeS t one may).1.length ≤ 6 := by
  unfold wholeS
  split
  ·exact ⟨nil, nilc, Nat.zero_le _⟩
  ·exact partsS_all t one may G (fun p x q hp ho => ⟨(hg p x q hp ho).2.2.2, (hg p x q hp ho).2.2.1⟩) 7 0 [] (Nat.zero_le _) rfl nil nilc (by omega)
 have hatw : (wholeS t one may).2.1 ≤ t.size ∧ ((wholeS t one may).2.2 = 3 → (wholeS t one may).2.1 = t.size) := by
  unfold wholeS
  split
  ·exact ⟨Nat.zero_le _, fun h => by cases h⟩
  ·exact partsS_at t one may hat (fun p x q hp ho => (hg p x q hp ho).2.2.1) 7 0 [] (Nat.zero_le _)
 have htxt : (wholeS t one may).2.2 = 0 → Lib.join (((wholeS t one may).1.map txt).map (·.data.toList)) [44] = t.data.toList := by
  unfold wholeS
  split
  ·rename_i h0
   intro _
   have : t.data.toList = [] := List.length_eq_zero_iff.1 h0
   rw [this]
   rfl
  ·intro he
   refine partsS_text t one may txt (fun p x q hp ho => ⟨(hg p x q hp ho).1, (hg p x q hp ho).2.1, (hg p x q hp ho).2.2.1⟩) hbad 7 0 [] (Nat.zero_le _) (by omega) rfl ?_ he
   have : (t.extract 0 0).data.toList = [] := by
    apply List.length_eq_zero_iff.1
    show (t.extract 0 0).size = 0
    rw [ByteArray.size_extract]
    omega
   rw [this]
   rfl
 refine ⟨by omega, by omega, fun h => by rw [hatw.2 h], fun h => ?_, fun h => hc _ hall.1 hall.2.1 hall.2.2, fun h => by rw [hend.1 h]; rfl, hend.2.1⟩
 rw [hp _ hall.1 hall.2.2]
 congr 1
 apply bytes_eq
 exact htxt h
theorem LabelAgain (a0 : ByteArray) (ha : a0.size ≤ 140737488351232) (w : World) : Calls Try.prog 7 #[.string a0] w fun e w' => e = .returned (.bool true) ∧ Below w.heap.size w w' := by
 have hm2 : mn (a0.size : Int) 300 ≤ 300 := by unfold mn; omega
 have hm0 : 0 ≤ mn (a0.size : Int) 300 := by unfold mn; omega
 obtain ⟨t, ht⟩ : ∃ t, a0.extract 0 (mn (a0.size : Int) 300).toNat = t := ⟨_, rfl⟩
 have hs : t.size ≤ 1000000 := by rw [← ht, ByteArray.size_extract]; omega
 refine again_walk a0 t ha ht 100 _ _ _ _ _ _ _ _ _ (labels_f t hs) (borne_f t hs) (terms_f t hs) ?_ ?_ ?_ w
 ·refine whole_fine t (labS t false) (riseL false) textL (goodL false) _ _ (labS_bad t false) (fun p a e hp h => labS_at hp h)
   (fun p x q hp h => ⟨labS_text hp h, (labS_le t false p hp x q h).1, (labS_le t false p hp x q h).2, labS_good hp h⟩)
   (fun l hl h6 => joinL_small (fun x hx => ⟨(hl x hx).2.2.1, (hl x hx).2.2.2⟩) (by omega)) (fun l hl hch h6 => ?_)
  exact checkG_fine label_Value.f byKeyL l (fun x hx => ⟨(hl x hx).1, by have := (hl x hx).2.1; rwa [if_neg (by decide)] at this⟩) (fun i h => by rw [byKey_f]; congr 1; exact hch i h) h6 _ 0 (Nat.zero_add _) (by omega)
 ·refine whole_fine t (labS t true) (riseL true) textL (goodL true) _ _ (labS_bad t true) (fun p a e hp h => labS_at hp h)
   (fun p x q hp h => ⟨labS_text hp h, (labS_le t true p hp x q h).1, (labS_le t true p hp x q h).2, labS_good hp h⟩)
   (fun l hl h6 => joinL_small (fun x hx => ⟨(hl x hx).2.2.1, (hl x hx).2.2.2⟩) (by omega)) (fun l hl hch h6 => ?_)
  exact checkG_fine label_star.f byBothL l (fun x hx => ⟨(hl x hx).1, by have := (hl x hx).2.1; rwa [if_pos rfl] at this⟩) (fun i h => by rw [byBoth_f]; congr 1; exact hch i h) h6 _ 0 (Nat.zero_add _) (by omega)
 ·refine whole_fine t (terS t) (fun _ _ => true) textT goodT _ _ (terS_bad t) (fun p a e hp h => terS_at hp h)
   (fun p x q hp h => ⟨terS_text hp h, (terS_le t p hp x q h).1, (terS_le t p hp x q h).2, terS_good hp h⟩)
   (fun l hl h6 => joinT_small (fun x hx => ⟨(hl x hx).2.1, (hl x hx).2.2.1, (hl x hx).2.2.2.2.1, (hl x hx).2.2.2.2.2⟩) (by omega)) (fun l hl _ h6 => ?_)
  exact checkT_fine l hl h6 l.length 100 0 (Nat.zero_add _) (by omega)
end Go.Proofs.Ytfnfjkddlnnolaa.Pure
namespace Go.Proofs.Ytfnfjkddlnnolaa.labelAgain
open Go.ChangeShapes Go.WideShapes Go.ChangeAt Go.RowKit
open Go.ChangeMaps (open_string shut_string)
open Go.Proofs.YtfnfjkddlnnolaaW.PrintWords
set_option linter.unusedVariables false
set_option linter.unusedSimpArgs false
theorem own : ownKnob Try.prog.godebug = none := by kernel_rfl
set_option maxRecDepth 100000 in
theorem lifted (os : Os) (started : os.Started) (H : Type) (enc : TypeId × Value → H) :
    ReturnsInHanded {} Try.checked os 7 .any (Rows.labelAgainSpec.pre6 enc Try.prog Try.f7 Rows.labelAgainRow.domain false) (Rows.labelAgainSpec.post enc Try.prog Try.f7 false true false false) := by
  refine returnsInHanded_of_change_sized (C := Try.checked) own started (by kernel_rfl) Try.func7
    (ChangeSpec.witness6 (enc := enc) (C := Try.checked) false ⟨#[], #[.string ByteArray.empty], []⟩ 8 (by kernel_rfl) (by kernel_rfl) (by kernel_rfl) (by kernel_rfl)) ?_
  intro W base args ds gs before hval0 hW hcnd hsz0 _
  have hsz : (DataW.weightsEach Try.prog (Try.f7.params.toList ++ Rows.labelAgainSpec.plain.varTypes Try.prog) (ds ++ gs)).all (· ≤ reachBytes) = true := hsz0
  have hval : ∀ (j : Nat) t v, Try.f7.params[j]? = some t → args[j]? = some v → Value.okWide Try.prog W .any base t v := hval0
  have hW' := hW
  obtain ⟨p, q, hA0, hV, rfl, hfz, hnd⟩ := hW
  have hA : DataW.TrodAll enc Try.prog W 0 (fun _ => true) true Try.f7.params.toList args.toList ds p := hA0
  rw [Try.params7] at hA hval hsz
  obtain ⟨v0, vs0, d0, ds0, p0, q0, hargs, rfl, rfl, h0, r0⟩ := trodAll_cons hA
  obtain ⟨rfl, rfl, rfl⟩ := trodAll_nil r0
  obtain rfl : args = #[v0] := by cases args; simp_all
  obtain ⟨rfl, rfl⟩ := trodVars_none hV
  obtain ⟨a0, rfl, rfl, rfl, y0⟩ := open_string Try.underlying9 (hval 0 9 v0 rfl rfl) h0
  have w0 : a0.size ≤ 140737488351232 := by
    have z := sized_string hsz (j := 0) (t := 9) rfl rfl
    rw [Array.length_toList] at z
    exact z
  clear hA0 hval0 hsz0 hsz
  refine (Pure.LabelAgain a0 w0 W).mono fun e W' ⟨he, bel0⟩ => ?_
  have bel : Below W.heap.size W W' := by first | exact bel0 | exact bel0.below
  subst he
  exact ⟨_, rfl, _, _, _, [], _, [], hW', trodAll_mk1 (shut_bool Try.underlying4 _), (trodAll_cons_mk (shut_string Try.underlying9 y0) trodAll_mk0), rfl, bel.frame _, fun h => by cases h⟩
theorem over : Rows.labelAgainRow.holds Try.pinned (OpenSpec.ofChange Rows.labelAgainSpec) :=
  OpenClaim.holds_of_wide 7 Try.f7 rfl rfl rfl rfl rfl rfl rfl ⟨rfl, rfl, rfl, rfl, rfl⟩ rfl rfl rfl rfl rfl (by kernel_rfl) Try.func7 (by kernel_rfl)
    (of_decide_eq_true (by kernel_rfl)) (by unfold Func.isWrapper; first | (rw [if_pos (by decide +kernel)]; kernel_rfl) | (rw [if_neg (by decide +kernel)]; exact ⟨rfl, rfl⟩))
    (fun os started H enc _ => lifted os started H enc)
theorem proved : Rows.LabelAgainSaid := over
#print axioms proved
end Go.Proofs.Ytfnfjkddlnnolaa.labelAgain
namespace Go.Proofs.Ytfnfjkddlnnolaa
theorem labelAgain_holds : Rows.LabelAgainSaid := labelAgain.proved
end Go.Proofs.Ytfnfjkddlnnolaa
