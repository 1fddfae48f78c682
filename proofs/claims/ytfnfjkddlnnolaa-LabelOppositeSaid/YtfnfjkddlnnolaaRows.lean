/-
  No cell of these rows narrows 'for every input' (looked for: loops, veiled, ifaces, maps, wideKeys, modest, calm, conditions, laid).
  DERIVED. THE GIVEN ROWS OF THIS SEAT. 5 by the template 'for every input the law returns true; each argument reads behind the call as it read before'; 0 by the template 'total and deterministic' (their statements: YtfnfjkddlnnolaaTotals.lean).
  GIVEN WITH THE SEED: the statements are not yours to turn. If you find one false, say at which input.
  Laid BY PROGRAM, IN A SANDBOX (cutbox-rows.mjs): the forced cells as the released guide's own fill.sh prints them over the translation 3b42fc15655ef066… (all of the seat's roots in one cut). By AI agents, Wed Nov 11 2026. No macro, syntax, notation, axiom, sorry.
-/
import Derived.Test.YtfnfjkddlnnolaaChecked
import GoSem.Claim
import GoSem.ClaimJoined
import GoSem.ClaimMapViews
import Derived.JoinedTies
import Derived.KernelRfl
namespace Go.Proofs.Ytfnfjkddlnnolaa
/- THE CELL 'sum', in the pinned program and in every row, IS THE sha256 OF THE DUMP (.gsa) THAT YtfnfjkddlnnolaaProg.lean LOADS. Nothing in Lean hashes anything: it is a label: what it is worth is what the hold of that sum in a sandbox is worth. -/
noncomputable def Try.pinned : Pinned := { name := "ytfnfjkddlnnolaa", sum := "3b42fc15655ef066fe8216c00cb968888fdf89af0267a76486fd378f9be1c909", checked := Try.checked }
namespace Rows
def none {H : Type} : Left H := { results := [], args := [] }

/-- 'drayagelaw03.LabelReads': WHATEVER THE INPUT: true; the input reads as it did. -/
def labelReadsSpec : ChangeSpec := { name := "labelReads", fn := fun _ => fun
  | [d] => { results := [.lit (.bool true)], args := [d] }
  | _ => none }
def labelReadsRow : OpenClaim := { program := "ytfnfjkddlnnolaa", sum := "3b42fc15655ef066fe8216c00cb968888fdf89af0267a76486fd378f9be1c909", func := "drayage/drayagelaw03.LabelReads", spec := "labelReads", inPlace := ["internal/bytealg.abigen_runtime_cmpstring", "internal/abi.NoEscape", "internal/bytealg.MakeNoZero"], unfollowed := true, recurses := true, apart := false }
def LabelReadsSaid : Prop := labelReadsRow.holds Try.pinned (OpenSpec.ofChange labelReadsSpec)

/-- ITS FALSE NEIGHBOUR: 'it returns false'. Refute it at one input. -/
def labelReadsWrong : ChangeSpec := { name := "labelReads", fn := fun _ => fun
  | [d] => { results := [.lit (.bool false)], args := [d] }
  | _ => none }
def LabelReadsWrongFalsely : Prop := labelReadsRow.holds Try.pinned (OpenSpec.ofChange labelReadsWrong)

/-- 'drayagelaw03.LabelOpposite': WHATEVER THE INPUT: true; the input reads as it did. -/
def labelOppositeSpec : ChangeSpec := { name := "labelOpposite", fn := fun _ => fun
  | [d1, d2, d3] => { results := [.lit (.bool true)], args := [d1, d2, d3] }
  | _ => none }
def labelOppositeRow : OpenClaim := { program := "ytfnfjkddlnnolaa", sum := "3b42fc15655ef066fe8216c00cb968888fdf89af0267a76486fd378f9be1c909", func := "drayage/drayagelaw03.LabelOpposite", spec := "labelOpposite", inPlace := ["internal/abi.NoEscape", "internal/bytealg.MakeNoZero", "internal/bytealg.abigen_runtime_cmpstring"], unfollowed := true, recurses := true, apart := false }
def LabelOppositeSaid : Prop := labelOppositeRow.holds Try.pinned (OpenSpec.ofChange labelOppositeSpec)

/-- ITS FALSE NEIGHBOUR: 'it returns false'. Refute it at one input. -/
def labelOppositeWrong : ChangeSpec := { name := "labelOpposite", fn := fun _ => fun
  | [d1, d2, d3] => { results := [.lit (.bool false)], args := [d1, d2, d3] }
  | _ => none }
def LabelOppositeWrongFalsely : Prop := labelOppositeRow.holds Try.pinned (OpenSpec.ofChange labelOppositeWrong)

/-- 'drayagelaw03.LabelBack': WHATEVER THE INPUT: true; the input reads as it did. -/
def labelBackSpec : ChangeSpec := { name := "labelBack", fn := fun _ => fun
  | [d] => { results := [.lit (.bool true)], args := [d] }
  | _ => none }
def labelBackRow : OpenClaim := { program := "ytfnfjkddlnnolaa", sum := "3b42fc15655ef066fe8216c00cb968888fdf89af0267a76486fd378f9be1c909", func := "drayage/drayagelaw03.LabelBack", spec := "labelBack", inPlace := ["internal/abi.NoEscape", "internal/bytealg.MakeNoZero", "internal/bytealg.abigen_runtime_cmpstring"], unfollowed := true, recurses := true, apart := false }
def LabelBackSaid : Prop := labelBackRow.holds Try.pinned (OpenSpec.ofChange labelBackSpec)

/-- ITS FALSE NEIGHBOUR: 'it returns false'. Refute it at one input. -/
def labelBackWrong : ChangeSpec := { name := "labelBack", fn := fun _ => fun
  | [d] => { results := [.lit (.bool false)], args := [d] }
  | _ => none }
def LabelBackWrongFalsely : Prop := labelBackRow.holds Try.pinned (OpenSpec.ofChange labelBackWrong)

/-- 'drayagelaw03.LabelPrints': WHATEVER THE INPUT: true; the input reads as it did. -/
def labelPrintsSpec : ChangeSpec := { name := "labelPrints", fn := fun _ => fun
  | [d1, d2] => { results := [.lit (.bool true)], args := [d1, d2] }
  | _ => none }
def labelPrintsRow : OpenClaim := { program := "ytfnfjkddlnnolaa", sum := "3b42fc15655ef066fe8216c00cb968888fdf89af0267a76486fd378f9be1c909", func := "drayage/drayagelaw03.LabelPrints", spec := "labelPrints", inPlace := ["internal/bytealg.abigen_runtime_cmpstring", "internal/abi.NoEscape", "internal/bytealg.MakeNoZero"], unfollowed := true, recurses := true, apart := false }
def LabelPrintsSaid : Prop := labelPrintsRow.holds Try.pinned (OpenSpec.ofChange labelPrintsSpec)

/-- ITS FALSE NEIGHBOUR: 'it returns false'. Refute it at one input. -/
def labelPrintsWrong : ChangeSpec := { name := "labelPrints", fn := fun _ => fun
  | [d1, d2] => { results := [.lit (.bool false)], args := [d1, d2] }
  | _ => none }
def LabelPrintsWrongFalsely : Prop := labelPrintsRow.holds Try.pinned (OpenSpec.ofChange labelPrintsWrong)

/-- 'drayagelaw03.LabelAgain': WHATEVER THE INPUT: true; the input reads as it did. -/
def labelAgainSpec : ChangeSpec := { name := "labelAgain", fn := fun _ => fun
  | [d] => { results := [.lit (.bool true)], args := [d] }
  | _ => none }
def labelAgainRow : OpenClaim := { program := "ytfnfjkddlnnolaa", sum := "3b42fc15655ef066fe8216c00cb968888fdf89af0267a76486fd378f9be1c909", func := "drayage/drayagelaw03.LabelAgain", spec := "labelAgain", inPlace := ["internal/bytealg.abigen_runtime_cmpstring", "internal/abi.NoEscape", "internal/bytealg.MakeNoZero"], unfollowed := true, recurses := true, apart := false }
def LabelAgainSaid : Prop := labelAgainRow.holds Try.pinned (OpenSpec.ofChange labelAgainSpec)

/-- ITS FALSE NEIGHBOUR: 'it returns false'. Refute it at one input. -/
def labelAgainWrong : ChangeSpec := { name := "labelAgain", fn := fun _ => fun
  | [d] => { results := [.lit (.bool false)], args := [d] }
  | _ => none }
def LabelAgainWrongFalsely : Prop := labelAgainRow.holds Try.pinned (OpenSpec.ofChange labelAgainWrong)

/- THE SECOND FORM. 'bulk': how many values and letters a reading holds, each counted each time it is reached (what is shared counts as often as it is met; a slice's spare places count too). A statement '..UptoSaid' is the law's where the arguments, and the package variables that the reading takes, are together of bulk at most 1048576: NARROWER than '..Said'. Prove '..Said' where nothing that the law and all that it calls make is longer than what came in: it says more and counts as full. Else prove '..UptoSaid'. A law counts once. -/
mutual
def uptoBulk {H : Type} : DataW H → Nat
  | .lit (.string bytes) => bytes.length + 1
  | .lit _ => 1
  | .nil => 1
  | .ptr d => uptoBulk d + 1
  | .slice elems spare => uptoBulkAll elems + uptoBulkAll spare + 1
  | .agg parts => uptoBulkAll parts + 1
  | .iface _ d => uptoBulk d + 1
  | .map entries => uptoBulkEntries entries + 1
  | .held _ => 1
def uptoBulkAll {H : Type} : List (DataW H) → Nat
  | [] => 0
  | d :: r => uptoBulk d + uptoBulkAll r
def uptoBulkEntries {H : Type} : List (Lit × DataW H) → Nat
  | [] => 0
  | x :: r => uptoBulkEntry x + uptoBulkEntries r
def uptoBulkEntry {H : Type} : Lit × DataW H → Nat
  | (.string bytes, d) => bytes.length + uptoBulk d + 1
  | (_, d) => uptoBulk d + 1
 end
def uptoSmall : (H : Type) → List (DataW H) → Bool := fun _ ds => decide (uptoBulkAll ds ≤ 1048576)
def OpenSpec.upto (s : _root_.Go.ChangeSpec) : _root_.Go.OpenSpec := { _root_.Go.OpenSpec.ofChange s with cond := some uptoSmall }

/-- 'drayagelaw03.LabelReads', WHERE WHAT IT READS IS OF BULK AT MOST 1048576: true; the input reads as it did. -/
def labelReadsUptoRow : OpenClaim := { program := "ytfnfjkddlnnolaa", sum := "3b42fc15655ef066fe8216c00cb968888fdf89af0267a76486fd378f9be1c909", func := "drayage/drayagelaw03.LabelReads", spec := "labelReads", inPlace := ["internal/bytealg.abigen_runtime_cmpstring", "internal/abi.NoEscape", "internal/bytealg.MakeNoZero"], unfollowed := true, recurses := true, apart := false, narrowed := true }
def LabelReadsUptoSaid : Prop := labelReadsUptoRow.holds Try.pinned (OpenSpec.upto labelReadsSpec)

/-- 'drayagelaw03.LabelOpposite', WHERE WHAT IT READS IS OF BULK AT MOST 1048576: true; the input reads as it did. -/
def labelOppositeUptoRow : OpenClaim := { program := "ytfnfjkddlnnolaa", sum := "3b42fc15655ef066fe8216c00cb968888fdf89af0267a76486fd378f9be1c909", func := "drayage/drayagelaw03.LabelOpposite", spec := "labelOpposite", inPlace := ["internal/abi.NoEscape", "internal/bytealg.MakeNoZero", "internal/bytealg.abigen_runtime_cmpstring"], unfollowed := true, recurses := true, apart := false, narrowed := true }
def LabelOppositeUptoSaid : Prop := labelOppositeUptoRow.holds Try.pinned (OpenSpec.upto labelOppositeSpec)

/-- 'drayagelaw03.LabelBack', WHERE WHAT IT READS IS OF BULK AT MOST 1048576: true; the input reads as it did. -/
def labelBackUptoRow : OpenClaim := { program := "ytfnfjkddlnnolaa", sum := "3b42fc15655ef066fe8216c00cb968888fdf89af0267a76486fd378f9be1c909", func := "drayage/drayagelaw03.LabelBack", spec := "labelBack", inPlace := ["internal/abi.NoEscape", "internal/bytealg.MakeNoZero", "internal/bytealg.abigen_runtime_cmpstring"], unfollowed := true, recurses := true, apart := false, narrowed := true }
def LabelBackUptoSaid : Prop := labelBackUptoRow.holds Try.pinned (OpenSpec.upto labelBackSpec)

/-- 'drayagelaw03.LabelPrints', WHERE WHAT IT READS IS OF BULK AT MOST 1048576: true; the input reads as it did. -/
def labelPrintsUptoRow : OpenClaim := { program := "ytfnfjkddlnnolaa", sum := "3b42fc15655ef066fe8216c00cb968888fdf89af0267a76486fd378f9be1c909", func := "drayage/drayagelaw03.LabelPrints", spec := "labelPrints", inPlace := ["internal/bytealg.abigen_runtime_cmpstring", "internal/abi.NoEscape", "internal/bytealg.MakeNoZero"], unfollowed := true, recurses := true, apart := false, narrowed := true }
def LabelPrintsUptoSaid : Prop := labelPrintsUptoRow.holds Try.pinned (OpenSpec.upto labelPrintsSpec)

/-- 'drayagelaw03.LabelAgain', WHERE WHAT IT READS IS OF BULK AT MOST 1048576: true; the input reads as it did. -/
def labelAgainUptoRow : OpenClaim := { program := "ytfnfjkddlnnolaa", sum := "3b42fc15655ef066fe8216c00cb968888fdf89af0267a76486fd378f9be1c909", func := "drayage/drayagelaw03.LabelAgain", spec := "labelAgain", inPlace := ["internal/bytealg.abigen_runtime_cmpstring", "internal/abi.NoEscape", "internal/bytealg.MakeNoZero"], unfollowed := true, recurses := true, apart := false, narrowed := true }
def LabelAgainUptoSaid : Prop := labelAgainUptoRow.holds Try.pinned (OpenSpec.upto labelAgainSpec)

end Rows
end Go.Proofs.Ytfnfjkddlnnolaa
