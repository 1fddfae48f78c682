import Derived.Test.YtcpalnmodbbklaaHrun
import Derived.Test.YtcpalnmodbbklaaHline
/- Plain laws: words are told as they stand, whatever stands between them. -/
namespace Go.Proofs.Ytcpalnmodbbklaa.P
set_option linter.unusedVariables false
set_option linter.unusedSimpArgs false
open Go.RowKit Go.Proofs.YtcpalnmodbbklaaW.PrintWords Go.Proofs.YtcpalnmodbbklaaW.PrintLast Go.Proofs.YtcpalnmodbbklaaW.PrintMore

/-- the words of the statement: their runes, their texts, their kinds; and what stands behind each -/
def pcR : List (List Nat) := [[97], [112, 111, 100, 45, 49], [122, 57], [48], [49, 46, 53, 71, 105], [56, 53, 46, 53, 37], [123], [125], [58], [59], [42], [34, 34], [34, 120, 32, 121, 34], [34, 233, 35, 92, 92, 34], [34, 92, 110, 34]]
def pcT : List ByteArray := [⟨#[97]⟩, ⟨#[112, 111, 100, 45, 49]⟩, ⟨#[122, 57]⟩, ⟨#[48]⟩, ⟨#[49, 46, 53, 71, 105]⟩, ⟨#[56, 53, 46, 53, 37]⟩, ⟨#[123]⟩, ⟨#[125]⟩, ⟨#[58]⟩, ⟨#[59]⟩, ⟨#[42]⟩, ⟨#[]⟩, ⟨#[120, 32, 121]⟩, ⟨#[195, 169, 35, 92]⟩, ⟨#[10]⟩]
def pcK : List Int := [1, 1, 1, 2, 2, 2, 4, 4, 4, 4, 4, 3, 3, 3, 3]
def seR : List (List Nat) := [[32], [9, 32, 32], [10], [32, 35, 32, 233, 32, 34, 32, 123, 10, 10, 32]]
theorem wt (l : List SW) (x : SW) (t : ByteArray) : withText (l ++ [x]) t = l ++ [⟨x.f0, t, x.f2, x.f3⟩] := withText_snoc l x t
/-- where a text stands behind a word and what follows it -/
def behind (k e : Nat) (ln cl : Int) : Int × Int :=
  match e with
  | 0 => (ln, cl + ((pcR.getD k []).length : Int) + 1)
  | 1 => (ln, cl + ((pcR.getD k []).length : Int) + 3)
  | 2 => (ln + 1, 1)
  | _ => (ln + 2, 2)
set_option maxRecDepth 10000 in
set_option maxHeartbeats 4000000 in
theorem run_one (wd : List SW) (gk : Nat) (tx : List Int) (ln cl : Int) (k e : Nat) (hk : k < 15) (he : e < 4) :
    ∃ gk' tx', runR ⟨.btw, wd, gk, tx, ln, cl⟩ (pcR.getD k [] ++ seR.getD e []) = some ⟨.btw, wd ++ [⟨pcK.getD k 0, pcT.getD k ⟨#[]⟩, ln, cl⟩], gk', tx', (behind k e ln cl).1, (behind k e ln cl).2⟩ := by
  have h1 : k = 0 ∨ k = 1 ∨ k = 2 ∨ k = 3 ∨ k = 4 ∨ k = 5 ∨ k = 6 ∨ k = 7 ∨ k = 8 ∨ k = 9 ∨ k = 10 ∨ k = 11 ∨ k = 12 ∨ k = 13 ∨ k = 14 := by omega
  have h2 : e = 0 ∨ e = 1 ∨ e = 2 ∨ e = 3 := by omega
  rcases h2 with rfl | rfl | rfl | rfl
  all_goals
    rcases h1 with rfl | rfl | rfl | rfl | rfl | rfl | rfl | rfl | rfl | rfl | rfl | rfl | rfl | rfl | rfl
    all_goals
      simp [pcR, pcT, pcK, seR, behind, runR, stepS, stepB, stepP, stepQ, stepE, stepC, moveS, blankB, smallB, digitB, greatB, signB, endsB, goB, beginS, endS, escB, escX, wt, runesBytes]
      all_goals first | omega | (exact ⟨by rfl, by omega⟩) | rfl | (exact ⟨by rfl, rfl⟩)
end Go.Proofs.Ytcpalnmodbbklaa.P
