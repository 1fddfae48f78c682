import Derived.Test.YtagkgddkpnbfoaaHplaw
import Derived.Test.YtagkgddkpnbfoaaPf17
/- Plain laws: the chapter's record. -/
namespace Go.Proofs.Ytagkgddkpnbfoaa.P
set_option linter.unusedVariables false
set_option linter.unusedSimpArgs false
open Go.RowKit Go.Proofs.YtagkgddkpnbfoaaW.PrintWords Go.Proofs.YtagkgddkpnbfoaaW.PrintLast Go.Proofs.YtagkgddkpnbfoaaW.PrintMore

theorem eqBytes_self (l : List Int) : drayageref00_EqBytes.f l l = some true := by simp [drayageref00_EqBytes.f]
theorem copyBytes_f {l : List Int} (h : l.length < 140737488355328) : drayageref00_CopyBytes.f l = some l := by
  unfold drayageref00_CopyBytes.f
  rw [if_pos (by simpa using h)]
  rfl
def works21 : List Int := [0, 11, 255, 244, 3, 0, 1, 0, 2, 7, 56, 0, 11, 255, 244, 3, 0, 1, 0, 2, 7]
theorem works_read : readAll works21 = ([⟨3, 1, 2, [], []⟩], 11) := by
  have h1 : firstOk works21 = true := by decide +kernel
  rw [readAll_yes h1]
  have h2 : firstOk (works21.drop (fN works21)) = false := by decide +kernel
  rw [readAll_no h2]
  rfl
theorem works_ok : bytesOk works21 = true := by decide +kernel
theorem works_f : drayagelaw20_works.f = some true := by
  unfold drayagelaw20_works.f
  have e1 : journal_Bytes.f 3 1 2 ([] : List Int) ([] : List S49) = some ([0, 11, 255, 244, 3, 0, 1, 0, 2, 7, 56], 0) := by
    unfold journal_Bytes.f
    decide +kernel
  rw [e1]
  simp only [Option.bind_some]
  rw [copyBytes_f (by simp)]
  simp only [Option.bind_some]
  rw [if_pos (by simp), if_pos (by simp)]
  have e2 : journal_Read.f ([0, 11, 255, 244, 3, 0, 1, 0, 2, 7, 56] ++ ([0, 11, 255, 244, 3, 0, 1, 0, 2, 7, 56] : List Int).take 10) = some ([⟨3, 1, 2, [], []⟩], 11) := by
    show journal_Read.f works21 = _
    unfold journal_Read.f
    rw [works_ok, if_pos rfl, works_read]
    rfl
  rw [e2]
  simp only [Option.bind_some]
  rw [eqBytes_self]
  simp [rd_T25]
end Go.Proofs.Ytagkgddkpnbfoaa.P
