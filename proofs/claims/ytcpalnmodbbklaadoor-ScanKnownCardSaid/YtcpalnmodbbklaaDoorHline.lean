import Derived.Test.YtcpalnmodbbklaaDoorHscan9a
import Derived.Test.YtcpalnmodbbklaaDoorPf15
/- Plain laws: how many words stand in one line. -/
namespace Go.Proofs.YtcpalnmodbbklaaDoor.P
set_option linter.unusedVariables false
set_option linter.unusedSimpArgs false
open Go.RowKit Go.Proofs.YtcpalnmodbbklaaDoorW.PrintWords Go.Proofs.YtcpalnmodbbklaaDoorW.PrintLast Go.Proofs.YtcpalnmodbbklaaDoorW.PrintMore

theorem wrap_id {x : Int} (h0 : -9223372036854775808 ≤ x) (h1 : x ≤ 9223372036854775807) : wrap64 x = x := by unfold wrap64; omega
theorem wrap_succ {i n : Nat} (h : i < n) (hn : n ≤ 140737488355328) : wrap64 ((i : Int) + 1) = ((i + 1 : Nat) : Int) := by unfold wrap64; omega
theorem rdW_at {l : List SW} {i : Nat} (h : i < l.length) : rd_T36 l (i : Int) = l[i] := by simp [rd_T36, List.getD_eq_getElem?_getD, List.getElem?_eq_getElem h]
/-- how many of a list's first have such a line -/
def runLn (n : Int) : List SW → Nat
  | [] => 0
  | x :: r => if x.f2 = n then runLn n r + 1 else 0
theorem runLn_le (n : Int) : ∀ l, runLn n l ≤ l.length
  | [] => Nat.le_refl _
  | x :: r => by
    unfold runLn
    have := runLn_le n r
    split <;> simp <;> omega
theorem line_loop (l : List SW) (i : Nat) (hi : i < l.length) (hl : l.length ≤ 140737488355327) : ∀ (d k j : Nat), j + d = l.length - i → d < k → ∀ m : Nat, m ≤ j →
    scan_Line.l0 k l (i : Int) (m : Int) (l.drop i) ((l.drop i).length : Int) (j : Int) = some (((m + runLn l[i].f2 (l.drop (i + j)) : Nat)) : Int) := by
  intro d
  induction d with
  | zero =>
    intro k j h hk m hm
    obtain ⟨k, rfl⟩ : ∃ q, k = q + 1 := ⟨k - 1, by omega⟩
    simp only [scan_Line.l0]
    rw [if_neg (by rw [List.length_drop]; omega), List.drop_of_length_le (by omega)]
    rfl
  | succ d ih =>
    intro k j h hk m hm
    obtain ⟨k, rfl⟩ : ∃ q, k = q + 1 := ⟨k - 1, by omega⟩
    have hj : i + j < l.length := by omega
    have hx : rd_T36 (l.drop i) (j : Int) = l[i + j] := by rw [rdW_at (by rw [List.length_drop]; omega)]; simp
    simp only [scan_Line.l0]
    rw [if_pos (by rw [List.length_drop]; omega), if_pos (by omega), if_pos (by rw [List.length_drop]; omega), if_pos (by omega), if_pos (by omega), hx, rdW_at hi]
    rw [List.drop_eq_getElem_cons hj]
    unfold runLn
    by_cases he : l[i + j].f2 = l[i].f2
    · rw [if_pos he, if_pos he, wrap_succ (n := l.length + 1) (by omega) (by omega), wrap_succ (n := l.length + 1) (by omega) (by omega), ih k (j + 1) (by omega) (by omega) (m + 1) (by omega)]
      congr 1
      rw [show i + (j + 1) = i + j + 1 by omega]
      omega
    · rw [if_neg he, if_neg he]
      rfl
/-- what Line comes to -/
def lineN (l : List SW) (i : Nat) : Nat := if h : i < l.length then runLn l[i].f2 (l.drop i) else 0
theorem line_f (l : List SW) (i : Nat) (k : Nat) (hl : l.length ≤ 140737488355327) (hk : l.length + 2 ≤ k) : scan_Line.f k l (i : Int) = some (lineN l i : Int) := by
  obtain ⟨k, rfl⟩ : ∃ q, k = q + 1 := ⟨k - 1, by omega⟩
  unfold scan_Line.f
  rw [if_neg (by omega)]
  by_cases hi : i < l.length
  · rw [decide_eq_false (by omega)]
    simp only [scan_Line.j0]
    rw [if_neg (by simp), if_pos (by omega), if_pos (by omega), Int.toNat_natCast]
    have := line_loop l i hi hl (l.length - i) k 0 (by omega) (by omega) 0 (Nat.le_refl _)
    simp only [Option.bind_some]
    unfold lineN
    rw [dif_pos hi]
    simpa using this
  · rw [decide_eq_true (by omega)]
    simp only [scan_Line.j0]
    rw [if_pos trivial]
    unfold lineN
    rw [dif_neg hi]
    rfl
theorem line_neg (l : List SW) (i : Int) (k : Nat) (h : i < 0) : scan_Line.f (k + 1) l i = some 0 := by
  unfold scan_Line.f
  rw [if_pos h]
  simp only [scan_Line.j0]
  rw [if_pos trivial]
end Go.Proofs.YtcpalnmodbbklaaDoor.P
