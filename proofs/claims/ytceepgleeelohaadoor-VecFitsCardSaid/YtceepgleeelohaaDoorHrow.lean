import Derived.Test.YtceepgleeelohaaDoorHv2
import Derived.ProofKit
import Derived.OpenShut
import Derived.Laws.IdiomArrays
/- Rows of five places as arguments: what they are, what they read as. -/
namespace Go.Proofs.YtceepgleeelohaaDoor.P
set_option linter.unusedVariables false
set_option maxRecDepth 100000
open Go.ChangeShapes Go.WideShapes Go.ChangeAt Go.RowKit
section
variable {H : Type} {enc : TypeId × Value → H} {w : World} {base : Nat} {sp : Nat → Bool} {held : Bool}
theorem list5 {α : Type} (l : List α) (h : l.length = 5) : ∃ a b c d e, l = [a, b, c, d, e] := by
  match l, h with
  | [a, b, c, d, e], _ => exact ⟨a, b, c, d, e, rfl⟩
theorem cells3 : Tryd.prog.cellsOf 3 = 1 := by kernel_rfl
theorem cells23 : Tryd.prog.cellsOf 23 = 5 := by kernel_rfl
abbrev wfI (x : Int) : Prop := (Lit.int .i64 x).wf = true
theorem trod_v {fuel : Nat} {cs : List Value} {x : DataW H × List MemPlace} (hl : cs.length = 5) (h : DataW.trod enc Tryd.prog w base sp held fuel 23 cs = some x) :
    ∃ a b c d e : Int, cs = [.int .i64 a, .int .i64 b, .int .i64 c, .int .i64 d, .int .i64 e] ∧ x = (.agg [.lit (.int .i64 a), .lit (.int .i64 b), .lit (.int .i64 c), .lit (.int .i64 d), .lit (.int .i64 e)], []) ∧ wfI a ∧ wfI b ∧ wfI c ∧ wfI d ∧ wfI e := by
  obtain ⟨c0, c1, c2, c3, c4, rfl⟩ := list5 cs hl
  cases fuel with
  | zero => simp [DataW.trod] at h
  | succ n =>
    unfold DataW.trod at h
    rw [Tryd.underlying23] at h
    have r5 : List.range 5 = [0, 1, 2, 3, 4] := rfl
    simp [r5, cells3] at h
    obtain ⟨_, h⟩ := h
    cases h0 : DataW.trod enc Tryd.prog w base sp held n 3 [c0] with
    | none => simp [h0] at h
    | some y0 =>
    cases h1 : DataW.trod enc Tryd.prog w base sp held n 3 [c1] with
    | none => simp [h0, h1] at h
    | some y1 =>
    cases h2 : DataW.trod enc Tryd.prog w base sp held n 3 [c2] with
    | none => simp [h0, h1, h2] at h
    | some y2 =>
    cases h3 : DataW.trod enc Tryd.prog w base sp held n 3 [c3] with
    | none => simp [h0, h1, h2, h3] at h
    | some y3 =>
    cases h4 : DataW.trod enc Tryd.prog w base sp held n 3 [c4] with
    | none => simp [h0, h1, h2, h3, h4] at h
    | some y4 =>
      obtain ⟨a, e0, rfl, w0⟩ := DataW.trod_int Tryd.underlying3 h0
      obtain ⟨b, e1, rfl, w1⟩ := DataW.trod_int Tryd.underlying3 h1
      obtain ⟨c, e2, rfl, w2⟩ := DataW.trod_int Tryd.underlying3 h2
      obtain ⟨d, e3, rfl, w3⟩ := DataW.trod_int Tryd.underlying3 h3
      obtain ⟨e, e4, rfl, w4⟩ := DataW.trod_int Tryd.underlying3 h4
      simp at e0 e1 e2 e3 e4
      subst e0 e1 e2 e3 e4
      simp [h0, h1, h2, h3, h4] at h
      exact ⟨a, b, c, d, e, rfl, h.symm, w0, w1, w2, w3, w4⟩
theorem open_v {v : Value} {d : DataW H} {p : List MemPlace} (hok : Value.okWide Tryd.prog w .any base 23 v) {b0 : Nat} (h : DataW.Trod enc Tryd.prog w b0 sp held 23 v d p) :
    ∃ a b c d' e : Int, v = .agg #[.int .i64 a, .int .i64 b, .int .i64 c, .int .i64 d', .int .i64 e] ∧ d = .agg [.lit (.int .i64 a), .lit (.int .i64 b), .lit (.int .i64 c), .lit (.int .i64 d'), .lit (.int .i64 e)] ∧ p = [] ∧ wfI a ∧ wfI b ∧ wfI c ∧ wfI d' ∧ wfI e := by
  obtain ⟨cs, rfl, hsz, _⟩ : ∃ cs, v = .agg cs ∧ cs.size = Tryd.prog.cellsOf 23 ∧ Row.okWide Tryd.prog w .any base 23 cs := by
    simpa [Value.okWide, Tryd.underlying23] using hok
  rw [cells23] at hsz
  obtain ⟨l⟩ := cs
  obtain ⟨fuel, hf⟩ := h
  obtain ⟨a, b, c, d', e, hcs, hx, h0, h1, h2, h3, h4⟩ := trod_v (cs := l) (by simpa using hsz) hf
  subst hcs
  simp only [Prod.mk.injEq] at hx
  exact ⟨a, b, c, d', e, rfl, hx.1, hx.2, h0, h1, h2, h3, h4⟩
theorem shut_v {a b c d e : Int} (h0 : wfI a) (h1 : wfI b) (h2 : wfI c) (h3 : wfI d) (h4 : wfI e) : DataW.Trod enc Tryd.prog w base sp held 23 (.agg #[.int .i64 a, .int .i64 b, .int .i64 c, .int .i64 d, .int .i64 e]) (.agg [.lit (.int .i64 a), .lit (.int .i64 b), .lit (.int .i64 c), .lit (.int .i64 d), .lit (.int .i64 e)]) [] :=
  ⟨2, by simp [DataW.trod, Value.cells, Tryd.underlying23, Tryd.underlying3, cells23, cells3, h0, h1, h2, h3, h4, show List.range 5 = [0, 1, 2, 3, 4] from rfl]⟩
theorem wf_bd {x : Int} (h : wfI x) : -9223372036854775808 ≤ x ∧ x ≤ 9223372036854775807 := by
  unfold wfI Lit.wf at h
  have hmin : IntKind.i64.min = -9223372036854775808 := rfl
  have hmax : IntKind.i64.max = 9223372036854775807 := rfl
  simp only [Bool.and_eq_true, decide_eq_true_eq] at h
  omega
end
end Go.Proofs.YtceepgleeelohaaDoor.P
