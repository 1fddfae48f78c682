import Derived.Test.YtagkgddkpnbfoaaP0
namespace Go.Proofs.Ytagkgddkpnbfoaa.P
set_option linter.unusedVariables false
set_option linter.unusedSimpArgs false
open Go.RowKit Go.Proofs.YtagkgddkpnbfoaaW.PrintWords Go.Proofs.YtagkgddkpnbfoaaW.PrintLast Go.Proofs.YtagkgddkpnbfoaaW.PrintMore

theorem bcell {W w1 : World} (hb : Below W.heap.size W w1) : (∀ b o, b < W.heap.size → w1.cell? ⟨b, o, none⟩ = W.cell? ⟨b, o, none⟩) ∧ (∀ b o, b < W.heap.size → w1.frozen? ⟨b, o, none⟩ = W.frozen? ⟨b, o, none⟩) :=
 ⟨fun b o h => hb.cell (p := ⟨b, o, none⟩) h, fun b o h => hb.frozen (p := ⟨b, o, none⟩) h⟩
def okNode (n : Int) : Bool := decide (-1 ≤ n) && decide (n ≤ 7)
def okStep (x : S49) : Bool := decide (1 ≤ x.f0) && decide (x.f0 ≤ 2) && (decide (0 ≤ x.f1) && decide (x.f1 ≤ 23)) && (decide (0 ≤ x.f2) && decide (x.f2 ≤ 7)) && !(decide (x.f0 = 1) && !decide (x.f2 = 0))
def okPlan (pl : List Int) (st : List S49) : Bool := decide (pl.length ≤ 24) && decide (st.length ≤ 255) && pl.all okNode && st.all okStep
def okRec (k n m : Int) (pl : List Int) (st : List S49) : Bool :=
 if k = 1 then decide (n = 0) && decide (m = 0) && okPlan pl st
 else decide (2 ≤ k) && decide (k ≤ 6) && (decide (pl.length = 0) && decide (st.length = 0)) && (decide (0 ≤ n) && decide (n ≤ 65535)) && (decide (0 ≤ m) && decide (m ≤ 65535)) && (!decide (k = 6) || decide (1 ≤ n) && decide (n ≤ 3))
def journal_Check.f (k n m : Int) (pl : List Int) (st : List S49) : Option Int := some (if okRec k n m pl st = true then 0 else 2)
def firstBad {α : Type} (p : α → Bool) : List α → Nat → Int
 | [], _ => -1
 | x :: r, i => if p x = true then firstBad p r (i + 1) else i
theorem firstBad_ge {α : Type} (p : α → Bool) (l : List α) : ∀ i, decide (0 ≤ firstBad p l i) = !l.all p := by
 induction l with
 | nil => intro i; simp [firstBad]
 | cons x r ih =>
  intro i
  cases hx : p x with
  | true => simp only [firstBad, hx, if_true, List.all_cons, Bool.true_and]; exact ih (i + 1)
  | false => simp only [firstBad, hx, List.all_cons, Bool.false_and]; simp
end Go.Proofs.Ytagkgddkpnbfoaa.P
