import Derived.Test.YtceepgleeelohaaDoorP0
import Derived.Test.YtceepgleeelohaaDoorShelf
import Derived.Maps.Views
import Derived.Maps.Range
import Derived.Sort.KeysCollected
/- quant.suffixes: the map of suffixes, and how it reads. -/
namespace Go.Proofs.YtceepgleeelohaaDoor.P
set_option linter.unusedVariables false
set_option linter.unusedSimpArgs false
open Go.RowKit Go.Maps Go.Proofs.YtceepgleeelohaaDoorW.PrintWords Go.Proofs.YtceepgleeelohaaDoorW.PrintLast Go.Proofs.YtceepgleeelohaaDoorW.PrintMore
/-- each suffix, by how much it multiplies, in thousandths -/
def sufE : List (List UInt8 × Int) := [([], 1000), ([71], 1000000000000), ([71, 105], 1073741824000), ([75, 105], 1024000), ([77], 1000000000), ([77, 105], 1048576000), ([107], 1000000), ([109], 1)]
def sufV (x : List UInt8) : Option Int := (sufE.find? (fun p => p.1 == x)).map (·.2)
def SUF : DataW Unit := .map (sufE.map fun p => (.string p.1, .lit (.int .i64 p.2)))
theorem suf_puts : (((((((((.map [] : DataW Unit).put (.string []) (.lit (.int .i64 1000))).put (.string [109]) (.lit (.int .i64 1))).put (.string [107]) (.lit (.int .i64 1000000))).put (.string [77]) (.lit (.int .i64 1000000000))).put (.string [71]) (.lit (.int .i64 1000000000000))).put (.string [75, 105]) (.lit (.int .i64 1024000))).put (.string [77, 105]) (.lit (.int .i64 1048576000))).put (.string [71, 105]) (.lit (.int .i64 1073741824000))) = SUF := by kernel_rfl
theorem atKey_map (x : List UInt8) (zd : DataW Unit) : ∀ es : List (List UInt8 × Int), (DataW.map (es.map fun p => ((.string p.1, .lit (.int .i64 p.2)) : Lit × DataW Unit))).atKey (.string x) zd = (match es.find? (fun p => p.1 == x) with | some p => .lit (.int .i64 p.2) | none => zd)
  | [] => rfl
  | p :: r => by
    have ih := atKey_map x zd r
    unfold DataW.atKey at ih ⊢
    simp only [List.map_cons, List.find?_cons] at ih ⊢
    have e : (Lit.string p.1).sameKey (.string x) = (p.1 == x) := rfl
    rw [e]
    cases p.1 == x with
    | true => rfl
    | false => exact ih
theorem suf_at (x : List UInt8) : SUF.atKey (.string x) (.lit (.int .i64 0)) = .lit (.int .i64 ((sufV x).getD 0)) := by
  unfold SUF sufV
  rw [atKey_map]
  cases sufE.find? (fun p => p.1 == x) <;> rfl
theorem suf_none (x : List UInt8) (h : ∀ zd, SUF.atKey (.string x) zd = zd) : sufV x = none := by
  have h1 := h (.lit (.bool true))
  unfold SUF at h1
  rw [atKey_map] at h1
  unfold sufV
  cases hf : sufE.find? (fun p => p.1 == x) with
  | none => rfl
  | some p => rw [hf] at h1; cases h1
theorem suf_some (x : List UInt8) (y : DataW Unit) (h : ∀ zd, SUF.atKey (.string x) zd = y) : (sufV x).isSome = true := by
  have h1 := h (.lit (.bool true))
  have h2 := h (.lit (.bool false))
  unfold SUF at h1 h2
  rw [atKey_map] at h1 h2
  unfold sufV
  cases hf : sufE.find? (fun p => p.1 == x) with
  | none => rw [hf] at h1 h2; rw [← h2] at h1; cases h1
  | some p => rfl
theorem suf_keys : strKeys SUF = sufE.map (·.1) := by kernel_rfl
theorem suf_size : Maps.size SUF = 8 := by kernel_rfl
theorem law9 : Keyed Tryd.prog 9 := string_keyed Tryd.underlying9
theorem keyS {s : ByteArray} (h : s.size ≤ maxLen) : keyOf Tryd.prog 9 (.string s) = some (.string s.data.toList) := by
  simp [keyOf, Tryd.underlying9, mapKey, h]
theorem zero3 (w : World) : (zeroValue 3).run Tryd.prog w = .ok (.int .i64 0) w := by kernel_rfl
abbrev IsSuf (w : World) (b : Nat) : Prop := w.ownsMap Tryd.prog 9 (plainElem (H := Unit) Tryd.prog 3) b 8 SUF
theorem IsSuf.below {w W : World} {b B : Nat} (h : IsSuf w b) (hb : Below B w W) (hB : b < B) : IsSuf W b := by
  obtain ⟨es, clock, h1, F, hs, hD⟩ := h
  exact ⟨es, clock, (hb.block b hB).trans h1, F, hs, hD⟩
set_option maxRecDepth 100000 in
theorem suf_look {w : World} {b : Nat} (h : IsSuf w b) (s : ByteArray) (hs : s.size ≤ maxLen) : (Instr.lookup 82 (.map (some b)) (.string s) false).run Tryd.prog w = .ok (.int .i64 ((sufV s.data.toList).getD 0)) w := by
  obtain ⟨c, hrun, hat, _⟩ := h.lookup_int law9 Tryd.underlying82 Tryd.underlying3 (zero3 w) (keyS hs)
  rw [suf_at] at hat
  injection hat with hat
  injection hat with _ hat
  rw [hrun, ← hat]
set_option maxRecDepth 100000 in
theorem suf_ok {w : World} {b : Nat} (h : IsSuf w b) (s : ByteArray) (hs : s.size ≤ maxLen) : ∃ c, (Instr.lookup 82 (.map (some b)) (.string s) true).run Tryd.prog w = .ok (.tuple #[.int .i64 c, .bool (sufV s.data.toList).isSome]) w := by
  obtain ⟨es, clock, hb, F, _, hD⟩ := h
  rcases Maps.fit_look true law9 Tryd.underlying82 (zero3 w) hb F (keyS hs) with ⟨hrun, _, hat⟩ | ⟨e0, y, _, _, hrun, hR, hat, _⟩
  · rw [← hD] at hat
    rw [suf_none _ hat]
    exact ⟨0, hrun⟩
  · rw [← hD] at hat
    rw [suf_some _ _ hat]
    obtain ⟨a, ha, _⟩ := plainElem_int_inv Tryd.underlying3 hR
    rw [ha] at hrun
    exact ⟨a, hrun⟩

set_option maxRecDepth 100000 in
set_option maxHeartbeats 1600000 in
theorem suffixes_calls (w : World) : Calls Tryd.prog 60 #[] w fun e w' => ∃ b, e = .returned (.map (some b)) ∧ w.heap.size ≤ b ∧ IsSuf w' b ∧ Below w.heap.size w w' := by
  obtain ⟨b, hb⟩ : ∃ b, w.heap.size = b := ⟨_, rfl⟩
  obtain ⟨W0, hW0⟩ : ∃ W0, w.alloc (.map #[] 0) = W0 := ⟨_, rfl⟩
  have hown0 : W0.ownsMap Tryd.prog 9 (plainElem (H := Unit) Tryd.prog 3) b 0 (.map []) := by
    rw [← hW0, ← hb]
    exact World.ownsMap_made (H := Unit) w Tryd.prog 9 (plainElem Tryd.prog 3)
  have hB0 : Below b w W0 := by rw [← hW0, ← hb]; exact below_alloc (Below.refl _ _) _
  have hlt := hown0.lt
  obtain ⟨W1, r1, hown1, g1⟩ := hown0.update law9 Tryd.underlying82 (by unfold maxLen; omega) (keyS (s := (⟨#[]⟩ : ByteArray)) (by unfold maxLen; decide)) (plainElem_int Tryd.underlying3 (a := 1000) (by decide))
  have q1 := g1.size
  obtain ⟨W2, r2, hown2, g2⟩ := hown1.update law9 Tryd.underlying82 (by unfold maxLen; omega) (keyS (s := (⟨#[109]⟩ : ByteArray)) (by unfold maxLen; decide)) (plainElem_int Tryd.underlying3 (a := 1) (by decide))
  have q2 := g2.size
  obtain ⟨W3, r3, hown3, g3⟩ := hown2.update law9 Tryd.underlying82 (by unfold maxLen; omega) (keyS (s := (⟨#[107]⟩ : ByteArray)) (by unfold maxLen; decide)) (plainElem_int Tryd.underlying3 (a := 1000000) (by decide))
  have q3 := g3.size
  obtain ⟨W4, r4, hown4, g4⟩ := hown3.update law9 Tryd.underlying82 (by unfold maxLen; omega) (keyS (s := (⟨#[77]⟩ : ByteArray)) (by unfold maxLen; decide)) (plainElem_int Tryd.underlying3 (a := 1000000000) (by decide))
  have q4 := g4.size
  obtain ⟨W5, r5, hown5, g5⟩ := hown4.update law9 Tryd.underlying82 (by unfold maxLen; omega) (keyS (s := (⟨#[71]⟩ : ByteArray)) (by unfold maxLen; decide)) (plainElem_int Tryd.underlying3 (a := 1000000000000) (by decide))
  have q5 := g5.size
  obtain ⟨W6, r6, hown6, g6⟩ := hown5.update law9 Tryd.underlying82 (by unfold maxLen; omega) (keyS (s := (⟨#[75, 105]⟩ : ByteArray)) (by unfold maxLen; decide)) (plainElem_int Tryd.underlying3 (a := 1024000) (by decide))
  have q6 := g6.size
  obtain ⟨W7, r7, hown7, g7⟩ := hown6.update law9 Tryd.underlying82 (by unfold maxLen; omega) (keyS (s := (⟨#[77, 105]⟩ : ByteArray)) (by unfold maxLen; decide)) (plainElem_int Tryd.underlying3 (a := 1048576000) (by decide))
  have q7 := g7.size
  obtain ⟨W8, r8, hown8, g8⟩ := hown7.update law9 Tryd.underlying82 (by unfold maxLen; omega) (keyS (s := (⟨#[71, 105]⟩ : ByteArray)) (by unfold maxLen; decide)) (plainElem_int Tryd.underlying3 (a := 1073741824000) (by decide))
  have q8 := g8.size
  have hr : ∀ k, some b = some k → b ≤ k := by intro k e; cases e; omega
  have hB8 : Below b w W8 := by
    have h1 := pw_below_grown hB0 _ (by omega) g1 hr
    have h2 := pw_below_grown h1 _ (by omega) g2 hr
    have h3 := pw_below_grown h2 _ (by omega) g3 hr
    have h4 := pw_below_grown h3 _ (by omega) g4 hr
    have h5 := pw_below_grown h4 _ (by omega) g5 hr
    have h6 := pw_below_grown h5 _ (by omega) g6 hr
    have h7 := pw_below_grown h6 _ (by omega) g7 hr
    have h8 := pw_below_grown h7 _ (by omega) g8 hr
    exact h8
  have hS : IsSuf W8 b := by
    have h := hown8
    have e := suf_puts
    unfold IsSuf
    rw [← e]
    exact h
  have HB := Aside0.mk (And.intro hS hB8)
  have hmm : (Instr.makeMap 82 none).run Tryd.prog w = .ok (.map (some b)) W0 := by
    rw [run_makeMap, hW0, hb]
  clear hown0 hown1 hown2 hown3 hown4 hown5 hown6 hown7 hown8 g1 g2 g3 g4 g5 g6 g7 g8 q1 q2 q3 q4 q5 q6 q7 q8 hB0 hW0 hlt hS hB8 hr
  go_enter Tryd.func60, Tryd.ntmps60
  go_wp2_with fail
  go_ret
  exact ⟨b, rfl, by omega, HB.out.1, by rw [hb]; exact HB.out.2⟩
end Go.Proofs.YtceepgleeelohaaDoor.P
