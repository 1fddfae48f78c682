import Derived.Test.YtceepgleeelohaaDoorHv20
import Derived.Test.YtceepgleeelohaaDoorHrow
import Derived.ChangeArms
import Derived.ChangeSlices
import Derived.DataReads
/- VecFits: what comes in, and the plain law. -/
namespace Go.Proofs.YtceepgleeelohaaDoor.P
set_option linter.unusedVariables false
set_option linter.unusedSimpArgs false
set_option maxRecDepth 100000
open Go.ChangeShapes Go.WideShapes Go.ChangeAt Go.RowKit Go.Proofs.YtceepgleeelohaaDoorW.PrintWords Go.Proofs.YtceepgleeelohaaDoorW.PrintLast Go.Proofs.YtceepgleeelohaaDoorW.PrintMore
section
variable {H : Type} {enc : TypeId × Value → H} {w : World} {base : Nat} {sp : Nat → Bool} {held : Bool}
structure V.wf3 (v : V) : Prop where mk :: (out : wfI v.a ∧ wfI v.b ∧ wfI v.c ∧ wfI v.d ∧ wfI v.e)
theorem cells24 : Tryd.prog.cellsOf 24 = 15 := by kernel_rfl
theorem list15 {α : Type} (l : List α) (h : l.length = 15) : ∃ a b c d e a' b' c' d' e' a'' b'' c'' d'' e'', l = [a, b, c, d, e, a', b', c', d', e', a'', b'', c'', d'', e''] := by
  match l, h with
  | [a, b, c, d, e, a', b', c', d', e', a'', b'', c'', d'', e''], _ => exact ⟨a, b, c, d, e, a', b', c', d', e', a'', b'', c'', d'', e'', rfl⟩
theorem open_v3 {v : Value} {d_ : DataW H} {p : List MemPlace} (hok : Value.okWide Tryd.prog w .any base 24 v) {b0 : Nat} (h : DataW.Trod enc Tryd.prog w b0 sp held 24 v d_ p) :
    ∃ a b c d e a' b' c' d' e' a'' b'' c'' d'' e'' : Int, v = .agg #[.int .i64 a, .int .i64 b, .int .i64 c, .int .i64 d, .int .i64 e, .int .i64 a', .int .i64 b', .int .i64 c', .int .i64 d', .int .i64 e', .int .i64 a'', .int .i64 b'', .int .i64 c'', .int .i64 d'', .int .i64 e''] ∧ d_ = .agg [.agg [.lit (.int .i64 a), .lit (.int .i64 b), .lit (.int .i64 c), .lit (.int .i64 d), .lit (.int .i64 e)], .agg [.lit (.int .i64 a'), .lit (.int .i64 b'), .lit (.int .i64 c'), .lit (.int .i64 d'), .lit (.int .i64 e')], .agg [.lit (.int .i64 a''), .lit (.int .i64 b''), .lit (.int .i64 c''), .lit (.int .i64 d''), .lit (.int .i64 e'')]] ∧ p = [] ∧ V.wf3 ⟨a, b, c, d, e⟩ ∧ V.wf3 ⟨a', b', c', d', e'⟩ ∧ V.wf3 ⟨a'', b'', c'', d'', e''⟩ := by
  obtain ⟨cs, rfl, hsz, _⟩ : ∃ cs, v = .agg cs ∧ cs.size = Tryd.prog.cellsOf 24 ∧ Row.okWide Tryd.prog w .any base 24 cs := by
    simpa [Value.okWide, Tryd.underlying24] using hok
  rw [cells24] at hsz
  obtain ⟨l⟩ := cs
  obtain ⟨fuel, hf⟩ := h
  obtain ⟨c0, c1, c2, c3, c4, c5, c6, c7, c8, c9, c10, c11, c12, c13, c14, rfl⟩ := list15 l (by simpa using hsz)
  cases fuel with
  | zero => simp [DataW.trod] at hf
  | succ n =>
    unfold DataW.trod at hf
    rw [Tryd.underlying24] at hf
    have r3 : List.range 3 = [0, 1, 2] := rfl
    simp [r3, cells23, Value.cells] at hf
    cases h0 : DataW.trod enc Tryd.prog w b0 sp held n 23 [c0, c1, c2, c3, c4] with
    | none => simp [h0] at hf
    | some y0 =>
    cases h1 : DataW.trod enc Tryd.prog w b0 sp held n 23 [c5, c6, c7, c8, c9] with
    | none => simp [h0, h1] at hf
    | some y1 =>
    cases h2 : DataW.trod enc Tryd.prog w b0 sp held n 23 [c10, c11, c12, c13, c14] with
    | none => simp [h0, h1, h2] at hf
    | some y2 =>
      obtain ⟨a, b, c, d, e, e0, rfl, w0, w1, w2, w3, w4⟩ := trod_v rfl h0
      obtain ⟨a', b', c', d', e', e1, rfl, v0, v1, v2, v3, v4⟩ := trod_v rfl h1
      obtain ⟨a'', b'', c'', d'', e'', e2, rfl, u0, u1, u2, u3, u4⟩ := trod_v rfl h2
      simp [h0, h1, h2] at hf
      simp at e0 e1 e2
      obtain ⟨rfl, rfl, rfl, rfl, rfl⟩ := e0
      obtain ⟨rfl, rfl, rfl, rfl, rfl⟩ := e1
      obtain ⟨rfl, rfl, rfl, rfl, rfl⟩ := e2
      exact ⟨a, b, c, d, e, a', b', c', d', e', a'', b'', c'', d'', e'', rfl, hf.2.1.symm, hf.2.2, ⟨w0, w1, w2, w3, w4⟩, ⟨v0, v1, v2, v3, v4⟩, ⟨u0, u1, u2, u3, u4⟩⟩
theorem shut_v3 {a b c d e a' b' c' d' e' a'' b'' c'' d'' e'' : Int} (hu : V.wf3 ⟨a, b, c, d, e⟩) (hv : V.wf3 ⟨a', b', c', d', e'⟩) (hz : V.wf3 ⟨a'', b'', c'', d'', e''⟩) : DataW.Trod enc Tryd.prog w base sp held 24 (.agg #[.int .i64 a, .int .i64 b, .int .i64 c, .int .i64 d, .int .i64 e, .int .i64 a', .int .i64 b', .int .i64 c', .int .i64 d', .int .i64 e', .int .i64 a'', .int .i64 b'', .int .i64 c'', .int .i64 d'', .int .i64 e'']) (.agg [.agg [.lit (.int .i64 a), .lit (.int .i64 b), .lit (.int .i64 c), .lit (.int .i64 d), .lit (.int .i64 e)], .agg [.lit (.int .i64 a'), .lit (.int .i64 b'), .lit (.int .i64 c'), .lit (.int .i64 d'), .lit (.int .i64 e')], .agg [.lit (.int .i64 a''), .lit (.int .i64 b''), .lit (.int .i64 c''), .lit (.int .i64 d''), .lit (.int .i64 e'')]]) [] := by
  obtain ⟨w0, w1, w2, w3, w4⟩ := hu.out
  obtain ⟨v0, v1, v2, v3, v4⟩ := hv.out
  obtain ⟨u0, u1, u2, u3, u4⟩ := hz.out
  dsimp only at w0 w1 w2 w3 w4 v0 v1 v2 v3 v4 u0 u1 u2 u3 u4
  exact ⟨3, by simp [DataW.trod, Value.cells, Tryd.underlying24, Tryd.underlying23, Tryd.underlying3, cells24, cells23, cells3, w0, w1, w2, w3, w4, v0, v1, v2, v3, v4, u0, u1, u2, u3, u4, show List.range 5 = [0, 1, 2, 3, 4] from rfl, show List.range 3 = [0, 1, 2] from rfl]⟩
end
/-- numbers below two to the thirty-six -/
abbrev sm1 (x : Int) : Prop := 0 ≤ x ∧ x < 68719476736
structure V.sm (v : V) : Prop where mk :: (out : sm1 v.a ∧ sm1 v.b ∧ sm1 v.c ∧ sm1 v.d ∧ sm1 v.e)
theorem V.sm.get {v : V} (h : v.sm) (i : Nat) : sm1 (v.get i) := by
  obtain ⟨h0, h1, h2, h3, h4⟩ := h.out
  unfold V.get
  split
  · exact h0
  · exact h1
  · exact h2
  · exact h3
  · exact h4
theorem V.sm.set {v : V} (h : v.sm) (i : Nat) {x : Int} (hx : sm1 x) : (v.set i x).sm := by
  obtain ⟨h0, h1, h2, h3, h4⟩ := h.out
  unfold V.set
  split
  · exact ⟨hx, h1, h2, h3, h4⟩
  · exact ⟨h0, hx, h2, h3, h4⟩
  · exact ⟨h0, h1, hx, h3, h4⟩
  · exact ⟨h0, h1, h2, hx, h4⟩
  · exact ⟨h0, h1, h2, h3, hx⟩
theorem QV_sm {l u v : V} (hu : u.sm) (hv : v.sm) : ∀ k, (QV l u v k).sm
  | 0 => hu
  | k + 1 => by
    have ih := QV_sm (l := l) hu hv k
    unfold QV
    split
    · refine ih.set k ?_
      split
      · exact hv.get k
      · exact ih.get k
    · exact ih
theorem sm_mod (x : Int) : sm1 (x % 68719476736) := by
  unfold sm1
  omega
theorem fits_iff (v u : V) : V.fits v u = true ↔ v.a ≤ u.a ∧ v.b ≤ u.b ∧ v.c ≤ u.c ∧ v.d ≤ u.d ∧ v.e ≤ u.e := by
  unfold V.fits
  by_cases h0 : u.a < v.a
  · rw [if_pos h0]; exact ⟨fun h => absurd h (by decide), fun h => absurd h.1 (by omega)⟩
  rw [if_neg h0]
  by_cases h1 : u.b < v.b
  · rw [if_pos h1]; exact ⟨fun h => absurd h (by decide), fun h => absurd h.2.1 (by omega)⟩
  rw [if_neg h1]
  by_cases h2 : u.c < v.c
  · rw [if_pos h2]; exact ⟨fun h => absurd h (by decide), fun h => absurd h.2.2.1 (by omega)⟩
  rw [if_neg h2]
  by_cases h3 : u.d < v.d
  · rw [if_pos h3]; exact ⟨fun h => absurd h (by decide), fun h => absurd h.2.2.2.1 (by omega)⟩
  rw [if_neg h3]
  by_cases h4 : u.e < v.e
  · rw [if_pos h4]; exact ⟨fun h => absurd h (by decide), fun h => absurd h.2.2.2.2 (by omega)⟩
  rw [if_neg h4]
  exact ⟨fun _ => ⟨by omega, by omega, by omega, by omega, by omega⟩, fun _ => rfl⟩
theorem over_b {x y : V} (hx : x.sm) (hy : y.sm) : ∀ k : Nat, k ≤ 5 → 0 ≤ V.overK x y k ∧ V.overK x y k ≤ 68719476736 * (k : Int) ∧ (V.overK x y k = 0 ↔ ∀ i, i < k → x.get i ≤ y.get i)
  | 0, _ => ⟨Int.le_refl _, Int.le_refl _, ⟨fun _ i hi => by omega, fun _ => rfl⟩⟩
  | k + 1, hk => by
    obtain ⟨h0, h1, h2⟩ := over_b hx hy k (by omega)
    have hg := hx.get k
    have hu := hy.get k
    have he : V.overK x y (k + 1) = if y.get k < x.get k then wrap64 (V.overK x y k + wrap64 (x.get k - y.get k)) else V.overK x y k := rfl
    rw [he]
    clear he
    generalize V.overK x y k = s at h0 h1 h2 ⊢
    unfold sm1 at hg hu
    by_cases c : y.get k < x.get k
    · rw [if_pos c, wrap64_id (x := x.get k - y.get k) (by omega) (by omega), wrap64_id (x := s + (x.get k - y.get k)) (by omega) (by omega)]
      refine ⟨by omega, by omega, ⟨fun h => by omega, fun h => ?_⟩⟩
      have := h k (by omega)
      omega
    · rw [if_neg c]
      refine ⟨h0, by omega, ⟨fun h i hi => ?_, fun h => h2.2 (fun i hi => h i (by omega))⟩⟩
      by_cases hik : i = k
      · rw [hik]; omega
      · exact h2.1 h i (by omega)
theorem sub_no {a b : Int} (ha : 0 ≤ a) (hb : 0 ≤ b) (h : a < b) : subS a b = (0, 2) := by
  unfold subS
  rw [if_pos (by omega)]
theorem sub_yes {a b : Int} (hb : 0 ≤ b) (h : b ≤ a) (ha : a ≤ 1099511627776) : subS a b = (a - b, 0) := by
  unfold subS
  rw [if_neg (by omega), if_neg (by omega)]
theorem sum_two {a b : Int} (ha : 0 ≤ a) (hb : 0 ≤ b) (h : a + b ≤ 1099511627776) : sumS [a, b] = (a + b, 0) := by
  unfold sumS
  have h1 : List.any [a, b] belowB = false := by
    unfold belowB
    simp [show ¬ a < 0 by omega, show ¬ b < 0 by omega]
  rw [if_neg (by rw [h1]; decide)]
  unfold addS
  rw [if_neg (by omega)]
  unfold addS
  rw [if_neg (by omega)]
  unfold addS
  rw [Int.zero_add]
theorem mul_two {a : Int} (h : sm1 a) : mulS a 2 = (a + a, 0) := by
  unfold sm1 at h
  unfold mulS
  rw [if_neg (by omega), if_neg (by omega), if_neg (by rw [show ((1099511627776 : Int) / 2) = 549755813888 from rfl, wrap64_id (by omega) (by omega)]; omega), wrap64_id (x := a * 2) (by omega) (by omega), show a * 2 = a + a by omega]
theorem minus_yes {y x : V} (h : V.fits x y = true) (hx : x.sm) (hm : y.a ≤ 1099511627776 ∧ y.b ≤ 1099511627776 ∧ y.c ≤ 1099511627776 ∧ y.d ≤ 1099511627776 ∧ y.e ≤ 1099511627776) :
    V.minus y x = (⟨y.a - x.a, y.b - x.b, y.c - x.c, y.d - x.d, y.e - x.e⟩, 0) := by
  obtain ⟨f0, f1, f2, f3, f4⟩ := (fits_iff x y).1 h
  obtain ⟨h0, h1, h2, h3, h4⟩ := hx.out
  obtain ⟨m0, m1, m2, m3, m4⟩ := hm
  unfold V.minus eachS
  simp only [V.get]
  rw [sub_yes h0.1 f0 m0, sub_yes h1.1 f1 m1, sub_yes h2.1 f2 m2, sub_yes h3.1 f3 m3, sub_yes h4.1 f4 m4]
  rfl
theorem minus_no {y x : V} (h : V.fits x y = false) (hx : x.sm) (hy : y.sm) : (V.minus y x).2 = 2 := by
  obtain ⟨h0, h1, h2, h3, h4⟩ := hx.out
  obtain ⟨u0, u1, u2, u3, u4⟩ := hy.out
  unfold sm1 at h0 h1 h2 h3 h4 u0 u1 u2 u3 u4
  have hn : ¬ (x.a ≤ y.a ∧ x.b ≤ y.b ∧ x.c ≤ y.c ∧ x.d ≤ y.d ∧ x.e ≤ y.e) := fun hh => by rw [(fits_iff x y).2 hh] at h; cases h
  unfold V.minus eachS
  simp only [V.get]
  by_cases c0 : y.a < x.a
  · rw [sub_no u0.1 h0.1 c0]; rfl
  rw [sub_yes h0.1 (by omega) (by omega), if_neg (by simp)]
  by_cases c1 : y.b < x.b
  · rw [sub_no u1.1 h1.1 c1]; rfl
  rw [sub_yes h1.1 (by omega) (by omega), if_neg (by simp)]
  by_cases c2 : y.c < x.c
  · rw [sub_no u2.1 h2.1 c2]; rfl
  rw [sub_yes h2.1 (by omega) (by omega), if_neg (by simp)]
  by_cases c3 : y.d < x.d
  · rw [sub_no u3.1 h3.1 c3]; rfl
  rw [sub_yes h3.1 (by omega) (by omega), if_neg (by simp)]
  by_cases c4 : y.e < x.e
  · rw [sub_no u4.1 h4.1 c4]; rfl
  exact absurd ⟨by omega, by omega, by omega, by omega, by omega⟩ hn
/-- place by place -/
def V.sum (x y : V) : V := ⟨x.a + y.a, x.b + y.b, x.c + y.c, x.d + y.d, x.e + y.e⟩
theorem plus_two {x y : V} (hx : 0 ≤ x.a ∧ 0 ≤ x.b ∧ 0 ≤ x.c ∧ 0 ≤ x.d ∧ 0 ≤ x.e) (hy : 0 ≤ y.a ∧ 0 ≤ y.b ∧ 0 ≤ y.c ∧ 0 ≤ y.d ∧ 0 ≤ y.e)
    (hs : x.a + y.a ≤ 1099511627776 ∧ x.b + y.b ≤ 1099511627776 ∧ x.c + y.c ≤ 1099511627776 ∧ x.d + y.d ≤ 1099511627776 ∧ x.e + y.e ≤ 1099511627776) : V.plus [x, y] = (V.sum x y, 0) := by
  obtain ⟨h0, h1, h2, h3, h4⟩ := hx
  obtain ⟨u0, u1, u2, u3, u4⟩ := hy
  obtain ⟨s0, s1, s2, s3, s4⟩ := hs
  unfold V.plus eachS
  simp only [List.map_cons, List.map_nil, V.get]
  rw [sum_two h0 u0 s0, sum_two h1 u1 s1, sum_two h2 u2 s2, sum_two h3 u3 s3, sum_two h4 u4 s4]
  rfl
theorem fitsP_of {x y z : V} (hx : x.sm) (hy : y.sm) : FitsP x y z := by
  obtain ⟨h0, h1, h2, h3, h4⟩ := hx.out
  obtain ⟨u0, u1, u2, u3, u4⟩ := hy.out
  unfold sm1 at h0 h1 h2 h3 h4 u0 u1 u2 u3 u4
  refine ⟨fun p q => ?_, ?_, ?_, ?_, ?_, ?_, ?_⟩
  · obtain ⟨p0, p1, p2, p3, p4⟩ := (fits_iff x y).1 p
    obtain ⟨q0, q1, q2, q3, q4⟩ := (fits_iff y z).1 q
    exact (fits_iff x z).2 ⟨Int.le_trans p0 q0, Int.le_trans p1 q1, Int.le_trans p2 q2, Int.le_trans p3 q3, Int.le_trans p4 q4⟩
  · exact (fits_iff x x).2 ⟨Int.le_refl _, Int.le_refl _, Int.le_refl _, Int.le_refl _, Int.le_refl _⟩
  · have ho := (over_b hx hy 5 (Nat.le_refl _)).2.2
    cases hf : V.fits x y with
    | true =>
      obtain ⟨p0, p1, p2, p3, p4⟩ := (fits_iff x y).1 hf
      have hz : V.overK x y 5 = 0 := ho.2 (fun i hi => by
        have h5 : i = 0 ∨ i = 1 ∨ i = 2 ∨ i = 3 ∨ i = 4 := by omega
        rcases h5 with rfl | rfl | rfl | rfl | rfl
        · exact p0
        · exact p1
        · exact p2
        · exact p3
        · exact p4)
      rw [hz]
      rfl
    | false =>
      have hz : V.overK x y 5 ≠ 0 := fun h => by
        have hh := ho.1 h
        rw [(fits_iff x y).2 ⟨hh 0 (by omega), hh 1 (by omega), hh 2 (by omega), hh 3 (by omega), hh 4 (by omega)⟩] at hf
        cases hf
      exact beq_eq_false_iff_ne.2 hz
  · cases hf : V.fits x y with
    | true => rw [minus_yes hf hx ⟨by omega, by omega, by omega, by omega, by omega⟩]; rfl
    | false => rw [minus_no hf hx hy]; rfl
  · refine ⟨V.sum x y, plus_two ⟨h0.1, h1.1, h2.1, h3.1, h4.1⟩ ⟨u0.1, u1.1, u2.1, u3.1, u4.1⟩ ⟨by omega, by omega, by omega, by omega, by omega⟩, ?_⟩
    rw [minus_yes ((fits_iff x (V.sum x y)).2 ⟨by unfold V.sum; dsimp only; omega, by unfold V.sum; dsimp only; omega, by unfold V.sum; dsimp only; omega, by unfold V.sum; dsimp only; omega, by unfold V.sum; dsimp only; omega⟩) hx ⟨by unfold V.sum; dsimp only; omega, by unfold V.sum; dsimp only; omega, by unfold V.sum; dsimp only; omega, by unfold V.sum; dsimp only; omega, by unfold V.sum; dsimp only; omega⟩]
    unfold V.sum
    obtain ⟨y0, y1, y2, y3, y4⟩ := y
    dsimp only
    rw [show x.a + y0 - x.a = y0 by omega, show x.b + y1 - x.b = y1 by omega, show x.c + y2 - x.c = y2 by omega, show x.d + y3 - x.d = y3 by omega, show x.e + y4 - x.e = y4 by omega]
  · intro he
    have hf : V.fits x y = true := by
      cases hf : V.fits x y with
      | true => rfl
      | false => rw [minus_no hf hx hy] at he; cases he
    obtain ⟨p0, p1, p2, p3, p4⟩ := (fits_iff x y).1 hf
    rw [minus_yes hf hx ⟨by omega, by omega, by omega, by omega, by omega⟩]
    dsimp only
    rw [plus_two (by dsimp only; omega) ⟨h0.1, h1.1, h2.1, h3.1, h4.1⟩ (by dsimp only; omega)]
    unfold V.sum
    obtain ⟨y0, y1, y2, y3, y4⟩ := y
    dsimp only
    rw [show y0 - x.a + x.a = y0 by omega, show y1 - x.b + x.b = y1 by omega, show y2 - x.c + x.c = y2 by omega, show y3 - x.d + x.d = y3 by omega, show y4 - x.e + x.e = y4 by omega]
  · refine ⟨V.sum x x, ?_, plus_two ⟨h0.1, h1.1, h2.1, h3.1, h4.1⟩ ⟨h0.1, h1.1, h2.1, h3.1, h4.1⟩ ⟨by omega, by omega, by omega, by omega, by omega⟩⟩
    obtain ⟨k0, k1, k2, k3, k4⟩ := hx.out
    unfold V.times eachS
    simp only [V.get]
    rw [mul_two k0, mul_two k1, mul_two k2, mul_two k3, mul_two k4]
    rfl
theorem vecFits_true (a b c d e a' b' c' d' e' a'' b'' c'' d'' e'' : Int) (w : World) (hT : Tb w) (hN : Nm w) :
    Calls Tryd.prog 3 #[.agg #[.int .i64 a, .int .i64 b, .int .i64 c, .int .i64 d, .int .i64 e, .int .i64 a', .int .i64 b', .int .i64 c', .int .i64 d', .int .i64 e', .int .i64 a'', .int .i64 b'', .int .i64 c'', .int .i64 d'', .int .i64 e'']] w fun e_ w' => e_ = .returned (.bool true) ∧ Below w.heap.size w w' :=
  vecFits_w a b c d e a' b' c' d' e' a'' b'' c'' d'' e'' w hT hN (fitsP_of ⟨sm_mod _, sm_mod _, sm_mod _, sm_mod _, sm_mod _⟩ (QV_sm ⟨sm_mod _, sm_mod _, sm_mod _, sm_mod _, sm_mod _⟩ ⟨sm_mod _, sm_mod _, sm_mod _, sm_mod _, sm_mod _⟩ 5))
end Go.Proofs.YtceepgleeelohaaDoor.P
