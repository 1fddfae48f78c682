import Derived.Test.YtceepgleeelohaaDoorHv14
/- VecShare's plain law: a row's share is that of its greatest place; of more it is no less. -/
namespace Go.Proofs.YtceepgleeelohaaDoor.P
set_option linter.unusedVariables false
set_option linter.unusedSimpArgs false
open Go.RowKit Go.Proofs.YtceepgleeelohaaDoorW.PrintWords Go.Proofs.YtceepgleeelohaaDoorW.PrintLast Go.Proofs.YtceepgleeelohaaDoorW.PrintMore
theorem qS_eq (x u : Int) (h0 : 0 ≤ x) (h1 : x ≤ 137438953472) (u0 : 1 ≤ u) : qS x u = x * 1000 / u := by
  unfold qS
  rw [wrap64_id (x := x * 1000) (by omega) (by omega), Int.tdiv_eq_ediv_of_nonneg (by omega)]
  have p0 : 0 ≤ x * 1000 / u := Int.ediv_nonneg (by omega) (by omega)
  have p1 : x * 1000 / u ≤ x * 1000 := Int.ediv_le_self _ (by omega)
  exact wrap64_id (x := x * 1000 / u) (by omega) (by omega)
theorem qS_nn (x u : Int) (h0 : 0 ≤ x) (h1 : x ≤ 137438953472) (u0 : 1 ≤ u) : 0 ≤ qS x u := by
  rw [qS_eq x u h0 h1 u0]
  exact Int.ediv_nonneg (by omega) (by omega)
theorem qS_le (x z u : Int) (h0 : 0 ≤ x) (hx : x ≤ z) (h1 : z ≤ 137438953472) (u0 : 1 ≤ u) : qS x u ≤ qS z u := by
  rw [qS_eq x u h0 (by omega) u0, qS_eq z u (by omega) h1 u0]
  exact Int.ediv_le_ediv (by omega) (by omega)
theorem sha_ok (x u : Int) (h0 : 0 ≤ x) (h1 : x ≤ 137438953472) (u0 : 1 ≤ u) (u1 : u ≤ 137438953472) : shaS x u = (qS x u, 0) := by
  unfold shaS
  rw [if_neg (by omega), if_neg (by omega), if_neg (by omega)]
  rfl
structure V.ok (v : V) : Prop where
  a : 0 ≤ v.a ∧ v.a ≤ 68719476742
  b : 0 ≤ v.b ∧ v.b ≤ 68719476742
  c : 0 ≤ v.c ∧ v.c ≤ 68719476742
  d : 0 ≤ v.d ∧ v.d ≤ 68719476742
  e : 0 ≤ v.e ∧ v.e ≤ 68719476742
structure V.pos (v : V) : Prop where
  a : 1 ≤ v.a ∧ v.a ≤ 68719476742
  b : 1 ≤ v.b ∧ v.b ≤ 68719476742
  c : 1 ≤ v.c ∧ v.c ≤ 68719476742
  d : 1 ≤ v.d ∧ v.d ≤ 68719476742
  e : 1 ≤ v.e ∧ v.e ≤ 68719476742
theorem shares_ok (x u : V) (hx : x.ok) (hu : u.pos) : V.shares x u = (⟨qS x.a u.a, qS x.b u.b, qS x.c u.c, qS x.d u.d, qS x.e u.e⟩, 0) := by
  have h0 := sha_ok x.a u.a hx.a.1 (by have := hx.a.2; omega) hu.a.1 (by have := hu.a.2; omega)
  have h1 := sha_ok x.b u.b hx.b.1 (by have := hx.b.2; omega) hu.b.1 (by have := hu.b.2; omega)
  have h2 := sha_ok x.c u.c hx.c.1 (by have := hx.c.2; omega) hu.c.1 (by have := hu.c.2; omega)
  have h3 := sha_ok x.d u.d hx.d.1 (by have := hx.d.2; omega) hu.d.1 (by have := hu.d.2; omega)
  have h4 := sha_ok x.e u.e hx.e.1 (by have := hx.e.2; omega) hu.e.1 (by have := hu.e.2; omega)
  unfold V.shares eachS
  show (if (shaS x.a u.a).2 ≠ 0 then _ else if (shaS x.b u.b).2 ≠ 0 then _ else if (shaS x.c u.c).2 ≠ 0 then _ else if (shaS x.d u.d).2 ≠ 0 then _ else if (shaS x.e u.e).2 ≠ 0 then _ else ((⟨(shaS x.a u.a).1, (shaS x.b u.b).1, (shaS x.c u.c).1, (shaS x.d u.d).1, (shaS x.e u.e).1⟩ : V), (0 : Int))) = _
  rw [h0, h1, h2, h3, h4]
  rfl
theorem max_is (a b c d e : Int) : V.max ⟨a, b, c, d, e⟩ = max (max (max (max (max a a) b) c) d) e := rfl
theorem mx_is (m q : Int) : mxS m q = max m q := by
  unfold mxS
  split <;> omega
theorem q_nn (x u : V) (hx : x.ok) (hu : u.pos) : 0 ≤ qS x.a u.a ∧ 0 ≤ qS x.b u.b ∧ 0 ≤ qS x.c u.c ∧ 0 ≤ qS x.d u.d ∧ 0 ≤ qS x.e u.e :=
  ⟨qS_nn _ _ hx.a.1 (by have := hx.a.2; omega) hu.a.1, qS_nn _ _ hx.b.1 (by have := hx.b.2; omega) hu.b.1, qS_nn _ _ hx.c.1 (by have := hx.c.2; omega) hu.c.1, qS_nn _ _ hx.d.1 (by have := hx.d.2; omega) hu.d.1, qS_nn _ _ hx.e.1 (by have := hx.e.2; omega) hu.e.1⟩
theorem most_is (x u : V) (hx : x.ok) (hu : u.pos) : V.max (V.shares x u).1 = mostS x u := by
  rw [shares_ok x u hx hu]
  obtain ⟨h0, h1, h2, h3, h4⟩ := q_nn x u hx hu
  unfold mostS
  simp only [mx_is]
  rw [max_is]
  generalize qS x.a u.a = q0 at *
  generalize qS x.b u.b = q1 at *
  generalize qS x.c u.c = q2 at *
  generalize qS x.d u.d = q3 at *
  generalize qS x.e u.e = q4 at *
  omega
theorem most_le (x z u : V) (hx : x.ok) (hz : z.ok) (hu : u.pos) (ha : x.a ≤ z.a) (hb : x.b ≤ z.b) (hc : x.c ≤ z.c) (hd : x.d ≤ z.d) (he : x.e ≤ z.e) : mostS x u ≤ mostS z u := by
  have h0 := qS_le x.a z.a u.a hx.a.1 ha (by have := hz.a.2; omega) hu.a.1
  have h1 := qS_le x.b z.b u.b hx.b.1 hb (by have := hz.b.2; omega) hu.b.1
  have h2 := qS_le x.c z.c u.c hx.c.1 hc (by have := hz.c.2; omega) hu.c.1
  have h3 := qS_le x.d z.d u.d hx.d.1 hd (by have := hz.d.2; omega) hu.d.1
  have h4 := qS_le x.e z.e u.e hx.e.1 he (by have := hz.e.2; omega) hu.e.1
  unfold mostS
  simp only [mx_is]
  generalize qS x.a u.a = q0 at *
  generalize qS x.b u.b = q1 at *
  generalize qS x.c u.c = q2 at *
  generalize qS x.d u.d = q3 at *
  generalize qS x.e u.e = q4 at *
  generalize qS z.a u.a = p0 at *
  generalize qS z.b u.b = p1 at *
  generalize qS z.c u.c = p2 at *
  generalize qS z.d u.d = p3 at *
  generalize qS z.e u.e = p4 at *
  omega
theorem set_ok (x : V) (hx : x.ok) (hl : x.a < 68719476736 ∧ x.b < 68719476736 ∧ x.c < 68719476736 ∧ x.d < 68719476736 ∧ x.e < 68719476736) (i : Nat) (hi : i < 5) :
    (x.set i (wrap64 (x.get i + 7))).ok ∧ x.a ≤ (x.set i (wrap64 (x.get i + 7))).a ∧ x.b ≤ (x.set i (wrap64 (x.get i + 7))).b ∧ x.c ≤ (x.set i (wrap64 (x.get i + 7))).c ∧ x.d ≤ (x.set i (wrap64 (x.get i + 7))).d ∧ x.e ≤ (x.set i (wrap64 (x.get i + 7))).e := by
  obtain ⟨a, b, c, d, e⟩ := x
  obtain ⟨h0, h1, h2, h3, h4⟩ := hx
  obtain ⟨l0, l1, l2, l3, l4⟩ := hl
  dsimp only at h0 h1 h2 h3 h4 l0 l1 l2 l3 l4
  have h5 : i = 0 ∨ i = 1 ∨ i = 2 ∨ i = 3 ∨ i = 4 := by omega
  rcases h5 with rfl | rfl | rfl | rfl | rfl
  · have hw : wrap64 (a + 7) = a + 7 := wrap64_id (by omega) (by omega)
    simp only [V.get, V.set, hw]
    exact ⟨⟨by dsimp only; omega, by dsimp only; omega, by dsimp only; omega, by dsimp only; omega, by dsimp only; omega⟩, by omega, by omega, by omega, by omega, by omega⟩
  · have hw : wrap64 (b + 7) = b + 7 := wrap64_id (by omega) (by omega)
    simp only [V.get, V.set, hw]
    exact ⟨⟨by dsimp only; omega, by dsimp only; omega, by dsimp only; omega, by dsimp only; omega, by dsimp only; omega⟩, by omega, by omega, by omega, by omega, by omega⟩
  · have hw : wrap64 (c + 7) = c + 7 := wrap64_id (by omega) (by omega)
    simp only [V.get, V.set, hw]
    exact ⟨⟨by dsimp only; omega, by dsimp only; omega, by dsimp only; omega, by dsimp only; omega, by dsimp only; omega⟩, by omega, by omega, by omega, by omega, by omega⟩
  · have hw : wrap64 (d + 7) = d + 7 := wrap64_id (by omega) (by omega)
    simp only [V.get, V.set, hw]
    exact ⟨⟨by dsimp only; omega, by dsimp only; omega, by dsimp only; omega, by dsimp only; omega, by dsimp only; omega⟩, by omega, by omega, by omega, by omega, by omega⟩
  · have hw : wrap64 (e + 7) = e + 7 := wrap64_id (by omega) (by omega)
    simp only [V.get, V.set, hw]
    exact ⟨⟨by dsimp only; omega, by dsimp only; omega, by dsimp only; omega, by dsimp only; omega, by dsimp only; omega⟩, by omega, by omega, by omega, by omega, by omega⟩
theorem vecShare_true (a b c d e a' b' c' d' e' k : Int) (w : World) (hT : Tb w) (hN : Nm w) :
    Calls Tryd.prog 6 #[.agg #[.int .i64 a, .int .i64 b, .int .i64 c, .int .i64 d, .int .i64 e], .agg #[.int .i64 a', .int .i64 b', .int .i64 c', .int .i64 d', .int .i64 e'], .int .i64 k] w fun e_ w' => e_ = .returned (.bool true) ∧ Below w.heap.size w w' := by
  have k0 := Int.emod_nonneg k (show (5 : Int) ≠ 0 by decide)
  have k1 := Int.emod_lt_of_pos k (show (0 : Int) < 5 by decide)
  obtain ⟨i, hi⟩ := Int.eq_ofNat_of_zero_le k0
  have hi5 : i < 5 := by omega
  have md : ∀ z : Int, 0 ≤ z % 68719476736 ∧ z % 68719476736 < 68719476736 := fun z => ⟨Int.emod_nonneg _ (by decide), Int.emod_lt_of_pos _ (by decide)⟩
  obtain ⟨X, hX⟩ : ∃ X : V, X = ⟨a % 68719476736, b % 68719476736, c % 68719476736, d % 68719476736, e % 68719476736⟩ := ⟨_, rfl⟩
  obtain ⟨Y, hY⟩ : ∃ X : V, X = ⟨a' % 68719476736, b' % 68719476736, c' % 68719476736, d' % 68719476736, e' % 68719476736⟩ := ⟨_, rfl⟩
  have X0 : X.ok ∧ (X.a < 68719476736 ∧ X.b < 68719476736 ∧ X.c < 68719476736 ∧ X.d < 68719476736 ∧ X.e < 68719476736) := by
    have ha := md a; have hb := md b; have hc := md c; have hd := md d; have he := md e
    rw [hX]
    exact ⟨⟨by dsimp only; omega, by dsimp only; omega, by dsimp only; omega, by dsimp only; omega, by dsimp only; omega⟩, by dsimp only; omega⟩
  have Y0 : (0 ≤ Y.a ∧ Y.a < 68719476736) ∧ (0 ≤ Y.b ∧ Y.b < 68719476736) ∧ (0 ≤ Y.c ∧ Y.c < 68719476736) ∧ (0 ≤ Y.d ∧ Y.d < 68719476736) ∧ (0 ≤ Y.e ∧ Y.e < 68719476736) := by
    rw [hY]
    exact ⟨md a', md b', md c', md d', md e'⟩
  obtain ⟨U, hU⟩ : ∃ U : V, U = ⟨wrap64 (Y.a + 1), wrap64 (Y.b + 1), wrap64 (Y.c + 1), wrap64 (Y.d + 1), wrap64 (Y.e + 1)⟩ := ⟨_, rfl⟩
  have U0 : U.pos := by
    obtain ⟨h0, h1, h2, h3, h4⟩ := Y0
    rw [hU, wrap64_id (by omega) (by omega), wrap64_id (by omega) (by omega), wrap64_id (by omega) (by omega), wrap64_id (by omega) (by omega), wrap64_id (by omega) (by omega)]
    exact ⟨by dsimp only; omega, by dsimp only; omega, by dsimp only; omega, by dsimp only; omega, by dsimp only; omega⟩
  obtain ⟨s0, s1, s2, s3, s4, s5⟩ := set_ok X X0.1 X0.2 i hi5
  refine vecShare_w a b c d e a' b' c' d' e' k w hT hN i hi5 hi X Y U hX hY hU ⟨by have := U0.a.1; omega, by have := U0.b.1; omega, by have := U0.c.1; omega, by have := U0.d.1; omega, by have := U0.e.1; omega⟩ _ ?_ (most_is X U X0.1 U0) ?_ (most_is _ U s0 U0) (most_le X _ U X0.1 s0 U0 s1 s2 s3 s4 s5)
  · rw [shares_ok X U X0.1 U0]
  · rw [shares_ok _ U s0 U0]
end Go.Proofs.YtceepgleeelohaaDoor.P
