import Derived.Test.YtceepgleeelohaaDoorHv18
import Derived.Test.YtceepgleeelohaaDoorHrow
import Derived.ChangeArms
import Derived.ChangeSlices
import Derived.DataReads
/- VecReckons: what comes in, and the plain law. -/
namespace Go.Proofs.YtceepgleeelohaaDoor.P
set_option linter.unusedVariables false
set_option linter.unusedSimpArgs false
set_option maxRecDepth 100000
open Go.ChangeShapes Go.WideShapes Go.ChangeAt Go.RowKit Go.Proofs.YtceepgleeelohaaDoorW.PrintWords Go.Proofs.YtceepgleeelohaaDoorW.PrintLast Go.Proofs.YtceepgleeelohaaDoorW.PrintMore
section
variable {H : Type} {enc : TypeId × Value → H} {w : World} {base : Nat} {sp : Nat → Bool} {held : Bool}
structure V.wf (v : V) : Prop where mk :: (out : wfI v.a ∧ wfI v.b ∧ wfI v.c ∧ wfI v.d ∧ wfI v.e)
theorem V.wf.le {v : V} (h : v.wf) (i : Nat) : -9223372036854775808 ≤ V.get v i ∧ V.get v i ≤ 9223372036854775807 := by
  obtain ⟨h0, h1, h2, h3, h4⟩ := h.out
  unfold V.get
  split
  · exact wf_bd h0
  · exact wf_bd h1
  · exact wf_bd h2
  · exact wf_bd h3
  · exact wf_bd h4
theorem add_lit (b o n : Nat) : (⟨b, o, none⟩ : Addr).add n = ⟨b, o + n, none⟩ := by
  unfold Addr.add
  split
  · rename_i h; rw [h]; rfl
  · rfl
theorem cell_lt {W : World} {a : Addr} {v : Value} (h : W.cell? a = some v) : a.block < W.heap.size := by
  unfold World.cell? at h
  rcases Nat.lt_or_ge a.block W.heap.size with h0 | h0
  · exact h0
  · rw [Array.getElem?_eq_none (by omega)] at h
    cases h
theorem open_vs {fuel : Nat} {cs : List Value} {x : DataW H × List MemPlace} (h : DataW.trod enc Tryd.prog w base sp held fuel 45 cs = some x) :
    ∃ (A : Option Addr) (cap : Nat) (vs : List V), cs = [.slice A vs.length cap] ∧ vs.length ≤ cap ∧ (vs ≠ [] → ∃ b o, A = some ⟨b, o, none⟩ ∧ Rws w b o vs) ∧ ∀ v ∈ vs, v.wf := by
  rcases DataW.trod_slice Tryd.underlying45 h with ⟨rfl, _⟩ | ⟨a, len, cap, elems, rest, n, _, rfl, _, hb, hl, hm, hlen, hel, _, _⟩
  · exact ⟨none, 0, [], rfl, Nat.le_refl _, fun h => absurd rfl h, fun v hv => by cases hv⟩
  rw [cells23] at hel
  have each : ∀ i : Nat, ∃ v : V, i < len → v.wf ∧ ∀ j, j < 5 → w.cell? (a.add (i * 5 + j)) = some (.int .i64 (v.get j)) := by
    intro i
    by_cases hi : i < len
    · have h1 := hel i hi
      rw [List.getElem?_eq_getElem (by omega), Option.bind_eq_some_iff] at h1
      obtain ⟨cs', hcs, hy⟩ := h1
      obtain ⟨_, hcl, hcell⟩ := World.cells?_some hcs
      obtain ⟨a0, a1, a2, a3, a4, rfl, _, w0, w1, w2, w3, w4⟩ := trod_v hcl hy
      refine ⟨⟨a0, a1, a2, a3, a4⟩, fun _ => ⟨⟨w0, w1, w2, w3, w4⟩, fun j hj => ?_⟩⟩
      have h2 := hcell j hj
      rw [Addr.add_add] at h2
      rw [h2]
      have h5 : j = 0 ∨ j = 1 ∨ j = 2 ∨ j = 3 ∨ j = 4 := by omega
      rcases h5 with rfl | rfl | rfl | rfl | rfl <;> rfl
    · exact ⟨⟨0, 0, 0, 0, 0⟩, fun h => absurd h hi⟩
  obtain ⟨f, hf⟩ := Classical.skolem.1 each
  refine ⟨some a, cap, (List.range len).map f, by simp, by simpa using hl, fun hne => ?_, fun v hv => ?_⟩
  · have h0 : 0 < len := by
      rcases Nat.eq_zero_or_pos len with h0 | h0
      · rw [h0] at hne; exact absurd rfl hne
      · exact h0
    have hc := (hf 0 h0).2 0 (by decide)
    have ha : a.add (0 * 5 + 0) = a := by unfold Addr.add; simp
    rw [ha] at hc
    have hs := World.cell?_spot hc
    have hlt := cell_lt hc
    obtain ⟨b, o, spot⟩ := a
    dsimp only at hs hlt
    subst hs
    refine ⟨b, o, rfl, ⟨hlt, fun k hk j hj => ?_⟩⟩
    have hk2 : k < len := by simpa using hk
    have hv : ((List.range len).map f)[k] = f k := by simp
    rw [hv, ← (hf k hk2).2 j hj, add_lit, Nat.add_assoc]
  · obtain ⟨k, hk, rfl⟩ := List.mem_map.1 hv
    exact (hf k (List.mem_range.1 hk)).1
theorem cells46 : Tryd.prog.cellsOf 46 = 10 := by kernel_rfl
theorem list10 {α : Type} (l : List α) (h : l.length = 10) : ∃ a b c d e a' b' c' d' e', l = [a, b, c, d, e, a', b', c', d', e'] := by
  match l, h with
  | [a, b, c, d, e, a', b', c', d', e'], _ => exact ⟨a, b, c, d, e, a', b', c', d', e', rfl⟩
theorem open_v2 {v : Value} {d_ : DataW H} {p : List MemPlace} (hok : Value.okWide Tryd.prog w .any base 46 v) {b0 : Nat} (h : DataW.Trod enc Tryd.prog w b0 sp held 46 v d_ p) :
    ∃ a b c d e a' b' c' d' e' : Int, v = .agg #[.int .i64 a, .int .i64 b, .int .i64 c, .int .i64 d, .int .i64 e, .int .i64 a', .int .i64 b', .int .i64 c', .int .i64 d', .int .i64 e'] ∧ d_ = .agg [.agg [.lit (.int .i64 a), .lit (.int .i64 b), .lit (.int .i64 c), .lit (.int .i64 d), .lit (.int .i64 e)], .agg [.lit (.int .i64 a'), .lit (.int .i64 b'), .lit (.int .i64 c'), .lit (.int .i64 d'), .lit (.int .i64 e')]] ∧ p = [] ∧ V.wf ⟨a, b, c, d, e⟩ ∧ V.wf ⟨a', b', c', d', e'⟩ := by
  obtain ⟨cs, rfl, hsz, _⟩ : ∃ cs, v = .agg cs ∧ cs.size = Tryd.prog.cellsOf 46 ∧ Row.okWide Tryd.prog w .any base 46 cs := by
    simpa [Value.okWide, Tryd.underlying46] using hok
  rw [cells46] at hsz
  obtain ⟨l⟩ := cs
  obtain ⟨fuel, hf⟩ := h
  obtain ⟨c0, c1, c2, c3, c4, c5, c6, c7, c8, c9, rfl⟩ := list10 l (by simpa using hsz)
  cases fuel with
  | zero => simp [DataW.trod] at hf
  | succ n =>
    unfold DataW.trod at hf
    rw [Tryd.underlying46] at hf
    have r2 : List.range 2 = [0, 1] := rfl
    simp [r2, cells23, Value.cells] at hf
    cases h0 : DataW.trod enc Tryd.prog w b0 sp held n 23 [c0, c1, c2, c3, c4] with
    | none => simp [h0] at hf
    | some y0 =>
    cases h1 : DataW.trod enc Tryd.prog w b0 sp held n 23 [c5, c6, c7, c8, c9] with
    | none => simp [h0, h1] at hf
    | some y1 =>
      obtain ⟨a, b, c, d, e, e0, rfl, w0, w1, w2, w3, w4⟩ := trod_v rfl h0
      obtain ⟨a', b', c', d', e', e1, rfl, v0, v1, v2, v3, v4⟩ := trod_v rfl h1
      simp [h0, h1] at hf
      simp at e0 e1
      obtain ⟨rfl, rfl, rfl, rfl, rfl⟩ := e0
      obtain ⟨rfl, rfl, rfl, rfl, rfl⟩ := e1
      exact ⟨a, b, c, d, e, a', b', c', d', e', rfl, hf.2.1.symm, hf.2.2, ⟨w0, w1, w2, w3, w4⟩, ⟨v0, v1, v2, v3, v4⟩⟩
theorem shut_v2 {a b c d e a' b' c' d' e' : Int} (hu : V.wf ⟨a, b, c, d, e⟩) (hv : V.wf ⟨a', b', c', d', e'⟩) : DataW.Trod enc Tryd.prog w base sp held 46 (.agg #[.int .i64 a, .int .i64 b, .int .i64 c, .int .i64 d, .int .i64 e, .int .i64 a', .int .i64 b', .int .i64 c', .int .i64 d', .int .i64 e']) (.agg [.agg [.lit (.int .i64 a), .lit (.int .i64 b), .lit (.int .i64 c), .lit (.int .i64 d), .lit (.int .i64 e)], .agg [.lit (.int .i64 a'), .lit (.int .i64 b'), .lit (.int .i64 c'), .lit (.int .i64 d'), .lit (.int .i64 e')]]) [] := by
  obtain ⟨w0, w1, w2, w3, w4⟩ := hu.out
  obtain ⟨v0, v1, v2, v3, v4⟩ := hv.out
  dsimp only at w0 w1 w2 w3 w4 v0 v1 v2 v3 v4
  exact ⟨3, by simp [DataW.trod, Value.cells, Tryd.underlying46, Tryd.underlying23, Tryd.underlying3, cells46, cells23, cells3, w0, w1, w2, w3, w4, v0, v1, v2, v3, v4, show List.range 5 = [0, 1, 2, 3, 4] from rfl, show List.range 2 = [0, 1] from rfl]⟩
end
theorem wr_mix (n x y : Int) : wrap64 (wrap64 (n + x) - y) = wrap64 (n + wrap64 (x - y)) := by
  unfold wrap64
  omega
theorem over_same (v u : V) : ∀ k, V.roverK v u k = V.overK v u k
  | 0 => rfl
  | k + 1 => by
    unfold V.roverK V.overK
    rw [over_same v u k, wr_mix]
theorem sha_nn (x y : Int) (h : (shaS x y).2 = 0) : 0 ≤ (shaS x y).1 := by
  unfold shaS at h ⊢
  by_cases c1 : x < 0 ∨ y < 0 ∨ (y = 0 ∧ x > 0)
  · rw [if_pos c1] at h; exact absurd h (by decide)
  rw [if_neg c1] at h ⊢
  by_cases c2 : x > 1099511627776 ∨ y > 1099511627776
  · rw [if_pos c2] at h; exact absurd h (by decide)
  rw [if_neg c2] at h ⊢
  by_cases c3 : y = 0
  · rw [if_pos c3]; exact Int.le_refl _
  rw [if_neg c3]
  show 0 ≤ wrap64 (Int.tdiv (wrap64 (x * 1000)) y)
  rw [wrap64_id (x := x * 1000) (by omega) (by omega), Int.tdiv_eq_ediv_of_nonneg (by omega)]
  have p0 : 0 ≤ x * 1000 / y := Int.ediv_nonneg (by omega) (by omega)
  have p1 : x * 1000 / y ≤ x * 1000 := Int.ediv_le_self _ (by omega)
  rw [wrap64_id (x := x * 1000 / y) (by omega) (by omega)]
  exact p0
theorem share_same (v u : V) : V.rshare v u = (V.max (V.shares v u).1, (V.shares v u).2) := by
  have h0 := sha_nn v.a u.a
  have h1 := sha_nn v.b u.b
  have h2 := sha_nn v.c u.c
  have h3 := sha_nn v.d u.d
  have h4 := sha_nn v.e u.e
  have hs : V.shares v u = (if (shaS v.a u.a).2 ≠ 0 then ((⟨0, 0, 0, 0, 0⟩ : V), (shaS v.a u.a).2) else if (shaS v.b u.b).2 ≠ 0 then (⟨0, 0, 0, 0, 0⟩, (shaS v.b u.b).2) else if (shaS v.c u.c).2 ≠ 0 then (⟨0, 0, 0, 0, 0⟩, (shaS v.c u.c).2) else if (shaS v.d u.d).2 ≠ 0 then (⟨0, 0, 0, 0, 0⟩, (shaS v.d u.d).2) else if (shaS v.e u.e).2 ≠ 0 then (⟨0, 0, 0, 0, 0⟩, (shaS v.e u.e).2) else (⟨(shaS v.a u.a).1, (shaS v.b u.b).1, (shaS v.c u.c).1, (shaS v.d u.d).1, (shaS v.e u.e).1⟩, 0)) := rfl
  rw [hs]
  unfold V.rshare
  clear hs
  obtain ⟨⟨n0, e0⟩, q0⟩ : ∃ x, shaS v.a u.a = x := ⟨_, rfl⟩
  obtain ⟨⟨n1, e1⟩, q1⟩ : ∃ x, shaS v.b u.b = x := ⟨_, rfl⟩
  obtain ⟨⟨n2, e2⟩, q2⟩ : ∃ x, shaS v.c u.c = x := ⟨_, rfl⟩
  obtain ⟨⟨n3, e3⟩, q3⟩ : ∃ x, shaS v.d u.d = x := ⟨_, rfl⟩
  obtain ⟨⟨n4, e4⟩, q4⟩ : ∃ x, shaS v.e u.e = x := ⟨_, rfl⟩
  rw [q0, q1, q2, q3, q4]
  rw [q0] at h0
  rw [q1] at h1
  rw [q2] at h2
  rw [q3] at h3
  rw [q4] at h4
  dsimp only at h0 h1 h2 h3 h4 ⊢
  clear q0 q1 q2 q3 q4
  have hz : V.max ⟨0, 0, 0, 0, 0⟩ = 0 := rfl
  by_cases c0 : e0 ≠ 0
  · rw [shF_out rfl c0, if_pos c0, hz]
  rw [← shF_on (R := shF 0 ((n0, e0) :: [(n1, e1), (n2, e2), (n3, e3), (n4, e4)])) rfl c0 rfl, if_neg c0]
  have k0 := h0 (by omega)
  by_cases c1 : e1 ≠ 0
  · rw [shF_out rfl c1, if_pos c1, hz]
  rw [← shF_on (R := shF (if 0 < n0 then n0 else 0) ((n1, e1) :: [(n2, e2), (n3, e3), (n4, e4)])) rfl c1 rfl, if_neg c1]
  have k1 := h1 (by omega)
  by_cases c2 : e2 ≠ 0
  · rw [shF_out rfl c2, if_pos c2, hz]
  rw [← shF_on (R := shF (if (if 0 < n0 then n0 else 0) < n1 then n1 else (if 0 < n0 then n0 else 0)) ((n2, e2) :: [(n3, e3), (n4, e4)])) rfl c2 rfl, if_neg c2]
  have k2 := h2 (by omega)
  by_cases c3 : e3 ≠ 0
  · rw [shF_out rfl c3, if_pos c3, hz]
  rw [← shF_on (R := shF (if (if (if 0 < n0 then n0 else 0) < n1 then n1 else (if 0 < n0 then n0 else 0)) < n2 then n2 else (if (if 0 < n0 then n0 else 0) < n1 then n1 else (if 0 < n0 then n0 else 0))) ((n3, e3) :: [(n4, e4)])) rfl c3 rfl, if_neg c3]
  have k3 := h3 (by omega)
  by_cases c4 : e4 ≠ 0
  · rw [shF_out rfl c4, if_pos c4, hz]
  rw [← shF_on (R := shF (if (if (if (if 0 < n0 then n0 else 0) < n1 then n1 else (if 0 < n0 then n0 else 0)) < n2 then n2 else (if (if 0 < n0 then n0 else 0) < n1 then n1 else (if 0 < n0 then n0 else 0))) < n3 then n3 else (if (if (if 0 < n0 then n0 else 0) < n1 then n1 else (if 0 < n0 then n0 else 0)) < n2 then n2 else (if (if 0 < n0 then n0 else 0) < n1 then n1 else (if 0 < n0 then n0 else 0)))) ((n4, e4) :: [])) rfl c4 rfl, if_neg c4]
  have k4 := h4 (by omega)
  rw [max_is]
  unfold shF
  have hm : ∀ x y : Int, (if x < y then y else x) = max x y := fun x y => by split <;> omega
  simp only [hm]
  congr 1
  clear hm
  omega
theorem rws_take {w : World} {b o : Nat} {vs : List V} (h : Rws w b o vs) (m : Nat) : Rws w b o (vs.take m) :=
  ⟨h.out.1, fun k hk j hj => by
    have hk2 : k < vs.length := by rw [List.length_take] at hk; omega
    rw [List.getElem_take]
    exact h.out.2 k hk2 j hj⟩
theorem vecReckons_true (L : Option Addr) (cap : Nat) (vs : List V) (a b c d e a' b' c' d' e' num : Int) (w : World) (hc : vs.length ≤ cap) (hA : vs ≠ [] → ∃ b o, L = some ⟨b, o, none⟩ ∧ Rws w b o vs) (hw : ∀ v ∈ vs, v.wf) (hT : Tb w) (hN : Nm w) :
    Calls Tryd.prog 7 #[.slice L vs.length cap, .agg #[.int .i64 a, .int .i64 b, .int .i64 c, .int .i64 d, .int .i64 e, .int .i64 a', .int .i64 b', .int .i64 c', .int .i64 d', .int .i64 e'], .int .i64 num] w fun e_ w' => e_ = .returned (.bool true) ∧ Below w.heap.size w w' := by
  have hlen : (vs.take 12).length = min 12 vs.length := List.length_take
  obtain ⟨b0, o0, hbo⟩ : ∃ b o, vs ≠ [] → L = some ⟨b, o, none⟩ ∧ Rws w b o vs := by
    by_cases h : vs = []
    · exact ⟨0, 0, fun h2 => absurd h h2⟩
    · obtain ⟨b, o, h1⟩ := hA h
      exact ⟨b, o, fun _ => h1⟩
  refine vecReckons_w b0 o0 cap vs.length L (vs.take 12) a b c d e a' b' c' d' e' num w ?_ (by omega) (by omega) (fun h => ?_) (fun v hv i => ((hw v (List.mem_of_mem_take hv)).le i).2) hT hN (share_same _ _) (over_same _ _ 5)
  · rw [hlen]
    split <;> omega
  · have hne : vs ≠ [] := by intro h2; rw [h2] at h; exact h rfl
    exact ⟨(hbo hne).1, rws_take (hbo hne).2 12⟩
end Go.Proofs.YtceepgleeelohaaDoor.P
