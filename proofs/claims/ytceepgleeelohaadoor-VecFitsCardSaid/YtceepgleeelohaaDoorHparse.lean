import Derived.Test.YtceepgleeelohaaDoorHread
import Derived.Test.YtceepgleeelohaaDoorHdiv
/- quant.Percent and quant.Parse. -/
namespace Go.Proofs.YtceepgleeelohaaDoor.P
set_option linter.unusedVariables false
set_option linter.unusedSimpArgs false
open Go.RowKit Go.Proofs.YtceepgleeelohaaDoorW.PrintWords Go.Proofs.YtceepgleeelohaaDoorW.PrintLast Go.Proofs.YtceepgleeelohaaDoorW.PrintMore
theorem Rd.ok.mono {r : Rd} {n m : Nat} (h : r.ok n) (hn : n ≤ m) : r.ok m where
  wh0 := h.wh0
  wh1 := h.wh1
  dg0 := h.dg0
  dg1 := by have := h.dg1; omega
  ps0 := h.ps0
  ps1 := h.ps1
  ms1 := h.ms1
  ms3 := h.ms3
  pt0 := h.pt0
  pt1 := h.pt1
  pt2 := h.pt2
  pt3 := h.pt3
  pt4 := h.pt4
  sx1 := by have := h.sx1; omega
theorem rdL_ok (kn : ByteArray → Bool) (t : ByteArray) : ∀ (k p n : Nat) (r : Rd), r.ok n → (rdL kn t k p r).1.ok (n + k)
  | 0, _, _, _, h => h
  | k + 1, p, n, r, h => by
    unfold rdL
    split
    · split
      · exact h.mono (by omega)
      · split
        · exact h.mono (by omega)
        · rename_i r' hg
          have := rdL_ok kn t k (p + (Utf8.decode t p).2) (n + 1) r' (goes_ok h hg)
          exact this.mono (by omega)
    · exact h.mono (by omega)
theorem pt_bd {r : Rd} {n : Nat} (h : r.ok n) : 0 ≤ r.pt ∧ r.pt ≤ 999 := by
  have h0 := h.pt0; have h1 := h.pt1; have h2 := h.pt2; have h3 := h.pt3; have h4 := h.pt4; have h5 := h.ps1; have h6 := h.ms3
  have hc : r.ps ≤ 0 ∨ r.ps = 1 ∨ r.ps = 2 ∨ r.ps = 3 := by omega
  rcases hc with h | h | h | h
  · have := h1 h; omega
  · have := h2 h; omega
  · have := h3 h; omega
  · exact ⟨h0, h4 h⟩
theorem ten_bd (n : Nat) (h : n ≤ 3) : 1 ≤ ten n ∧ ten n ≤ 1000 := by
  match n, h with
  | 0, _ | 1, _ | 2, _ | 3, _ => decide
theorem read_bd (kn en : ByteArray → Bool) (t : ByteArray) (ms : Int) (h1 : 1 ≤ ms) (h3 : ms ≤ 3) :
    0 ≤ (readS kn en t ms).1.wh ∧ (readS kn en t ms).1.wh ≤ 1125899906842624 ∧ 0 ≤ (readS kn en t ms).1.pt ∧ (readS kn en t ms).1.pt ≤ 999000 ∧ (readS kn en t ms).1.sx.size ≤ 4 * (t.size + 1) := by
  have ho := rdL_ok kn t (t.size + 1) 0 0 (rd0 ms) (rd0_ok ms h1 h3)
  rw [Nat.zero_add] at ho
  unfold readS
  generalize (rdL kn t (t.size + 1) 0 (rd0 ms)) = x at ho
  have hp := pt_bd ho
  have hs := ho.sx1
  split
  · exact ⟨ho.wh0, ho.wh1, hp.1, by dsimp only; omega, hs⟩
  · split
    · exact ⟨ho.wh0, ho.wh1, hp.1, by dsimp only; omega, hs⟩
    · have ht := ten_bd (ms - max x.1.ps 0).toNat (by have := ho.ps0; omega)
      refine ⟨ho.wh0, ho.wh1, Int.mul_nonneg hp.1 (by omega), ?_, hs⟩
      show x.1.pt * ten (ms - max x.1.ps 0).toNat ≤ 999000
      have h9 := Int.mul_le_mul hp.2 ht.2 (by omega) (by decide)
      omega
/-- what Percent answers -/
def pctS (t : ByteArray) : Int × Int × Int :=
  if (readS pctB pctB t 1).2.2 ≠ 0 then (0, (readS pctB pctB t 1).2.1, (readS pctB pctB t 1).2.2)
  else if 1000 < 10 * (readS pctB pctB t 1).1.wh + (readS pctB pctB t 1).1.pt then (0, 0, 10)
  else (10 * (readS pctB pctB t 1).1.wh + (readS pctB pctB t 1).1.pt, 0, 0)
def quant_Percent.f (t : ByteArray) : Option (Int × Int × Int) := if t.size ≤ 1000000 then some (pctS t) else none
theorem suf_bd (x : List UInt8) : 0 ≤ (sufV x).getD 0 ∧ (sufV x).getD 0 ≤ 1073741824000 := by
  have hall : ∀ p ∈ sufE, 0 ≤ p.2 ∧ p.2 ≤ 1073741824000 := by decide
  unfold sufV
  cases hf : sufE.find? (fun p => p.1 == x) with
  | none => exact ⟨Int.le_refl 0, by show (0 : Int) ≤ _; decide⟩
  | some p => exact hall p (List.mem_of_find?_eq_some hf)
/-- by how many the numbers are parted -/
def unitI (milli : Bool) : Int := if milli = true then 1000 else 1000000
/-- what comes of the product and the unit -/
def overS (a u : Int) : Int × Int × Int :=
  if u ≤ a / 18446744073709551616 then (0, 0, 10)
  else if 1099511627776 < (divP (a / 18446744073709551616) (a % 18446744073709551616) u).1 ∨ ((divP (a / 18446744073709551616) (a % 18446744073709551616) u).1 = 1099511627776 ∧ 0 < (divP (a / 18446744073709551616) (a % 18446744073709551616) u).2) then (0, 0, 10)
  else if 0 < (divP (a / 18446744073709551616) (a % 18446744073709551616) u).2 then (0, 0, 4)
  else ((divP (a / 18446744073709551616) (a % 18446744073709551616) u).1, 0, 0)
/-- what Parse answers -/
def parseS (t : ByteArray) (milli : Bool) : Int × Int × Int :=
  if (readS begB endB t 3).2.2 ≠ 0 then (0, (readS begB endB t 3).2.1, (readS begB endB t 3).2.2)
  else overS ((1000 * (readS begB endB t 3).1.wh + (readS begB endB t 3).1.pt) * (sufV (readS begB endB t 3).1.sx.data.toList).getD 0) (unitI milli)
def quant_Parse.f (t : ByteArray) (milli : Bool) : Option (Int × Int × Int) := if t.size ≤ 1000000 then some (parseS t milli) else none
theorem divP_nn (hi lo y : Int) (hy : y = 1000 ∨ y = 1000000) (h0 : 0 ≤ hi) (h1 : hi < y) (l0 : 0 ≤ lo) (l1 : lo < 18446744073709551616) : 0 ≤ (divP hi lo y).1 ∧ 0 ≤ (divP hi lo y).2 := by
  unfold divP
  split
  · exact ⟨Int.ediv_nonneg l0 (by omega), Int.emod_nonneg _ (by omega)⟩
  · rcases hy with rfl | rfl
    · rw [if_pos rfl]
      unfold dv1000
      dsimp only
      omega
    · rw [if_neg (by decide)]
      unfold dv1000000
      dsimp only
      omega
set_option maxRecDepth 100000 in
set_option maxHeartbeats 6400000 in
theorem parse_walk (t : ByteArray) (milli : Bool) (w : World) (ht : t.size ≤ 1000000) :
    Calls Tryd.prog 44 #[.string t, .bool milli] w fun e w' => e = .returned (.tuple #[.int .i64 (parseS t milli).1, .int .i64 (parseS t milli).2.1, .int .i64 (parseS t milli).2.2]) ∧ Below w.heap.size w w' := by
  have hu56 := Tryd.underlying91
  have hbd := read_bd begB endB t 3 (by decide) (by decide)
  obtain ⟨res, hres⟩ : ∃ res, parseS t milli = res := ⟨_, rfl⟩
  rw [hres]
  have HRD := Aside0.mk (fun (A b : Nat) (W : World) (hA : W.heap[A]? = some (.cells #[.map (some b)] 82 (0, 0))) (hS : IsSuf W b) => readP_calls A b t W ht hA hS)
  unfold parseS at hres
  have hsuf := suf_bd (readS begB endB t 3).1.sx.data.toList
  generalize readS begB endB t 3 = x at hbd hres HRD hsuf
  obtain ⟨⟨wh, dg, pt, ps, ms, sx⟩, at', e⟩ := x
  dsimp only at hbd hres hsuf
  have HRD2 : Aside0 (∀ (A b : Nat) (W : World), W.heap[A]? = some (.cells #[.map (some b)] 82 (0, 0)) → IsSuf W b →
      Calls Tryd.prog 67 #[.string t, .int .i64 3, .func (.func 61) #[] #[.pointer (some ⟨A, 0, none⟩)], .func (.func 66) #[] #[.pointer (some ⟨A, 0, none⟩)]] W fun e_ w' => e_ = .returned (.tuple #[.agg #[.int .i64 wh, .int .i64 dg, .int .i64 pt, .int .i64 ps, .int .i64 ms, .string sx], .int .i64 at', .int .i64 e]) ∧ Below W.heap.size W w') := ⟨HRD.out⟩
  clear HRD
  obtain ⟨sv, hsv⟩ : ∃ sv, (sufV sx.data.toList).getD 0 = sv := ⟨_, rfl⟩
  rw [hsv] at hres hsuf
  have HSV := Aside0.mk hsv
  have HRES := Aside0.mk hres
  clear hres hsv
  have hsz : sx.size ≤ maxLen := by unfold maxLen; omega
  have j1 : wrap64 (1000 * wh) = 1000 * wh := by unfold wrap64; omega
  have j2 : wrap64 (1000 * wh + pt) = 1000 * wh + pt := by unfold wrap64; omega
  have j3 : IntKind.u64.wrap (1000 * wh + pt) = 1000 * wh + pt := by rw [w64]; omega
  have j4 : IntKind.u64.wrap sv = sv := by rw [w64]; omega
  obtain ⟨m, hm⟩ : ∃ m, 1000 * wh + pt = m := ⟨_, rfl⟩
  rw [hm] at j2 j3
  have hm0 : 0 ≤ m ∧ m < 18446744073709551616 := by omega
  have hs0 : 0 ≤ sv ∧ sv < 18446744073709551616 := by omega
  have HM := Aside0.mk hm
  obtain ⟨hi, hhi⟩ : ∃ hi, m * sv / 18446744073709551616 = hi := ⟨_, rfl⟩
  obtain ⟨lo, hlo⟩ : ∃ lo, m * sv % 18446744073709551616 = lo := ⟨_, rfl⟩
  have hms : 0 ≤ m * sv := Int.mul_nonneg hm0.1 hs0.1
  have hh0 : 0 ≤ hi ∧ 0 ≤ lo ∧ lo < 18446744073709551616 := by omega
  have HMUL : Aside0 (∀ W : World, Calls Tryd.prog 68 #[.int .u64 m, .int .u64 sv] W fun e_ w' => e_ = .returned (.tuple #[.int .u64 hi, .int .u64 lo]) ∧ Below W.heap.size W w') := ⟨fun W => bits_Mul64.calls m sv hi lo W (by unfold bits_Mul64.f; rw [if_pos ⟨hm0.1, hm0.2, hs0.1, hs0.2⟩, hhi, hlo])⟩
  have HR2 : Aside0 (res = if e ≠ 0 then (0, at', e) else if unitI milli ≤ hi then (0, 0, 10) else if 1099511627776 < (divP hi lo (unitI milli)).1 ∨ ((divP hi lo (unitI milli)).1 = 1099511627776 ∧ 0 < (divP hi lo (unitI milli)).2) then (0, 0, 10) else if 0 < (divP hi lo (unitI milli)).2 then (0, 0, 4) else ((divP hi lo (unitI milli)).1, 0, 0)) := ⟨by
    rw [← HRES.out, HM.out]
    unfold overS
    rw [hhi, hlo]⟩
  have HDV : Aside0 (hi < unitI milli → (0 ≤ (divP hi lo (unitI milli)).1 ∧ 0 ≤ (divP hi lo (unitI milli)).2) ∧ ∀ W : World, Calls Tryd.prog 69 #[.int .u64 hi, .int .u64 lo, .int .u64 (unitI milli)] W fun e_ w' => e_ = .returned (.tuple #[.int .u64 (divP hi lo (unitI milli)).1, .int .u64 (divP hi lo (unitI milli)).2]) ∧ Below W.heap.size W w') := ⟨fun hlt => by
    have hu : unitI milli = 1000 ∨ unitI milli = 1000000 := by unfold unitI; split <;> omega
    refine ⟨divP_nn hi lo _ hu hh0.1 hlt hh0.2.1 hh0.2.2, fun W => ?_⟩
    exact bits_Div64.calls hi lo _ _ _ W (by unfold bits_Div64.f; rw [if_pos ⟨hu, hh0.1, hlt, hh0.2.1, hh0.2.2⟩])⟩
  generalize divP hi lo (unitI milli) = dp at HR2 HDV
  obtain ⟨q, rs⟩ := dp
  dsimp only at HR2 HDV
  clear hhi hlo hms HRES HM hbd hsuf hm0 hs0 hh0
  cases milli with
  | false =>
    have hun : unitI false = 1000000 := rfl
    rw [hun] at HR2 HDV
    clear hun
    go_enter Tryd.func44, Tryd.ntmps44
    go_wp2_with fail
    refine (suffixes_calls w).mono ?_
    rintro _ W1 ⟨b, rfl, hbw, hS, hb1⟩
    have hn1 := heap_alloc_new W1 (.cells #[.map (some b)] 82)
    obtain ⟨A, hA⟩ : ∃ A, W1.heap.size = A := ⟨_, rfl⟩
    obtain ⟨W2, hW2⟩ : ∃ W2, W1.alloc (.cells #[.map (some b)] 82) = W2 := ⟨_, rfl⟩
    have hb2 : Below w.heap.size w W2 := by rw [← hW2]; exact below_alloc hb1 _
    have hS2 : IsSuf W2 b := by rw [← hW2]; exact hS.alloc _
    rw [hW2, hA] at hn1
    have HC := Aside0.mk (HRD2.out A b W2 hn1 hS2)
    have HN := Aside0.mk (And.intro hn1 (And.intro hS2 hb2))
    clear hn1 hS2 hb2 hS hb1 hbw HRD2
    go_wp2_with fail
    refine HC.out.mono ?_
    rintro _ W3 ⟨rfl, hb3⟩
    have hn3 := heap_alloc_new W3 (.cells #[.int .i64 wh, .int .i64 dg, .int .i64 pt, .int .i64 ps, .int .i64 ms, .string sx] 91)
    obtain ⟨g, hg⟩ : ∃ g, W3.heap.size = g := ⟨_, rfl⟩
    have hb4 : Below W2.heap.size W2 (W3.alloc (.cells #[.int .i64 wh, .int .i64 dg, .int .i64 pt, .int .i64 ps, .int .i64 ms, .string sx] 91)) := below_alloc hb3 _
    obtain ⟨W4, hW4⟩ : ∃ W4, W3.alloc (.cells #[.int .i64 wh, .int .i64 dg, .int .i64 pt, .int .i64 ps, .int .i64 ms, .string sx] 91) = W4 := ⟨_, rfl⟩
    rw [hW4] at hb4 hn3
    rw [hg] at hn3
    have c0_ := cellR_0 (r := ⟨wh, dg, pt, ps, ms, sx⟩) hn3
    have c2_ := cellR_2 (r := ⟨wh, dg, pt, ps, ms, sx⟩) hn3
    have c5_ := cellR_5 (r := ⟨wh, dg, pt, ps, ms, sx⟩) hn3
    dsimp only at c0_ c2_ c5_
    have cA_ : W4.cell? ⟨A, 0, none⟩ = some (.map (some b)) := (blk_cell ((hb4.block A (blk_lt HN.out.1)).trans HN.out.1) 0).trans rfl
    have hlk := suf_look (HN.out.2.1.below hb4 HN.out.2.1.lt) sx hsz
    rw [HSV.out] at hlk
    have HB := Aside0.mk (HN.out.2.2.trans (hb4.mono HN.out.2.2.size))
    clear hb3 hb4 hn3 HC
    by_cases he : e = 0
    · subst he
      by_cases hov : 1000000 ≤ hi
      · have hq : res = (0, 0, 10) := by rw [HR2.out, if_neg (by decide), if_pos hov]
        subst hq
        have i1 : decide (1000000 ≤ hi) = true := decide_eq_true hov
        clear HR2 HDV hov
        go_wp2_with fail
        refine (HMUL.out _).mono ?_
        rintro _ W5 ⟨rfl, hb5⟩
        have HB5 := Aside0.mk (below_step HB.out hb5)
        clear hb5
        go_wp2_with fail
        go_ret3
        exact ⟨rfl, HB5.out⟩
      · have i1 : decide (1000000 ≤ hi) = false := decide_eq_false hov
        obtain ⟨⟨hq0, hr0⟩, hdv⟩ := HDV.out (by omega)
        have HDV2 := Aside0.mk hdv
        have HR3 : Aside0 (res = if 1099511627776 < q ∨ (q = 1099511627776 ∧ 0 < rs) then (0, 0, 10) else if 0 < rs then (0, 0, 4) else (q, 0, 0)) := ⟨by rw [HR2.out, if_neg (by decide), if_neg hov]⟩
        clear HR2 HDV hdv hov
        go_wp2_with fail
        refine (HMUL.out _).mono ?_
        rintro _ W5 ⟨rfl, hb5⟩
        have HB5 := Aside0.mk (below_step HB.out hb5)
        clear hb5
        go_wp2_with fail
        refine (HDV2.out _).mono ?_
        rintro _ W6 ⟨rfl, hb6⟩
        have HB6 := Aside0.mk (below_step HB5.out hb6)
        clear hb6 HDV2 HMUL HB5 HB
        by_cases h1 : 1099511627776 < q
        · have hq : res = (0, 0, 10) := by rw [HR3.out, if_pos (Or.inl h1)]
          subst hq
          have i2 : decide (1099511627776 < q) = true := decide_eq_true h1
          clear HR3
          go_wp2_with fail
          go_ret3
          exact ⟨rfl, HB6.out⟩
        · have i2 : decide (1099511627776 < q) = false := decide_eq_false h1
          have j5 : wrap64 q = q := by unfold wrap64; omega
          by_cases h2 : q = 1099511627776
          · subst h2
            by_cases h3 : 0 < rs
            · have hq : res = (0, 0, 10) := by rw [HR3.out, if_pos (Or.inr ⟨rfl, h3⟩)]
              subst hq
              have i3 : decide (0 < rs) = true := decide_eq_true h3
              clear HR3
              go_wp2_with fail
              go_ret3
              exact ⟨rfl, HB6.out⟩
            · have hq : res = (1099511627776, 0, 0) := by rw [HR3.out, if_neg (by omega), if_neg h3]
              subst hq
              have i3 : decide (0 < rs) = false := decide_eq_false h3
              clear HR3
              go_wp2_with fail
              go_ret3
              exact ⟨rfl, HB6.out⟩
          · have i4 : (q == 1099511627776) = false := beq_eq_false_iff_ne.2 h2
            by_cases h3 : 0 < rs
            · have hq : res = (0, 0, 4) := by rw [HR3.out, if_neg (by omega), if_pos h3]
              subst hq
              have i3 : decide (0 < rs) = true := decide_eq_true h3
              clear HR3
              go_wp2_with fail
              go_ret3
              exact ⟨rfl, HB6.out⟩
            · have hq : res = (q, 0, 0) := by rw [HR3.out, if_neg (by omega), if_neg h3]
              subst hq
              have i3 : decide (0 < rs) = false := decide_eq_false h3
              clear HR3
              go_wp2_with fail
              go_ret3
              exact ⟨rfl, HB6.out⟩
    · have hq : res = (0, at', e) := by rw [HR2.out, if_pos he]
      subst hq
      have i1 : (e != 0) = true := bne_iff_ne.2 he
      clear he HR2 HDV HMUL
      go_wp2_with fail
      go_ret3
      exact ⟨rfl, HB.out⟩
  | true =>
    have hun : unitI true = 1000 := rfl
    rw [hun] at HR2 HDV
    clear hun
    go_enter Tryd.func44, Tryd.ntmps44
    go_wp2_with fail
    refine (suffixes_calls w).mono ?_
    rintro _ W1 ⟨b, rfl, hbw, hS, hb1⟩
    have hn1 := heap_alloc_new W1 (.cells #[.map (some b)] 82)
    obtain ⟨A, hA⟩ : ∃ A, W1.heap.size = A := ⟨_, rfl⟩
    obtain ⟨W2, hW2⟩ : ∃ W2, W1.alloc (.cells #[.map (some b)] 82) = W2 := ⟨_, rfl⟩
    have hb2 : Below w.heap.size w W2 := by rw [← hW2]; exact below_alloc hb1 _
    have hS2 : IsSuf W2 b := by rw [← hW2]; exact hS.alloc _
    rw [hW2, hA] at hn1
    have HC := Aside0.mk (HRD2.out A b W2 hn1 hS2)
    have HN := Aside0.mk (And.intro hn1 (And.intro hS2 hb2))
    clear hn1 hS2 hb2 hS hb1 hbw HRD2
    go_wp2_with fail
    refine HC.out.mono ?_
    rintro _ W3 ⟨rfl, hb3⟩
    have hn3 := heap_alloc_new W3 (.cells #[.int .i64 wh, .int .i64 dg, .int .i64 pt, .int .i64 ps, .int .i64 ms, .string sx] 91)
    obtain ⟨g, hg⟩ : ∃ g, W3.heap.size = g := ⟨_, rfl⟩
    have hb4 : Below W2.heap.size W2 (W3.alloc (.cells #[.int .i64 wh, .int .i64 dg, .int .i64 pt, .int .i64 ps, .int .i64 ms, .string sx] 91)) := below_alloc hb3 _
    obtain ⟨W4, hW4⟩ : ∃ W4, W3.alloc (.cells #[.int .i64 wh, .int .i64 dg, .int .i64 pt, .int .i64 ps, .int .i64 ms, .string sx] 91) = W4 := ⟨_, rfl⟩
    rw [hW4] at hb4 hn3
    rw [hg] at hn3
    have c0_ := cellR_0 (r := ⟨wh, dg, pt, ps, ms, sx⟩) hn3
    have c2_ := cellR_2 (r := ⟨wh, dg, pt, ps, ms, sx⟩) hn3
    have c5_ := cellR_5 (r := ⟨wh, dg, pt, ps, ms, sx⟩) hn3
    dsimp only at c0_ c2_ c5_
    have cA_ : W4.cell? ⟨A, 0, none⟩ = some (.map (some b)) := (blk_cell ((hb4.block A (blk_lt HN.out.1)).trans HN.out.1) 0).trans rfl
    have hlk := suf_look (HN.out.2.1.below hb4 HN.out.2.1.lt) sx hsz
    rw [HSV.out] at hlk
    have HB := Aside0.mk (HN.out.2.2.trans (hb4.mono HN.out.2.2.size))
    clear hb3 hb4 hn3 HC
    by_cases he : e = 0
    · subst he
      by_cases hov : 1000 ≤ hi
      · have hq : res = (0, 0, 10) := by rw [HR2.out, if_neg (by decide), if_pos hov]
        subst hq
        have i1 : decide (1000 ≤ hi) = true := decide_eq_true hov
        clear HR2 HDV hov
        go_wp2_with fail
        refine (HMUL.out _).mono ?_
        rintro _ W5 ⟨rfl, hb5⟩
        have HB5 := Aside0.mk (below_step HB.out hb5)
        clear hb5
        go_wp2_with fail
        go_ret3
        exact ⟨rfl, HB5.out⟩
      · have i1 : decide (1000 ≤ hi) = false := decide_eq_false hov
        obtain ⟨⟨hq0, hr0⟩, hdv⟩ := HDV.out (by omega)
        have HDV2 := Aside0.mk hdv
        have HR3 : Aside0 (res = if 1099511627776 < q ∨ (q = 1099511627776 ∧ 0 < rs) then (0, 0, 10) else if 0 < rs then (0, 0, 4) else (q, 0, 0)) := ⟨by rw [HR2.out, if_neg (by decide), if_neg hov]⟩
        clear HR2 HDV hdv hov
        go_wp2_with fail
        refine (HMUL.out _).mono ?_
        rintro _ W5 ⟨rfl, hb5⟩
        have HB5 := Aside0.mk (below_step HB.out hb5)
        clear hb5
        go_wp2_with fail
        refine (HDV2.out _).mono ?_
        rintro _ W6 ⟨rfl, hb6⟩
        have HB6 := Aside0.mk (below_step HB5.out hb6)
        clear hb6 HDV2 HMUL HB5 HB
        by_cases h1 : 1099511627776 < q
        · have hq : res = (0, 0, 10) := by rw [HR3.out, if_pos (Or.inl h1)]
          subst hq
          have i2 : decide (1099511627776 < q) = true := decide_eq_true h1
          clear HR3
          go_wp2_with fail
          go_ret3
          exact ⟨rfl, HB6.out⟩
        · have i2 : decide (1099511627776 < q) = false := decide_eq_false h1
          have j5 : wrap64 q = q := by unfold wrap64; omega
          by_cases h2 : q = 1099511627776
          · subst h2
            by_cases h3 : 0 < rs
            · have hq : res = (0, 0, 10) := by rw [HR3.out, if_pos (Or.inr ⟨rfl, h3⟩)]
              subst hq
              have i3 : decide (0 < rs) = true := decide_eq_true h3
              clear HR3
              go_wp2_with fail
              go_ret3
              exact ⟨rfl, HB6.out⟩
            · have hq : res = (1099511627776, 0, 0) := by rw [HR3.out, if_neg (by omega), if_neg h3]
              subst hq
              have i3 : decide (0 < rs) = false := decide_eq_false h3
              clear HR3
              go_wp2_with fail
              go_ret3
              exact ⟨rfl, HB6.out⟩
          · have i4 : (q == 1099511627776) = false := beq_eq_false_iff_ne.2 h2
            by_cases h3 : 0 < rs
            · have hq : res = (0, 0, 4) := by rw [HR3.out, if_neg (by omega), if_pos h3]
              subst hq
              have i3 : decide (0 < rs) = true := decide_eq_true h3
              clear HR3
              go_wp2_with fail
              go_ret3
              exact ⟨rfl, HB6.out⟩
            · have hq : res = (q, 0, 0) := by rw [HR3.out, if_neg (by omega), if_neg h3]
              subst hq
              have i3 : decide (0 < rs) = false := decide_eq_false h3
              clear HR3
              go_wp2_with fail
              go_ret3
              exact ⟨rfl, HB6.out⟩
    · have hq : res = (0, at', e) := by rw [HR2.out, if_pos he]
      subst hq
      have i1 : (e != 0) = true := bne_iff_ne.2 he
      clear he HR2 HDV HMUL
      go_wp2_with fail
      go_ret3
      exact ⟨rfl, HB.out⟩
theorem quant_Parse.calls (a0 : ByteArray) (a1 : Bool) (r1 r2 r3 : Int) (w : World) (h : quant_Parse.f a0 a1 = some (r1, r2, r3)) :
    Calls Tryd.prog 44 #[.string a0, .bool a1] w fun e w' => e = .returned (.tuple #[.int .i64 r1, .int .i64 r2, .int .i64 r3]) ∧ Below w.heap.size w w' := by
  unfold quant_Parse.f at h
  split at h
  · rename_i hs
    have h2 := Option.some.inj h
    have := parse_walk a0 a1 w hs
    rw [h2] at this
    exact this
  · cases h
end Go.Proofs.YtceepgleeelohaaDoor.P
