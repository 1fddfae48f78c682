import Derived.Test.YtceepgleeelohaaDoorHgoes
import Derived.Lib.RuneCount
import Derived.Laws.RangeAny
/- The reader of quant: read goes over a text. -/
namespace Go.Proofs.YtceepgleeelohaaDoor.P
set_option linter.unusedVariables false
set_option linter.unusedSimpArgs false
open Go.RowKit Go.Proofs.YtceepgleeelohaaDoorW.PrintWords Go.Proofs.YtceepgleeelohaaDoorW.PrintLast Go.Proofs.YtceepgleeelohaaDoorW.PrintMore
def badR (t : ByteArray) (p : Nat) : Bool := ((Utf8.decode t p).1 == 65533) && !Lib.hasPrefix (t.extract p t.size).data.toList [239, 191, 189]
/-- the runes from p on: what comes of them, where it ends, and whether that is the text's end -/
def rdL (kn : ByteArray → Bool) (t : ByteArray) : Nat → Nat → Rd → Rd × Nat × Bool
  | 0, p, r => (r, p, true)
  | k + 1, p, r => if p < t.size then
      (if badR t p = true then (r, p, false)
      else match goesS kn r (((Utf8.decode t p).1 : Nat) : Int) with
        | none => (r, p, false)
        | some r' => rdL kn t k (p + (Utf8.decode t p).2) r')
    else (r, p, true)
theorem rdL_end {kn : ByteArray → Bool} {t : ByteArray} {k p : Nat} {r : Rd} (h : ¬ p < t.size) : rdL kn t k p r = (r, p, true) := by
  cases k with
  | zero => rfl
  | succ k => unfold rdL; rw [if_neg h]
theorem rdL_bad {kn : ByteArray → Bool} {t : ByteArray} {k p : Nat} {r : Rd} (h : p < t.size) (hb : badR t p = true) : rdL kn t (k + 1) p r = (r, p, false) := by
  unfold rdL
  rw [if_pos h, if_pos hb]
theorem rdL_none {kn : ByteArray → Bool} {t : ByteArray} {k p : Nat} {r : Rd} (h : p < t.size) (hb : badR t p = false) (hg : goesS kn r (((Utf8.decode t p).1 : Nat) : Int) = none) : rdL kn t (k + 1) p r = (r, p, false) := by
  unfold rdL
  rw [if_pos h, if_neg (by rw [hb]; decide), hg]
theorem rdL_some {kn : ByteArray → Bool} {t : ByteArray} {k p : Nat} {r r' : Rd} (h : p < t.size) (hb : badR t p = false) (hg : goesS kn r (((Utf8.decode t p).1 : Nat) : Int) = some r') : rdL kn t (k + 1) p r = rdL kn t k (p + (Utf8.decode t p).2) r' := by
  conv => lhs; unfold rdL
  rw [if_pos h, if_neg (by rw [hb]; decide), hg]
theorem goes_ms {kn : ByteArray → Bool} {r r' : Rd} {c : Int} (h : goesS kn r c = some r') : r'.ms = r.ms := by
  unfold goesS at h
  (repeat' split at h) <;> first | (cases h; done) | (injection h with h; subst h; rfl)
abbrev rd0 (ms : Int) : Rd := ⟨0, 0, 0, -1, ms, ⟨#[]⟩⟩
theorem rd0_ok (ms : Int) (h1 : 1 ≤ ms) (h3 : ms ≤ 3) : (rd0 ms).ok 0 where
  wh0 := Int.le_refl 0
  wh1 := by show (0 : Int) ≤ 1125899906842624; decide
  dg0 := Int.le_refl 0
  dg1 := Int.le_refl 0
  ps0 := Int.le_refl _
  ps1 := by show (-1 : Int) ≤ ms; omega
  ms1 := h1
  ms3 := h3
  pt0 := Int.le_refl 0
  pt1 := fun _ => rfl
  pt2 := fun _ => by show (0 : Int) ≤ 9; decide
  pt3 := fun _ => by show (0 : Int) ≤ 99; decide
  pt4 := fun _ => by show (0 : Int) ≤ 999; decide
  sx1 := Nat.zero_le _
def ten (n : Nat) : Int := (10 ^ n : Nat)
/-- what read answers -/
def readS (kn en : ByteArray → Bool) (t : ByteArray) (ms : Int) : Rd × Int × Int :=
  if (rdL kn t (t.size + 1) 0 (rd0 ms)).2.2 = false then ((rdL kn t (t.size + 1) 0 (rd0 ms)).1, ((rdL kn t (t.size + 1) 0 (rd0 ms)).2.1 : Int), 4)
  else if (rdL kn t (t.size + 1) 0 (rd0 ms)).1.dg = 0 ∨ (rdL kn t (t.size + 1) 0 (rd0 ms)).1.ps = 0 ∨ en (rdL kn t (t.size + 1) 0 (rd0 ms)).1.sx = false then ((rdL kn t (t.size + 1) 0 (rd0 ms)).1, (t.size : Int), 3)
  else ({ (rdL kn t (t.size + 1) 0 (rd0 ms)).1 with pt := (rdL kn t (t.size + 1) 0 (rd0 ms)).1.pt * ten (ms - max (rdL kn t (t.size + 1) 0 (rd0 ms)).1.ps 0).toNat }, 0, 0)
/-- the state of the loop over runes -/
structure RQ (w W : World) (g it : Nat) (t : ByteArray) (r : Rd) (p : Nat) : Prop where
  i : W.heap[it]? = some (.stringIter t p)
  s : IsRd w W g r
  b : Below w.heap.size w W
theorem RQ.iter {w W : World} {g it : Nat} {t : ByteArray} {r : Rd} {p : Nat} (h : RQ w W g it t r p) (hg : g < it) (q : Nat) : RQ w (W.iterAt it t q) g it t r q := by
  have h1 := h.s.2
  exact ⟨Lib.iterAt_heap W it t p q h.i, ⟨(Lib.iterAt_other W it g t q (by omega)).trans h.s.1, h.s.2⟩, Lib.below_iterAt h.b (by omega) t q⟩
theorem below_at {g : Nat} {w W : World} (h : w.heap.size = g) (hb : Below w.heap.size w W) : Below g w W := h ▸ hb
theorem hp_bad (t : ByteArray) (p : Nat) (h : (Utf8.decode t p).1 ≠ 65533) : badR t p = false := by
  unfold badR
  rw [beq_eq_false_iff_ne.2 h]
  rfl

set_option maxRecDepth 100000 in
set_option maxHeartbeats 6400000 in
theorem readP_calls (A b : Nat) (t : ByteArray) (w : World) (ht : t.size ≤ 1000000) (hA : w.heap[A]? = some (.cells #[.map (some b)] 82 (0, 0))) (hS : IsSuf w b) :
    Calls Tryd.prog 67 #[.string t, .int .i64 3, .func (.func 61) #[] #[.pointer (some ⟨A, 0, none⟩)], .func (.func 66) #[] #[.pointer (some ⟨A, 0, none⟩)]] w fun e w' => e = .returned (.tuple #[.agg (readS begB endB t 3).1.cells, .int .i64 (readS begB endB t 3).2.1, .int .i64 (readS begB endB t 3).2.2]) ∧ Below w.heap.size w w' := by
  have hu56 := Tryd.underlying91
  have KN0 := Aside0.mk (And.intro hA hS)
  have hAl := blk_lt hA
  have hbl := hS.lt
  clear hA hS
  obtain ⟨g, hg⟩ : ∃ g, w.heap.size = g := ⟨_, rfl⟩
  obtain ⟨x, hx⟩ : ∃ x, rdL begB t (t.size + 1) 0 (rd0 3) = x := ⟨_, rfl⟩
  obtain ⟨res, hres⟩ : ∃ res, readS begB endB t 3 = res := ⟨_, rfl⟩
  have HRES : Aside0 (res = if x.2.2 = false then (x.1, (x.2.1 : Int), 4) else if x.1.dg = 0 ∨ x.1.ps = 0 ∨ endB x.1.sx = false then (x.1, (t.size : Int), 3) else ({ x.1 with pt := x.1.pt * ten (3 - max x.1.ps 0).toNat }, 0, 0)) := ⟨by
    rw [← hres, ← hx]
    rfl⟩
  have HX := Aside0.mk hx
  rw [hres]
  clear hres hx
  have HS0 : Aside0 (RQ w ((w.alloc (.cells (rd0 3).cells 91)).iter t 0) g (g + 1) t (rd0 3) 0) := ⟨by
    have h1 := heap_alloc_new w (.cells (rd0 3).cells 91)
    have hz : (w.alloc (.cells (rd0 3).cells 91)).heap.size = g + 1 := by rw [← hg]; simp
    have h2 : Below (w.alloc (.cells (rd0 3).cells 91)).heap.size (w.alloc (.cells (rd0 3).cells 91)) ((w.alloc (.cells (rd0 3).cells 91)).iter t 0) := below_alloc (Below.refl _ _) _
    have h3 := World.iter_heap (w.alloc (.cells (rd0 3).cells 91)) t 0
    rw [hz] at h3 h2
    rw [hg] at h1
    exact ⟨h3, ⟨(h2.block g (by omega)).trans h1, by omega⟩, below_then (below_alloc (Below.refl _ _) _) (by simp) (by rw [hz]; exact h2)⟩⟩
  obtain ⟨it, hit⟩ : ∃ it, g + 1 = it := ⟨_, rfl⟩
  rw [hit] at HS0
  go_enter Tryd.func67, Tryd.ntmps67
  go_wp2_with fail
  generalize (w.alloc (.cells (rd0 3).cells 91)).iter t 0 = W0 at *
  go_loopw [] (fun wr => ∃ (k p n : Nat) (r : Rd), t.size < k + p ∧ (n ≤ p ∧ n ≤ t.size) ∧ Aside0 (r.ok n) ∧ Aside0 (r.ms = 3) ∧ Aside0 (RQ w wr g it t r p) ∧ Aside0 (rdL begB t k p r = x)) (fun wr => t.size - wr.iterPos it)
  case atStart => exact ⟨t.size + 1, 0, 0, rd0 3, by omega, ⟨by omega, by omega⟩, ⟨rd0_ok _ (by decide) (by decide)⟩, ⟨rfl⟩, HS0, HX⟩
  case round =>
    clear HS0 HX
    obtain ⟨k, p, n, r, hk, hnp, OKR, HMS, HS, HE⟩ := hrel
    have hib := HS.out.i
    by_cases hlt : p < t.size
    · obtain ⟨k, rfl⟩ : ∃ j, k = j + 1 := ⟨k - 1, by omega⟩
      have hnx := Lib.run_next_any_at (P := Tryd.prog) wr it t p 0 hib hlt
      have HW := Aside0.mk (Lib.decode_width_pos t p hlt)
      have HCL := Aside0.mk (Go.decode_le t p)
      have H1 := Aside0.mk (HS.out.iter (show g < it by omega) (p + (Utf8.decode t p).2))
      have HI1 := Aside0.mk (Lib.iterAt_heap wr it t p (p + (Utf8.decode t p).2) hib)
      obtain ⟨W1, hW1⟩ : ∃ W1, wr.iterAt it t (p + (Utf8.decode t p).2) = W1 := ⟨_, rfl⟩
      rw [hW1] at hnx H1 HI1
      have HIB := Aside0.mk hib
      clear hib HS hW1
      obtain ⟨q, hq⟩ : ∃ q : Nat, (Utf8.decode t p).2 = q := ⟨_, rfl⟩
      obtain ⟨cn, hcn⟩ : ∃ cn : Nat, (Utf8.decode t p).1 = cn := ⟨_, rfl⟩
      have HDC := Aside0.mk (And.intro hcn hq)
      rw [hq] at HW H1 HI1
      rw [hcn] at HCL hnx
      clear hq hcn
      obtain ⟨c, hc⟩ : ∃ c : Int, (cn : Int) = c := ⟨_, rfl⟩
      rw [hc] at hnx
      have hc0 : 0 ≤ c := by omega
      have hc1 : c ≤ 2147483647 := by have := HCL.out; omega
      have hn1 : n ≤ 1000000 := by omega
      have HG := Aside0.mk (goesP_calls A b g n r c w W1 hc0 hc1 hn1 OKR.out H1.out.s H1.out.b (show KnP A b g W1 from ⟨(H1.out.b.block A (by omega)).trans KN0.out.1, KN0.out.2.below H1.out.b (by omega), by omega, by omega⟩))
      have HC := Aside0.mk hc
      by_cases h65 : c = 65533
      · subst h65
        have z1 : ((p : Int) ≤ (t.size : Int)) = True := eq_true (by omega)
        have z2 : (0 ≤ (p : Int)) = True := eq_true (by omega)
        have z3 : decide ((p : Int) ≤ (t.size : Int)) = true := decide_eq_true (by omega)
        have z4 : (p : Int).toNat = p := Int.toNat_natCast p
        go_wp2_with fail
        refine (Tryd.strings_HasPrefix _ _ _).mono ?_
        rintro _ W2 ⟨rfl, rfl⟩
        obtain ⟨hp, hhp⟩ : ∃ hp, Lib.hasPrefix (t.extract p t.size).data.toList (⟨#[239, 191, 189]⟩ : ByteArray).data.toList = hp := ⟨_, rfl⟩
        rw [hhp]
        have HHP := Aside0.mk hhp
        clear hhp hnx
        cases hp with
        | false =>
          have HB0 : Aside0 (badR t p = true) := ⟨by
            unfold badR
            have h1 : Lib.hasPrefix (t.extract p t.size).data.toList [239, 191, 189] = false := HHP.out
            rw [h1, HDC.out.1]
            have h2 : cn = 65533 := by have := HC.out; omega
            rw [h2]
            rfl⟩
          have HE2 : Aside0 (x = (r, p, false)) := ⟨HE.out.symm.trans (rdL_bad hlt HB0.out)⟩
          have HF := Aside0.mk (And.intro H1.out.s H1.out.b)
          have hq : res = (r, (p : Int), 4) := by rw [HRES.out, HE2.out]; rfl
          subst hq
          have c0_ := cellR_0 HF.out.1.1
          have c1_ := cellR_1 HF.out.1.1
          have c2_ := cellR_2 HF.out.1.1
          have c3_ := cellR_3 HF.out.1.1
          have c4_ := cellR_4 HF.out.1.1
          have c5_ := cellR_5 HF.out.1.1
          have f0_ := blk_frozen HF.out.1.1 0
          have f1_ := blk_frozen HF.out.1.1 1
          have f2_ := blk_frozen HF.out.1.1 2
          have f3_ := blk_frozen HF.out.1.1 3
          have f4_ := blk_frozen HF.out.1.1 4
          have f5_ := blk_frozen HF.out.1.1 5
          clear HRES
          go_wp2_with fail
          (try simp only [Exit.inBlock, Exit.then])
          refine bodyPost_ret (results_ctt rfl _ _ g 91 (Rd.cells r) (0, 0) _ rfl ((((((HF.out.1.set_0 _).set_1 _).set_2 _).set_3 _).set_4 _).set_5 _).1 hu56 rfl (by kernel_rfl)) rfl ?_
          exact ⟨rfl, below_at hg (below_set (below_set (below_set (below_set (below_set (below_set HF.out.2 HF.out.1.ge) HF.out.1.ge) HF.out.1.ge) HF.out.1.ge) HF.out.1.ge) HF.out.1.ge)⟩
        | true =>
          have HB0 : Aside0 (badR t p = false) := ⟨by
            unfold badR
            have h1 : Lib.hasPrefix (t.extract p t.size).data.toList [239, 191, 189] = true := HHP.out
            rw [h1]
            simp⟩
          go_wp2_with fail
          refine HG.out.mono ?_
          rintro _ W2 ⟨rfl, hL⟩
          have HL := Aside0.mk hL
          clear hL HG
          have HGE : Aside0 (goesS begB r 65533 = goesS begB r 65533) := ⟨rfl⟩
          obtain ⟨gr, hgr⟩ : ∃ gr, goesS begB r 65533 = gr := ⟨_, rfl⟩
          rw [hgr] at HL ⊢
          have HGR := Aside0.mk hgr
          clear hgr HGE
          have hgd : goesS begB r (((Utf8.decode t p).1 : Nat) : Int) = gr := by rw [HDC.out.1, HC.out]; exact HGR.out
          have HGD := Aside0.mk hgd
          clear hgd
          cases gr with
          | none =>
            have HE2 : Aside0 (x = (r, p, false)) := ⟨HE.out.symm.trans (rdL_none hlt HB0.out HGD.out)⟩
            have HF : Aside0 (IsRd w W2 g r ∧ Below w.heap.size w W2) := ⟨⟨HL.out.1, HL.out.2.1⟩⟩
            have hq : res = (r, (p : Int), 4) := by rw [HRES.out, HE2.out]; rfl
            subst hq
            have c0_ := cellR_0 HF.out.1.1
            have c1_ := cellR_1 HF.out.1.1
            have c2_ := cellR_2 HF.out.1.1
            have c3_ := cellR_3 HF.out.1.1
            have c4_ := cellR_4 HF.out.1.1
            have c5_ := cellR_5 HF.out.1.1
            have f0_ := blk_frozen HF.out.1.1 0
            have f1_ := blk_frozen HF.out.1.1 1
            have f2_ := blk_frozen HF.out.1.1 2
            have f3_ := blk_frozen HF.out.1.1 3
            have f4_ := blk_frozen HF.out.1.1 4
            have f5_ := blk_frozen HF.out.1.1 5
            clear HRES
            go_wp2_with fail
            (try simp only [Exit.inBlock, Exit.then])
            refine bodyPost_ret (results_ctt rfl _ _ g 91 (Rd.cells r) (0, 0) _ rfl ((((((HF.out.1.set_0 _).set_1 _).set_2 _).set_3 _).set_4 _).set_5 _).1 hu56 rfl (by kernel_rfl)) rfl ?_
            exact ⟨rfl, below_at hg (below_set (below_set (below_set (below_set (below_set (below_set HF.out.2 HF.out.1.ge) HF.out.1.ge) HF.out.1.ge) HF.out.1.ge) HF.out.1.ge) HF.out.1.ge)⟩
          | some r' =>
            have HE2 : Aside0 (rdL begB t k (p + q) r' = x) := ⟨by have h := (rdL_some (k := k) hlt HB0.out HGD.out).symm.trans HE.out; rw [HDC.out.2] at h; exact h⟩
            have hi2 : W2.heap[it]? = some (.stringIter t (p + q)) := (HL.out.2.2.2 it (blk_lt HI1.out) (by omega) (by simp)).trans HI1.out
            have HQ2 : Aside0 (RQ w W2 g it t r' (p + q)) := ⟨⟨hi2, HL.out.1, HL.out.2.1⟩⟩
            have HI2 := Aside0.mk hi2
            clear hi2
            go_wp2_with fail
            go_roundw
            case rel => exact ⟨k, p + q, n + 1, r', by have := HW.out; omega, ⟨by have := HW.out; omega, by omega⟩, ⟨goes_ok OKR.out HGD.out⟩, ⟨(goes_ms HGD.out).trans HMS.out⟩, HQ2, HE2⟩
            case measure =>
              unfold World.iterPos
              rw [HI2.out, HIB.out]
              dsimp only
              have := HW.out
              omega
      · have h66 : (c == 65533) = false := by simpa using h65
        have HB0 : Aside0 (badR t p = false) := ⟨hp_bad t p (by rw [HDC.out.1]; intro h; exact h65 (by rw [← HC.out, h]; rfl))⟩
        go_wp2_with fail
        clear hnx
        refine HG.out.mono ?_
        rintro _ W2 ⟨rfl, hL⟩
        have HL := Aside0.mk hL
        clear hL HG
        have HGE : Aside0 (goesS begB r c = goesS begB r c) := ⟨rfl⟩
        obtain ⟨gr, hgr⟩ : ∃ gr, goesS begB r c = gr := ⟨_, rfl⟩
        rw [hgr] at HL ⊢
        have HGR := Aside0.mk hgr
        clear hgr HGE
        have hgd : goesS begB r (((Utf8.decode t p).1 : Nat) : Int) = gr := by rw [HDC.out.1, HC.out]; exact HGR.out
        have HGD := Aside0.mk hgd
        clear hgd
        cases gr with
        | none =>
          have HE2 : Aside0 (x = (r, p, false)) := ⟨HE.out.symm.trans (rdL_none hlt HB0.out HGD.out)⟩
          have HF : Aside0 (IsRd w W2 g r ∧ Below w.heap.size w W2) := ⟨⟨HL.out.1, HL.out.2.1⟩⟩
          have hq : res = (r, (p : Int), 4) := by rw [HRES.out, HE2.out]; rfl
          subst hq
          have c0_ := cellR_0 HF.out.1.1
          have c1_ := cellR_1 HF.out.1.1
          have c2_ := cellR_2 HF.out.1.1
          have c3_ := cellR_3 HF.out.1.1
          have c4_ := cellR_4 HF.out.1.1
          have c5_ := cellR_5 HF.out.1.1
          have f0_ := blk_frozen HF.out.1.1 0
          have f1_ := blk_frozen HF.out.1.1 1
          have f2_ := blk_frozen HF.out.1.1 2
          have f3_ := blk_frozen HF.out.1.1 3
          have f4_ := blk_frozen HF.out.1.1 4
          have f5_ := blk_frozen HF.out.1.1 5
          clear HRES
          go_wp2_with fail
          (try simp only [Exit.inBlock, Exit.then])
          refine bodyPost_ret (results_ctt rfl _ _ g 91 (Rd.cells r) (0, 0) _ rfl ((((((HF.out.1.set_0 _).set_1 _).set_2 _).set_3 _).set_4 _).set_5 _).1 hu56 rfl (by kernel_rfl)) rfl ?_
          exact ⟨rfl, below_at hg (below_set (below_set (below_set (below_set (below_set (below_set HF.out.2 HF.out.1.ge) HF.out.1.ge) HF.out.1.ge) HF.out.1.ge) HF.out.1.ge) HF.out.1.ge)⟩
        | some r' =>
          have HE2 : Aside0 (rdL begB t k (p + q) r' = x) := ⟨by have h := (rdL_some (k := k) hlt HB0.out HGD.out).symm.trans HE.out; rw [HDC.out.2] at h; exact h⟩
          have hi2 : W2.heap[it]? = some (.stringIter t (p + q)) := (HL.out.2.2.2 it (blk_lt HI1.out) (by omega) (by simp)).trans HI1.out
          have HQ2 : Aside0 (RQ w W2 g it t r' (p + q)) := ⟨⟨hi2, HL.out.1, HL.out.2.1⟩⟩
          have HI2 := Aside0.mk hi2
          clear hi2
          go_wp2_with fail
          go_roundw
          case rel => exact ⟨k, p + q, n + 1, r', by have := HW.out; omega, ⟨by have := HW.out; omega, by omega⟩, ⟨goes_ok OKR.out HGD.out⟩, ⟨(goes_ms HGD.out).trans HMS.out⟩, HQ2, HE2⟩
          case measure =>
            unfold World.iterPos
            rw [HI2.out, HIB.out]
            dsimp only
            have := HW.out
            omega
    · have hnx := Lib.run_next_end_at (P := Tryd.prog) wr it t p 0 hib hlt
      have HX : Aside0 (x = (r, p, true)) := ⟨HE.out.symm.trans (rdL_end hlt)⟩
      have HF := Aside0.mk (And.intro HS.out.s HS.out.b)
      clear HE HS hib
      obtain ⟨wh, dg, pt, ps, ms, sx⟩ := r
      obtain rfl : ms = 3 := HMS.out
      have HRES2 : Aside0 (res = if dg = 0 ∨ ps = 0 ∨ endB sx = false then (⟨wh, dg, pt, ps, 3, sx⟩, (t.size : Int), 3) else (⟨wh, dg, pt * ten (3 - max ps 0).toNat, ps, 3, sx⟩, 0, 0)) := ⟨by rw [HRES.out, HX.out]; rfl⟩
      clear HRES HX
      have c0_ := cellR_0 HF.out.1.1
      have c1_ := cellR_1 HF.out.1.1
      have c2_ := cellR_2 HF.out.1.1
      have c3_ := cellR_3 HF.out.1.1
      have c4_ := cellR_4 HF.out.1.1
      have c5_ := cellR_5 HF.out.1.1
      have f0_ := blk_frozen HF.out.1.1 0
      have f1_ := blk_frozen HF.out.1.1 1
      have f2_ := blk_frozen HF.out.1.1 2
      have f3_ := blk_frozen HF.out.1.1 3
      have f4_ := blk_frozen HF.out.1.1 4
      have f5_ := blk_frozen HF.out.1.1 5
      dsimp only at c0_ c1_ c2_ c3_ c4_ c5_
      by_cases hdg : dg = 0
      · have hq : res = (⟨wh, dg, pt, ps, 3, sx⟩, (t.size : Int), 3) := by rw [HRES2.out, if_pos (Or.inl hdg)]
        subst hq
        clear HRES2
        have i1 : (dg == 0) = true := by simpa using hdg
        clear hdg
        go_wp2_with fail
        (try simp only [Exit.inBlock, Exit.then])
        refine bodyPost_ret (results_ctt rfl _ _ g 91 (Rd.cells ⟨wh, dg, pt, ps, 3, sx⟩) (0, 0) _ rfl ((((((HF.out.1.set_0 _).set_1 _).set_2 _).set_3 _).set_4 _).set_5 _).1 hu56 rfl (by kernel_rfl)) rfl ?_
        exact ⟨rfl, below_at hg (below_set (below_set (below_set (below_set (below_set (below_set HF.out.2 HF.out.1.ge) HF.out.1.ge) HF.out.1.ge) HF.out.1.ge) HF.out.1.ge) HF.out.1.ge)⟩
      · have i1 : (dg == 0) = false := by simpa using hdg
        by_cases hps : ps = 0
        · have hq : res = (⟨wh, dg, pt, ps, 3, sx⟩, (t.size : Int), 3) := by rw [HRES2.out, if_pos (Or.inr (Or.inl hps))]
          subst hq
          clear HRES2
          have i2 : (ps == 0) = true := by simpa using hps
          clear hps hdg
          go_wp2_with fail
          (try simp only [Exit.inBlock, Exit.then])
          refine bodyPost_ret (results_ctt rfl _ _ g 91 (Rd.cells ⟨wh, dg, pt, ps, 3, sx⟩) (0, 0) _ rfl ((((((HF.out.1.set_0 _).set_1 _).set_2 _).set_3 _).set_4 _).set_5 _).1 hu56 rfl (by kernel_rfl)) rfl ?_
          exact ⟨rfl, below_at hg (below_set (below_set (below_set (below_set (below_set (below_set HF.out.2 HF.out.1.ge) HF.out.1.ge) HF.out.1.ge) HF.out.1.ge) HF.out.1.ge) HF.out.1.ge)⟩
        · have i2 : (ps == 0) = false := by simpa using hps
          have hsz : sx.size ≤ maxLen := by have h1 := OKR.out.sx1; dsimp only at h1; unfold maxLen; omega
          have CE := Aside0.mk (ends_c A b sx wr hsz ((HF.out.2.block A (by omega)).trans KN0.out.1) (KN0.out.2.below HF.out.2 (by omega)))
          obtain ⟨eq, heq⟩ : ∃ eq, endB sx = eq := ⟨_, rfl⟩
          rw [heq] at HRES2 CE
          clear heq
          cases eq with
          | false =>
            have hq : res = (⟨wh, dg, pt, ps, 3, sx⟩, (t.size : Int), 3) := by rw [HRES2.out, if_pos (Or.inr (Or.inr rfl))]
            subst hq
            clear HRES2 hps hdg
            go_wp2_with fail
            refine CE.out.mono ?_
            rintro _ W2 ⟨rfl, hb⟩
            have HF2 := Aside0.mk (And.intro (HF.out.1.below hb) (below_then HF.out.2 HF.out.2.size hb))
            clear hb CE c0_ c1_ c2_ c3_ c4_ c5_ f0_ f1_ f2_ f3_ f4_ f5_
            have c0_ := cellR_0 HF2.out.1.1
            have c1_ := cellR_1 HF2.out.1.1
            have c2_ := cellR_2 HF2.out.1.1
            have c3_ := cellR_3 HF2.out.1.1
            have c4_ := cellR_4 HF2.out.1.1
            have c5_ := cellR_5 HF2.out.1.1
            have f0_ := blk_frozen HF2.out.1.1 0
            have f1_ := blk_frozen HF2.out.1.1 1
            have f2_ := blk_frozen HF2.out.1.1 2
            have f3_ := blk_frozen HF2.out.1.1 3
            have f4_ := blk_frozen HF2.out.1.1 4
            have f5_ := blk_frozen HF2.out.1.1 5
            dsimp only at c0_ c1_ c2_ c3_ c4_ c5_
            go_wp2_with fail
            (try simp only [Exit.inBlock, Exit.then])
            refine bodyPost_ret (results_ctt rfl _ _ g 91 (Rd.cells ⟨wh, dg, pt, ps, 3, sx⟩) (0, 0) _ rfl ((((((HF2.out.1.set_0 _).set_1 _).set_2 _).set_3 _).set_4 _).set_5 _).1 hu56 rfl (by kernel_rfl)) rfl ?_
            exact ⟨rfl, below_at hg (below_set (below_set (below_set (below_set (below_set (below_set HF2.out.2 HF2.out.1.ge) HF2.out.1.ge) HF2.out.1.ge) HF2.out.1.ge) HF2.out.1.ge) HF2.out.1.ge)⟩
          | true =>
            have hq : res = (⟨wh, dg, pt * ten (3 - max ps 0).toNat, ps, 3, sx⟩, 0, 0) := by rw [HRES2.out, if_neg (fun h => h.elim hdg (fun h => h.elim hps (fun h => by cases h)))]
            clear HRES2 hdg hps
            obtain ⟨m0, hm0⟩ : ∃ m0, max ps 0 = m0 := ⟨_, rfl⟩
            rw [hm0] at hq
            have HM0 := Aside0.mk hm0
            have hb0 : 0 ≤ m0 ∧ m0 ≤ 3 := by have h1 := OKR.out.ps1; have h2 := OKR.out.ps0; dsimp only at h1 h2; omega
            have hpt : 0 ≤ pt ∧ pt ≤ 999 := by
              have h0 := OKR.out.pt0; have h1 := OKR.out.pt1; have h2 := OKR.out.pt2; have h3 := OKR.out.pt3; have h4 := OKR.out.pt4; have h5 := OKR.out.ps1
              dsimp only at h0 h1 h2 h3 h4 h5
              have hc : ps ≤ 0 ∨ ps = 1 ∨ ps = 2 ∨ ps = 3 := by omega
              rcases hc with h | h | h | h
              · have := h1 h; omega
              · have := h2 h; omega
              · have := h3 h; omega
              · exact ⟨h0, h4 h⟩
            have HQ := Aside0.mk hq
            clear hq
            go_wp2_with fail
            refine CE.out.mono ?_
            rintro _ W2 ⟨rfl, hb⟩
            have HF2 := Aside0.mk (And.intro (HF.out.1.below hb) (below_then HF.out.2 HF.out.2.size hb))
            clear hb CE c0_ c1_ c2_ c3_ c4_ c5_ f0_ f1_ f2_ f3_ f4_ f5_
            have c0_ := cellR_0 HF2.out.1.1
            have c1_ := cellR_1 HF2.out.1.1
            have c2_ := cellR_2 HF2.out.1.1
            have c3_ := cellR_3 HF2.out.1.1
            have c4_ := cellR_4 HF2.out.1.1
            have c5_ := cellR_5 HF2.out.1.1
            have f0_ := blk_frozen HF2.out.1.1 0
            have f1_ := blk_frozen HF2.out.1.1 1
            have f2_ := blk_frozen HF2.out.1.1 2
            have f3_ := blk_frozen HF2.out.1.1 3
            have f4_ := blk_frozen HF2.out.1.1 4
            have f5_ := blk_frozen HF2.out.1.1 5
            dsimp only at c0_ c1_ c2_ c3_ c4_ c5_
            go_wp2_with fail
            clear c0_ c1_ c2_ c3_ c4_ c5_ f0_ f1_ f2_ f3_ f4_ f5_
            go_loopw [13] (fun v wr => ∃ j : Nat, v = .int .i64 (m0 + (j : Int)) ∧ m0 + (j : Int) ≤ 3 ∧ Aside0 (IsRd w wr g ⟨wh, dg, pt * ten j, ps, 3, sx⟩) ∧ Aside0 (Below w.heap.size w wr)) (fun v _ => (3 - intOf v).toNat)
            case atStart =>
              refine ⟨0, by first | (rw [← HM0.out]; simp; done) | (simp; done), by omega, ⟨?_⟩, ⟨HF2.out.2⟩⟩
              rw [show pt * ten 0 = pt from Int.mul_one pt]
              exact HF2.out.1
            case round =>
              obtain ⟨j, rfl, hj, HI, HB⟩ := hrel
              obtain ⟨ptj, hptj⟩ : ∃ ptj, pt * ten j = ptj := ⟨_, rfl⟩
              have HP := Aside0.mk hptj
              rw [hptj] at HI
              clear hptj
              have c0_ := cellR_0 HI.out.1
              have c1_ := cellR_1 HI.out.1
              have c2_ := cellR_2 HI.out.1
              have c3_ := cellR_3 HI.out.1
              have c4_ := cellR_4 HI.out.1
              have c5_ := cellR_5 HI.out.1
              have f0_ := blk_frozen HI.out.1 0
              have f1_ := blk_frozen HI.out.1 1
              have f2_ := blk_frozen HI.out.1 2
              have f3_ := blk_frozen HI.out.1 3
              have f4_ := blk_frozen HI.out.1 4
              have f5_ := blk_frozen HI.out.1 5
              dsimp only at c0_ c1_ c2_ c3_ c4_ c5_
              by_cases hlt : m0 + (j : Int) < 3
              · have i8 : decide (m0 + (j : Int) < 3) = true := decide_eq_true hlt
                have hw : wrap64 (ptj * 10) = pt * ten (j + 1) := by
                  rw [← HP.out]
                  have hc : j = 0 ∨ j = 1 ∨ j = 2 := by omega
                  rcases hc with rfl | rfl | rfl
                  · show wrap64 (pt * 1 * 10) = pt * 10; unfold wrap64; omega
                  · show wrap64 (pt * 10 * 10) = pt * 100; unfold wrap64; omega
                  · show wrap64 (pt * 100 * 10) = pt * 1000; unfold wrap64; omega
                have hw2 : wrap64 (m0 + (j : Int) + 1) = m0 + ((j + 1 : Nat) : Int) := by unfold wrap64; omega
                obtain ⟨ptn, hptn⟩ : ∃ ptn, pt * ten (j + 1) = ptn := ⟨_, rfl⟩
                rw [hptn] at hw
                have HPN := Aside0.mk hptn
                clear hptn
                go_wp2_with fail
                go_roundw
                case rel => exact ⟨j + 1, by first | rfl | (congr 1; omega), by omega, ⟨by rw [HPN.out]; exact HI.out.set_2 _⟩, ⟨below_set HB.out HI.out.ge⟩⟩
                case measure => simp [intOf]; omega
              · have i8 : decide (m0 + (j : Int) < 3) = false := decide_eq_false hlt
                have hjj : (3 - m0).toNat = j := by omega
                have hq := HQ.out
                rw [hjj, HP.out] at hq
                subst hq
                clear HQ HP
                go_wp2_with fail
                (try simp only [Exit.inBlock, Exit.then])
                refine bodyPost_ret (results_ctt rfl _ _ g 91 (Rd.cells ⟨wh, dg, ptj, ps, 3, sx⟩) (0, 0) _ rfl ((((((HI.out.set_0 _).set_1 _).set_2 _).set_3 _).set_4 _).set_5 _).1 hu56 rfl (by kernel_rfl)) rfl ?_
                exact ⟨rfl, below_at hg (below_set (below_set (below_set (below_set (below_set (below_set HB.out HI.out.ge) HI.out.ge) HI.out.ge) HI.out.ge) HI.out.ge) HI.out.ge)⟩

end Go.Proofs.YtceepgleeelohaaDoor.P
