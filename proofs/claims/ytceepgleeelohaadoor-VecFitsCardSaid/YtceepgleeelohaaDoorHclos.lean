import Derived.Test.YtceepgleeelohaaDoorHmap
import Derived.Test.YtceepgleeelohaaDoorHchecked
/- The closures of quant.Parse: begins, ends; and the one of Percent. -/
namespace Go.Proofs.YtceepgleeelohaaDoor.P
set_option linter.unusedVariables false
set_option linter.unusedSimpArgs false
open Go.RowKit Go.Maps Go.Proofs.YtceepgleeelohaaDoorW.PrintWords Go.Proofs.YtceepgleeelohaaDoorW.PrintLast Go.Proofs.YtceepgleeelohaaDoorW.PrintMore
theorem keys_c (mb : Option Nat) (W : World) : Calls Tryd.prog 64 #[.map mb] W fun e w' => e = .returned (.func (.func 80) #[] #[.pointer (some ⟨W.heap.size, 0, none⟩)]) ∧ w' = W.alloc (.cells #[.map mb] 82) :=
  (callsIn_wide (n := 5)).1 (AnyZ.keys_in Tryd.keysA Fence.wide 5 trivial rfl mb W)
theorem coll_c (Bm b : Nat) (W : World) (hB : Bm < W.heap.size) (hm : W.cell? ⟨Bm, 0, none⟩ = some (.map (some b))) (hS : IsSuf W b) :
    Calls Tryd.prog 63 #[.func (.func 80) #[] #[.pointer (some ⟨Bm, 0, none⟩)]] W fun e w' => ∃ (v : Value) (ss : List (List UInt8)), e = .returned v ∧ ss.Perm (strKeys SUF) ∧ w'.ownsRow W.heap.size 9 1 v ss.length (ss.map encStr) ∧ Below W.heap.size W w' := by
  have hseq : SeqGives Fence.wide 3 Tryd.prog 80 #[.pointer (some ⟨Bm, 0, none⟩)] encStr (fun ss => ss.Perm (strKeys SUF)) (Maps.size SUF) W :=
    AnyZ.keys_gives (ρ := Tryd.keysA_ren) { Tryd.keysA with } Fence.wide _ trivial rfl (by omega) Bm b 8 SUF W hB hm hS
  have c := AnyZ.collect_in Tryd.collA Fence.wide 5 trivial trivial rfl (by omega) 80 #[.pointer (some ⟨Bm, 0, none⟩)] trivial (enters_of Tryd.func80 (by kernel_rfl) rfl) _ _ (by rw [suf_size]; unfold maxLen; decide) (by rw [suf_size]; decide) W hseq
  refine ((callsIn_wide (n := 5)).1 c).mono ?_
  rintro e w' ⟨v, ss, h1, h2, h3, _, h5⟩
  exact ⟨v, ss, h1, h2, h3, h5⟩
theorem pre_c (k s : ByteArray) (B : Nat) (W : World) (hB : W.cell? ⟨B, 0, none⟩ = some (.string s)) :
    Calls Tryd.prog 65 #[.string k, .pointer (some ⟨B, 0, none⟩)] W fun e w' => e = .returned (.bool (Lib.hasPrefix k.data.toList s.data.toList)) ∧ w' = W := by
  go_enter Tryd.func65, Tryd.ntmps65
  go_wp2_with fail
  refine (Tryd.strings_HasPrefix k s W).mono ?_
  rintro e w' ⟨rfl, rfl⟩
  go_wp2_with fail
  go_ret
  exact ⟨rfl, rfl⟩
set_option maxRecDepth 100000 in
set_option maxHeartbeats 800000 in
theorem idx_pre (g cap B : Nat) (ss : List (List UInt8)) (s : ByteArray) (w : World) (hn : ss.length ≤ 100) (hc : ∀ j (h : j < ss.length), w.cell? ⟨g, j, none⟩ = some (encStr ss[j])) (hB : w.cell? ⟨B, 0, none⟩ = some (.string s)) :
    Calls Tryd.prog 78 #[.slice (some ⟨g, 0, none⟩) ss.length cap, .func (.func 65) #[] #[.pointer (some ⟨B, 0, none⟩)]] w fun e w' => e = .returned (.int .i64 (findI (fun k => Lib.hasPrefix k s.data.toList) 0 ss)) ∧ w' = w := by
  have HR := Aside0.mk (And.intro hc hB)
  clear hc hB
  obtain ⟨res, hres⟩ : ∃ res, findI (fun k => Lib.hasPrefix k s.data.toList) 0 ss = res := ⟨_, rfl⟩
  have H0 := Aside0.mk hres
  rw [hres]
  clear hres
  go_enter Tryd.func78, Tryd.ntmps78
  go_wp2_with fail
  go_loopw [8] (fun v wr => ∃ k : Nat, k ≤ ss.length ∧ v = .int .i64 k ∧ Aside0 (findI (fun k => Lib.hasPrefix k s.data.toList) k (ss.drop k) = res) ∧ Aside0 (wr = w)) (fun v _ => ss.length - (intOf v).toNat)
  case atStart => exact ⟨0, Nat.zero_le _, rfl, H0, ⟨rfl⟩⟩
  case round =>
    obtain ⟨k, hk, rfl, HF, HE⟩ := hrel
    by_cases hlt : k < ss.length
    · have hf := HF.out
      rw [findI_on _ _ _ hlt] at hf
      have HF1 := Aside0.mk hf
      clear hf HF
      have l0_ := HR.out.1 k hlt
      have hB0 := HR.out.2
      rw [← HE.out] at l0_ hB0
      have e0 : encStr ss[k] = .string ⟨ss[k].toArray⟩ := rfl
      rw [e0] at l0_
      have HB0 := Aside0.mk hB0
      clear hB0 e0
      have hx : (⟨ss[k].toArray⟩ : ByteArray).data.toList = ss[k] := rfl
      generalize hy : (⟨ss[k].toArray⟩ : ByteArray) = x at l0_ hx
      have HF2 : Aside0 ((if Lib.hasPrefix x.data.toList s.data.toList = true then (k : Int) else findI (fun k => Lib.hasPrefix k s.data.toList) (k + 1) (ss.drop (k + 1))) = res) := ⟨by rw [hx]; exact HF1.out⟩
      clear HF1 hx hy
      go_wp2_with fail
      refine (pre_c x s B _ HB0.out).mono ?_
      rintro _ W2 ⟨rfl, rfl⟩
      clear l0_ HB0
      cases hp : Lib.hasPrefix x.data.toList s.data.toList with
      | true =>
        have hq : res = (k : Int) := by have := HF2.out; rw [if_pos hp] at this; exact this.symm
        clear HF2 hp
        subst hq
        go_wp2_with fail
        go_ret
        exact ⟨rfl, HE.out⟩
      | false =>
        have HF3 : Aside0 (findI (fun k => Lib.hasPrefix k s.data.toList) (k + 1) (ss.drop (k + 1)) = res) := ⟨by have := HF2.out; rw [if_neg (by rw [hp]; simp)] at this; exact this⟩
        clear HF2 hp
        go_wp2_with fail
        go_roundw
        case rel => exact ⟨k + 1, by omega, by go_num, HF3, HE⟩
        case measure => simp [intOf]; omega
    · have hq : res = -1 := by
        have := HF.out
        rw [List.drop_of_length_le (by omega)] at this
        exact this.symm
      subst hq
      clear HF
      go_wp2_with fail
      go_ret
      exact ⟨rfl, HE.out⟩
theorem has_pre (g cap B : Nat) (ss : List (List UInt8)) (s : ByteArray) (w : World) (hn : ss.length ≤ 100) (hc : ∀ j (h : j < ss.length), w.cell? ⟨g, j, none⟩ = some (encStr ss[j])) (hB : w.cell? ⟨B, 0, none⟩ = some (.string s)) :
    Calls Tryd.prog 62 #[.slice (some ⟨g, 0, none⟩) ss.length cap, .func (.func 65) #[] #[.pointer (some ⟨B, 0, none⟩)]] w fun e w' => e = .returned (.bool (ss.any fun k => Lib.hasPrefix k s.data.toList)) ∧ w' = w := by
  have HR := Aside0.mk (And.intro hc hB)
  clear hc hB
  obtain ⟨res, hres⟩ : ∃ res, (ss.any fun k => Lib.hasPrefix k s.data.toList) = res := ⟨_, rfl⟩
  have hfa := findI_any (fun k => Lib.hasPrefix k s.data.toList) ss 0
  rw [hres] at hfa ⊢
  have HA := Aside0.mk hfa
  clear hres hfa
  go_enter Tryd.func62, Tryd.ntmps62
  go_wp2_with fail
  refine (idx_pre g cap B ss s _ hn HR.out.1 HR.out.2).mono ?_
  rintro _ W2 ⟨rfl, rfl⟩
  generalize findI (fun k => Lib.hasPrefix k s.data.toList) 0 ss = i at HA ⊢
  go_wp2_with fail
  go_ret
  exact ⟨by rw [← HA.out]; first | rfl | (congr 2; apply decide_eq_decide.2; constructor <;> intro h <;> omega), rfl⟩
/-- does a suffix begin so? -/
def begB (s : ByteArray) : Bool := (sufE.map (·.1)).any fun k => Lib.hasPrefix k s.data.toList
def endB (s : ByteArray) : Bool := (sufV s.data.toList).isSome
def pctB (s : ByteArray) : Bool := s.toList == [37]
set_option maxRecDepth 100000 in
set_option maxHeartbeats 1600000 in
theorem begins_c (A b : Nat) (s : ByteArray) (w : World) (hA : w.heap[A]? = some (.cells #[.map (some b)] 82 (0, 0))) (hS : IsSuf w b) :
    Calls Tryd.prog 61 #[.string s, .pointer (some ⟨A, 0, none⟩)] w fun e w' => e = .returned (.bool (begB s)) ∧ Below w.heap.size w w' := by
  have hAl := blk_lt hA
  have hbl := hS.lt
  obtain ⟨B, hB⟩ : ∃ B, w.heap.size = B := ⟨_, rfl⟩
  obtain ⟨W0, hW0⟩ : ∃ W0, w.alloc (.cells #[.string s] 9) = W0 := ⟨_, rfl⟩
  have hb0 : Below B w W0 := by rw [← hW0, ← hB]; exact below_alloc (Below.refl _ _) _
  have hS0 : IsSuf W0 b := hS.below hb0 (by omega)
  have hA0 : W0.heap[A]? = some (.cells #[.map (some b)] 82 (0, 0)) := (hb0.block A (by omega)).trans hA
  have hs0 : W0.heap[B]? = some (.cells #[.string s] 9 (0, 0)) := by rw [← hW0, ← hB]; exact heap_alloc_new w _
  have hz0 : W0.heap.size = B + 1 := by rw [← hW0, ← hB]; simp
  have cA : W0.cell? ⟨A, 0, none⟩ = some (.map (some b)) := (blk_cell hA0 0).trans rfl
  have HH := Aside0.mk (And.intro hb0 (And.intro hS0 (And.intro hs0 (And.intro hz0 hbl))))
  clear hb0 hS0 hA0 hs0 hz0 hS hA hbl hAl
  obtain ⟨res, hres⟩ : ∃ res, begB s = res := ⟨_, rfl⟩
  rw [hres]
  have HX := Aside0.mk hres
  clear hres
  go_enter Tryd.func61, Tryd.ntmps61
  go_wp2_with fail
  refine (keys_c (some b) W0).mono ?_
  rintro _ W1 ⟨rfl, hW1⟩
  have h01 : Below W0.heap.size W0 W1 := by rw [hW1]; exact below_alloc (Below.refl _ _) _
  have hm1 : W1.cell? ⟨W0.heap.size, 0, none⟩ = some (.map (some b)) := (blk_cell (by rw [hW1]; exact heap_alloc_new W0 _) 0).trans rfl
  have hz1 : W0.heap.size < W1.heap.size := by rw [hW1]; simp
  have hS1 : IsSuf W1 b := HH.out.2.1.below h01 (by have := HH.out.2.2.2.2; have := HH.out.2.2.2.1; omega)
  have C := Aside0.mk (coll_c W0.heap.size b W1 hz1 hm1 hS1)
  have H1 := Aside0.mk h01
  clear hm1 hS1 hW1 h01 hz1 cA
  go_wp2_with fail
  refine C.out.mono ?_
  rintro _ W2 ⟨v, ss, rfl, hp, hr, hb2⟩
  have hlen : ss.length = 8 := by rw [hp.length_eq, suf_keys]; rfl
  obtain ⟨g, cap, rfl, hg, hg2⟩ := hr.form (by omega)
  have hb02 : Below W0.heap.size W0 W2 := H1.out.trans (hb2.mono H1.out.size)
  have hs2 : W2.cell? ⟨B, 0, none⟩ = some (.string s) := (blk_cell ((hb02.block B (by have := HH.out.2.2.2.1; omega)).trans HH.out.2.2.1) 0).trans rfl
  have hcells : ∀ j (h : j < ss.length), W2.cell? ⟨g, j, none⟩ = some (encStr ss[j]) := by
    intro j h
    rw [hr.cellAt j (by omega), List.getElem?_map, List.getElem?_eq_getElem h]
    rfl
  have C2 := Aside0.mk (has_pre g cap B ss s W2 (by omega) hcells hs2)
  have HB := Aside0.mk (HH.out.1.trans (hb02.mono (by have := HH.out.2.2.2.1; omega)))
  have HE : Aside0 ((ss.any fun k => Lib.hasPrefix k s.data.toList) = res) := ⟨by rw [← HX.out]; unfold begB; rw [← suf_keys]; exact hp.any_eq⟩
  clear hp hr hb2 hg hg2 hb02 hs2 hcells C H1 hlen
  go_wp2_with fail
  refine C2.out.mono ?_
  rintro _ W3 ⟨rfl, rfl⟩
  rw [HE.out]
  go_wp2_with fail
  go_ret
  exact ⟨rfl, by rw [hB]; exact HB.out⟩
theorem ends_c (A b : Nat) (s : ByteArray) (w : World) (hs : s.size ≤ maxLen) (hA : w.heap[A]? = some (.cells #[.map (some b)] 82 (0, 0))) (hS : IsSuf w b) :
    Calls Tryd.prog 66 #[.string s, .pointer (some ⟨A, 0, none⟩)] w fun e w' => e = .returned (.bool (endB s)) ∧ Below w.heap.size w w' := by
  have cA : w.cell? ⟨A, 0, none⟩ = some (.map (some b)) := (blk_cell hA 0).trans rfl
  obtain ⟨c, hl⟩ := suf_ok hS s hs
  unfold endB
  generalize (sufV s.data.toList).isSome = res at hl ⊢
  clear hA hS
  go_enter Tryd.func66, Tryd.ntmps66
  go_wp2_with fail
  go_ret
  exact ⟨rfl, Below.refl _ _⟩
end Go.Proofs.YtceepgleeelohaaDoor.P
