import Derived.Test.YtkpoipjgbdcdjaaDoorPf9
import Derived.Test.YtkpoipjgbdcdjaaDoorPureQuantParses
import Derived.Test.YtkpoipjgbdcdjaaDoorPureQuantPrints
import Derived.Test.YtkpoipjgbdcdjaaDoorPureQuantReckons
namespace Go.Proofs.YtkpoipjgbdcdjaaDoor.Pure
open Go.RowKit Go.Proofs.YtkpoipjgbdcdjaaDoor.P Go.Proofs.YtkpoipjgbdcdjaaDoorW.PrintWords Go.Proofs.YtkpoipjgbdcdjaaDoorW.PrintMore
theorem parses_k (k : Nat) (hk : 200 ≤ k) (a0 : ByteArray) (a1 : Bool) (ha : a0.size ≤ 140737488351232) : drayagelaw01_QuantParses.f k a0 a1 = some true := at_rounds (fun j => drayagelaw01_QuantParses.mono a0 a1 j) hk (parses_at a0 a1 ha)
theorem prints_k (k : Nat) (hk : 40 ≤ k) (a0 : Int) (a1 : Bool) (ha : (Lit.int .i64 a0).wf = true) : drayagelaw01_QuantPrints.f k a0 a1 = some true := at_rounds (fun j => drayagelaw01_QuantPrints.mono a0 a1 j) hk (prints_at a0 a1 ha)
theorem reckons_k (k : Nat) (hk : 100 ≤ k) (l0 : List Int) (a1 a2 : Int) (hw : ∀ x ∈ l0, (Lit.int .i64 x).wf = true) : drayagelaw01_QuantReckons.f k l0 a1 a2 = some true := at_rounds (fun j => drayagelaw01_QuantReckons.mono l0 a1 a2 j) hk (reckons_at l0 a1 a2 hw)
theorem rdOf_all {α : Type} (p : α → Prop) (d : α) (x : List α) (hd : p d) (h : ∀ s ∈ x, p s) (i : Int) : p (rdOf d x i) := by
 unfold rdOf
 rw [List.getD_eq_getElem?_getD]
 cases hg : x[i.toNat]? with
 | none => exact hd
 | some s => exact h s (List.mem_of_getElem? hg)
theorem rd_all (p : Int → Prop) (x : List Int) (hd : p 0) (h : ∀ s ∈ x, p s) (i : Int) : p (rd x i) := rdOf_all p 0 x hd h i
theorem w_next (i : Int) (h0 : 0 ≤ i) (h1 : i ≤ 1000) : wrap64 (i + 1) = i + 1 := by unfold wrap64; omega
theorem k_l3 (x5 : List Int) (hl : x5.length ≤ 1000) (hw : ∀ x ∈ x5, (Lit.int .i64 x).wf = true) (x6 : Int) (h6 : 0 ≤ x6) (h6' : x6 < x5.length) (c : Nat) (hc : 200 ≤ c) : ∀ (n : Nat) (x7 : Int), 0 ≤ x7 → x7 + n = x5.length →
  drayagelaw01_QuantKnown.l3 (c + n + 1) x5 x6 x7 = drayagelaw01_QuantKnown.l2 c x5 (x6 + 1)
 | 0, x7, h0, h => by
  rw [Nat.add_zero, drayagelaw01_QuantKnown.l3, if_neg (show ¬ x7 < (x5.length : Int) by omega), w_next x6 h6 (by omega)]
 | n + 1, x7, h0, h => by
  have hr := reckons_k (c + n + 1) (by omega) [rd x5 x6, rd x5 x7, 1] (rd x5 x6) (rd x5 x7) (fun x hx => by
   simp only [List.mem_cons, List.not_mem_nil, or_false] at hx
   rcases hx with rfl | rfl | rfl
   ·exact rd_all (fun x => (Lit.int .i64 x).wf = true) x5 (by decide) hw x6
   ·exact rd_all (fun x => (Lit.int .i64 x).wf = true) x5 (by decide) hw x7
   ·decide)
  rw [show c + (n + 1) + 1 = c + n + 1 + 1 by omega, drayagelaw01_QuantKnown.l3, if_pos (show x7 < (x5.length : Int) by omega), if_pos h6, if_pos h6', if_pos h0, hr, Option.bind_some, if_pos (show true = true from rfl), w_next x7 h0 (by omega), k_l3 x5 hl hw x6 h6 h6' c hc n (x7 + 1) (by omega) (by omega)]
theorem k_l2 (x5 : List Int) (hl : x5.length ≤ 1000) (hw : ∀ x ∈ x5, (Lit.int .i64 x).wf = true) : ∀ (n : Nat) (x6 : Int), 0 ≤ x6 → x6 + n = x5.length →
  drayagelaw01_QuantKnown.l2 (300 + (x5.length + 3) * n + 1) x5 x6 = some true
 | 0, x6, h0, h => by
  rw [Nat.mul_zero, Nat.add_zero, drayagelaw01_QuantKnown.l2, if_neg (show ¬ x6 < (x5.length : Int) by omega), works_at 300 (by decide), Option.bind_some, if_pos (show true = true from rfl), reckons_k 300 (by decide) [] 0 0 (fun _ h => by cases h)]
  rfl
 | n + 1, x6, h0, h => by
  have hv := rd_all (fun x => (Lit.int .i64 x).wf = true) x5 (by decide) hw x6
  obtain ⟨c, hc⟩ : ∃ c, c = 300 + (x5.length + 3) * n + 1 := ⟨_, rfl⟩
  have he : 300 + (x5.length + 3) * (n + 1) + 1 = c + x5.length + 1 + 1 + 1 := by rw [Nat.mul_succ, hc]; omega
  have hc3 : 301 ≤ c := by omega
  rw [he, drayagelaw01_QuantKnown.l2, if_pos (show x6 < (x5.length : Int) by omega), if_pos h0, prints_k (c + x5.length + 1 + 1) (by omega) (rd x5 x6) true hv, Option.bind_some, if_pos (show true = true from rfl), prints_k (c + x5.length + 1 + 1) (by omega) (rd x5 x6) false hv, Option.bind_some, drayagelaw01_QuantKnown.j3, if_neg (show ¬ (!true) = true by decide), k_l3 x5 hl hw x6 h0 (by omega) c (by omega) x5.length 0 (Int.le_refl 0) (by omega), hc]
  exact k_l2 x5 hl hw n (x6 + 1) (by omega) (by omega)
abbrev endsL : List Int := [(-9223372036854775808), (-1), 0, 1, 999, 1000, 1001, 1023, 1024, 1048576, 1049600, 1073741824, 1099511627776, 1099511627777, 9223372036854775807]
theorem ends_wf : ∀ x ∈ endsL, (Lit.int .i64 x).wf = true := by decide
theorem ends_k : drayagelaw01_QuantKnown.l2 571 endsL 0 = some true := k_l2 endsL (by decide) ends_wf 15 0 (by decide) (by decide)
theorem k_l1 (x1 x2 : List ByteArray) (hl1 : x1.length ≤ 1000) (h1 : ∀ s ∈ x1, s.size ≤ 1000) (h2 : ∀ s ∈ x2, s.size ≤ 1000) (x3 : Int) (h3 : 0 ≤ x3) (h3' : x3 < x2.length) (h3'' : x3 ≤ 1000) (c : Nat) (hc : 200 ≤ c) : ∀ (n : Nat) (x4 : Int), 0 ≤ x4 → x4 + n = x1.length →
  drayagelaw01_QuantKnown.l1 (c + n + 1) x1 x2 x3 x4 = drayagelaw01_QuantKnown.l0 c x1 x2 (x3 + 1)
 | 0, x4, h0, h => by
  rw [Nat.add_zero, drayagelaw01_QuantKnown.l1, if_neg (show ¬ x4 < (x1.length : Int) by omega), w_next x3 h3 h3'']
 | n + 1, x4, h0, h => by
  have s1 := rdOf_all (fun s : ByteArray => s.size ≤ 1000) ByteArray.empty x1 (by decide) h1 x4
  have s2 := rdOf_all (fun s : ByteArray => s.size ≤ 1000) ByteArray.empty x2 (by decide) h2 x3
  have s3 : (rdOf ByteArray.empty x2 x3 ++ rdOf ByteArray.empty x1 x4).size ≤ 140737488351232 := by rw [ByteArray.size_append]; omega
  rw [show c + (n + 1) + 1 = c + n + 1 + 1 by omega, drayagelaw01_QuantKnown.l1, if_pos (show x4 < (x1.length : Int) by omega), if_pos h3, if_pos h3', if_pos h0, if_pos (show (rdOf ByteArray.empty x2 x3).size + (rdOf ByteArray.empty x1 x4).size ≤ 9223372036854775807 by omega), parses_k (c + n + 1) (by omega) _ true s3, Option.bind_some, if_pos (show true = true from rfl), parses_k (c + n + 1) (by omega) _ false s3, Option.bind_some, if_pos (show true = true from rfl), w_next x4 h0 (by omega), k_l1 x1 x2 hl1 h1 h2 x3 h3 h3' h3'' c hc n (x4 + 1) (by omega) (by omega)]
theorem k_l0 (x1 x2 : List ByteArray) (hl1 : x1.length ≤ 1000) (hl2 : x2.length ≤ 1000) (h1 : ∀ s ∈ x1, s.size ≤ 1000) (h2 : ∀ s ∈ x2, s.size ≤ 1000) : ∀ (n : Nat) (x3 : Int), 0 ≤ x3 → x3 + n = x2.length →
  drayagelaw01_QuantKnown.l0 (572 + (x1.length + 2) * n) x1 x2 x3 = some true
 | 0, x3, h0, h => by
  rw [Nat.mul_zero, Nat.add_zero, drayagelaw01_QuantKnown.l0, if_neg (show ¬ x3 < (x2.length : Int) by omega)]
  exact ends_k
 | n + 1, x3, h0, h => by
  obtain ⟨c, hc⟩ : ∃ c, c = 572 + (x1.length + 2) * n := ⟨_, rfl⟩
  have he : 572 + (x1.length + 2) * (n + 1) = c + x1.length + 1 + 1 := by rw [Nat.mul_succ, hc]; omega
  rw [he, drayagelaw01_QuantKnown.l0, if_pos (show x3 < (x2.length : Int) by omega), k_l1 x1 x2 hl1 h1 h2 x3 h0 (by omega) (by omega) c (by omega) x1.length 0 (Int.le_refl 0) (by omega), hc]
  exact k_l0 x1 x2 hl1 hl2 h1 h2 n (x3 + 1) (by omega) (by omega)
theorem QuantKnown : drayagelaw01_QuantKnown.Pure := by
 refine ⟨978, ?_⟩
 unfold drayagelaw01_QuantKnown.f
 exact k_l0 _ _ (by decide) (by decide) (by decide) (by decide) 14 0 (by decide) (by decide)
end Go.Proofs.YtkpoipjgbdcdjaaDoor.Pure
