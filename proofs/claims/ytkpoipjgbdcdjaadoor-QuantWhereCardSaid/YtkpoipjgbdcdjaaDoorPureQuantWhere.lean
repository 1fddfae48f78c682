/- An error stands at a rune's first byte, or at the end, and what stands ahead of it is a beginning of some quantity's text. -/
import Derived.Test.YtkpoipjgbdcdjaaDoorPf10
import Derived.Test.YtkpoipjgbdcdjaaDoorHq7
import Derived.Test.YtkpoipjgbdcdjaaDoorHworks
namespace Go.Proofs.YtkpoipjgbdcdjaaDoor.Pure
open Go.RowKit Go.Proofs.YtkpoipjgbdcdjaaDoor.P Go.Proofs.YtkpoipjgbdcdjaaDoorW.PrintWords Go.Proofs.YtkpoipjgbdcdjaaDoorW.PrintMore
theorem lead_bad (b n b1 b2 b3 : Nat) (h0 : 128 ≤ b) (h1 : b ≤ 191) : Lib.checkN n b1 b2 b3 (Lib.firstT b % 8) (Lib.accLo (Lib.firstT b / 16)) (Lib.accHi (Lib.firstT b / 16)) = none := by
  have e : Lib.firstT b = 241 := by
    unfold Lib.firstT
    rw [if_neg (by omega), if_pos (by omega)]
  rw [e]
  rfl
theorem valid_bad (t : ByteArray) (q : Nat) (hq : q < t.size) (hasc : ∀ i, i < q → gb t i < 128) (h0 : 128 ≤ gb t q) (h1 : gb t q ≤ 191) : Lib.validD t.data.toList = false := by
  have hl := size_list t
  have hg : ∀ i (h : i < t.data.toList.length), gb t i = (t.data.toList[i].toNat : Int) := by
    intro i h
    have e : gb t i = gb (mk t.data.toList) i := by rw [mk_self]
    rw [e, gb_mk _ i h]
  rw [Lib.validD_ascii q t.data.toList (by
    intro b hb
    obtain ⟨i, hi, rfl⟩ := List.mem_iff_getElem.1 hb
    rw [List.length_take] at hi
    rw [List.getElem_take]
    have h2 := hasc i (by omega)
    rw [hg i (by omega)] at h2
    omega)]
  have hne : t.data.toList.drop q ≠ [] := by
    intro h
    have := congrArg List.length h
    rw [List.length_drop, List.length_nil] at this
    omega
  have hd : (t.data.toList.drop q).getD 0 0 = t.data.toList[q]'(by omega) := by
    rw [List.getD_eq_getElem?_getD, List.getElem?_drop, Nat.add_zero, List.getElem?_eq_getElem (by omega)]
    rfl
  have hgq := hg q (by omega)
  rw [hgq] at h0 h1
  rw [Lib.validD_lead _ hne (by rw [hd]; omega), hd, lead_bad _ _ _ _ _ (by omega) (by omega)]
/-- what goes as a beginning -/
def goodB (t : ByteArray) (milli : Bool) : Bool := if (parseS t milli).2.2 = 0 then true else if (parseS t milli).2.2 = 10 then true else if (parseS t milli).2.2 = 4 then ((parseS t milli).2.1 == 0) else false
theorem par_ok (t : ByteArray) (milli : Bool) (h : (parC t 3 (sfC t)).e = 0) : (parseS t milli).2.1 = 0 ∧ ((parseS t milli).2.2 = 0 ∨ (parseS t milli).2.2 = 10 ∨ (parseS t milli).2.2 = 4) := by
  rw [parse_par, if_pos h]
  unfold overS
  split
  · exact ⟨rfl, Or.inr (Or.inl rfl)⟩
  split
  · exact ⟨rfl, Or.inr (Or.inl rfl)⟩
  split
  · exact ⟨rfl, Or.inr (Or.inr rfl)⟩
  · exact ⟨rfl, Or.inl rfl⟩
theorem good_of (t : ByteArray) (milli : Bool) (h : (parC t 3 (sfC t)).e = 0) : goodB t milli = true := by
  obtain ⟨h1, h2⟩ := par_ok t milli h
  unfold goodB
  rcases h2 with h2 | h2 | h2
  · rw [if_pos h2]
  · rw [if_neg (by rw [h2]; decide), if_pos h2]
  · rw [if_neg (by rw [h2]; decide), if_neg (by rw [h2]; decide), if_pos h2, h1]
    rfl
abbrev moreL : List ByteArray := [(⟨#[]⟩ : ByteArray), (⟨#[48]⟩ : ByteArray), (⟨#[105]⟩ : ByteArray), (⟨#[49]⟩ : ByteArray)]
theorem where_step (milli : Bool) (x8 : ByteArray) (h8 : x8.size ≤ 1000) (b : Bool) (k : Nat) (i : Nat) (hi : i < 4) :
    drayagelaw01_QuantWhere.l0 (k + 1) milli x8 b moreL (i : Int) = drayagelaw01_QuantWhere.l0 k milli x8 (b || goodB (x8 ++ rdOf ByteArray.empty moreL (i : Int)) milli) moreL ((i + 1 : Nat) : Int) := by
  have hm : (rdOf ByteArray.empty moreL (i : Int)).size ≤ 1 := by
    unfold rdOf
    have : i = 0 ∨ i = 1 ∨ i = 2 ∨ i = 3 := by omega
    rcases this with rfl | rfl | rfl | rfl <;> decide
  have hs : (x8 ++ rdOf ByteArray.empty moreL (i : Int)).size ≤ 1000000 := by rw [ByteArray.size_append]; omega
  have hp : quant_Parse.f (x8 ++ rdOf ByteArray.empty moreL (i : Int)) milli = some (parseS (x8 ++ rdOf ByteArray.empty moreL (i : Int)) milli) := if_pos hs
  have hl : ((moreL.length : Nat) : Int) = 4 := rfl
  rw [drayagelaw01_QuantWhere.l0, hl, if_pos (show (i : Int) < 4 by omega), if_pos (show (0 : Int) ≤ (i : Int) by omega), if_pos (show x8.size + (rdOf ByteArray.empty moreL (i : Int)).size ≤ 9223372036854775807 by omega), hp, Option.bind_some, show wrap64 ((i : Int) + 1) = ((i + 1 : Nat) : Int) by unfold wrap64; omega]
  unfold goodB
  generalize parseS (x8 ++ rdOf ByteArray.empty moreL (i : Int)) milli = r
  cases b with
  | true => rfl
  | false =>
    rw [if_neg (show ¬ false = true by decide), Bool.false_or]
    by_cases c1 : r.2.2 = 0
    · rw [if_pos c1, if_pos c1]
    rw [if_neg c1, if_neg c1]
    by_cases c2 : r.2.2 = 10
    · rw [if_pos c2, if_pos c2]
    rw [if_neg c2, if_neg c2]
    by_cases c3 : r.2.2 = 4
    · rw [if_pos c3, if_pos c3]
    · rw [if_neg c3, if_neg c3]
theorem where_loop (milli : Bool) (x8 : ByteArray) (h8 : x8.size ≤ 1000) (b : Bool) (k : Nat) (hk : 30 ≤ k)
    (h : b = true ∨ goodB (x8 ++ mk []) milli = true ∨ goodB (x8 ++ mk [48]) milli = true ∨ goodB (x8 ++ mk [105]) milli = true ∨ goodB (x8 ++ mk [49]) milli = true) :
    drayagelaw01_QuantWhere.l0 (k + 5) milli x8 b moreL 0 = some true := by
  have s0 := where_step milli x8 h8 b (k + 4) 0 (by decide)
  have s1 := where_step milli x8 h8 (b || goodB (x8 ++ mk []) milli) (k + 3) 1 (by decide)
  have s2 := where_step milli x8 h8 ((b || goodB (x8 ++ mk []) milli) || goodB (x8 ++ mk [48]) milli) (k + 2) 2 (by decide)
  have s3 := where_step milli x8 h8 (((b || goodB (x8 ++ mk []) milli) || goodB (x8 ++ mk [48]) milli) || goodB (x8 ++ mk [105]) milli) (k + 1) 3 (by decide)
  have e : ((((b || goodB (x8 ++ mk []) milli) || goodB (x8 ++ mk [48]) milli) || goodB (x8 ++ mk [105]) milli) || goodB (x8 ++ mk [49]) milli) = true := by
    rcases h with h | h | h | h | h <;> simp [h]
  have s4 : drayagelaw01_QuantWhere.l0 (k + 1) milli x8 true moreL ((4 : Nat) : Int) = some true := by
    have hl : ((moreL.length : Nat) : Int) = 4 := rfl
    rw [drayagelaw01_QuantWhere.l0, hl, if_neg (show ¬ ((4 : Nat) : Int) < 4 by decide), if_pos (show true = true from rfl), works_at k (by omega)]
    rfl
  have s0' : drayagelaw01_QuantWhere.l0 (k + 5) milli x8 b moreL 0 = drayagelaw01_QuantWhere.l0 (k + 4) milli x8 (b || goodB (x8 ++ mk []) milli) moreL ((1 : Nat) : Int) := s0
  have s1' : drayagelaw01_QuantWhere.l0 (k + 4) milli x8 (b || goodB (x8 ++ mk []) milli) moreL ((1 : Nat) : Int) = drayagelaw01_QuantWhere.l0 (k + 3) milli x8 ((b || goodB (x8 ++ mk []) milli) || goodB (x8 ++ mk [48]) milli) moreL ((2 : Nat) : Int) := s1
  have s2' : drayagelaw01_QuantWhere.l0 (k + 3) milli x8 ((b || goodB (x8 ++ mk []) milli) || goodB (x8 ++ mk [48]) milli) moreL ((2 : Nat) : Int) = drayagelaw01_QuantWhere.l0 (k + 2) milli x8 (((b || goodB (x8 ++ mk []) milli) || goodB (x8 ++ mk [48]) milli) || goodB (x8 ++ mk [105]) milli) moreL ((3 : Nat) : Int) := s2
  have s3' : drayagelaw01_QuantWhere.l0 (k + 2) milli x8 (((b || goodB (x8 ++ mk []) milli) || goodB (x8 ++ mk [48]) milli) || goodB (x8 ++ mk [105]) milli) moreL ((3 : Nat) : Int) = drayagelaw01_QuantWhere.l0 (k + 1) milli x8 ((((b || goodB (x8 ++ mk []) milli) || goodB (x8 ++ mk [48]) milli) || goodB (x8 ++ mk [105]) milli) || goodB (x8 ++ mk [49]) milli) moreL ((4 : Nat) : Int) := s3
  rw [s0', s1', s2', s3', e, s4]
theorem where_j1 (s : ByteArray) (hs : s.size ≤ 100) (milli : Bool) (q : Nat) (hq : q ≤ s.size) (k : Nat) (hk : 30 ≤ k)
    (h : q = 0 ∨ ∃ m ∈ ([[], [48], [105], [49]] : List (List UInt8)), (parC (P.ahead s q m) 3 (sfC (P.ahead s q m))).e = 0) :
    drayagelaw01_QuantWhere.j1 (k + 6) s milli (q : Int) false = some true := by
  rw [drayagelaw01_QuantWhere.j1, if_neg (show ¬ false = true by decide), if_pos (show (0 : Int) ≤ (q : Int) by omega), if_pos (show (q : Int) ≤ (s.size : Int) by omega), Int.toNat_natCast]
  refine where_loop milli (s.extract 0 q) (by rw [ByteArray.size_extract]; omega) _ k hk ?_
  rcases h with rfl | ⟨m, hm, he⟩
  · left
    have e : s.extract 0 0 = mk [] := by
      apply ByteArray.ext
      rw [ByteArray.data_extract]
      simp
    rw [e]
    decide +kernel
  · right
    have hg := good_of (P.ahead s q m) milli he
    simp only [List.mem_cons, List.not_mem_nil, or_false] at hm
    rcases hm with rfl | rfl | rfl | rfl
    · exact Or.inl hg
    · exact Or.inr (Or.inl hg)
    · exact Or.inr (Or.inr (Or.inl hg))
    · exact Or.inr (Or.inr (Or.inr hg))
theorem where_j0 (s : ByteArray) (hs : s.size ≤ 100) (milli : Bool) (q : Nat) (e : Int) (hb : Bad s q e) (k : Nat) (hk : 30 ≤ k) :
    drayagelaw01_QuantWhere.j0 (k + 7) s milli (q : Int) e false = some true := by
  have fin := where_j1 s hs milli q hb.le k hk hb.goes
  have hle := hb.le
  rw [drayagelaw01_QuantWhere.j0, if_neg (show ¬ false = true by decide), if_neg (show ¬ (q : Int) < 0 by omega), if_neg (show ¬ (q : Int) > (s.size : Int) by omega)]
  have A : (if (q : Int) > 0 then (if (q : Int) < (s.size : Int) then (if 0 ≤ (q : Int) then ((utf8_RuneStart.f (bt s (q : Int))).bind fun t353 => (if t353 = true then (drayagelaw01_QuantWhere.j1 (k + 6) s milli (q : Int) false) else ((utf8_ValidString.f s).bind fun t354 => (drayagelaw01_QuantWhere.j1 (k + 6) s milli (q : Int) t354)))) else (none)) else (drayagelaw01_QuantWhere.j1 (k + 6) s milli (q : Int) false)) else (drayagelaw01_QuantWhere.j1 (k + 6) s milli (q : Int) false)) = some true := by
    by_cases c1 : (q : Int) > 0
    · rw [if_pos c1]
      by_cases c2 : (q : Int) < (s.size : Int)
      · have hr := gb_rg s q
        have hrs : utf8_RuneStart.f (bt s (q : Int)) = some (Lib.runeStart (gb s q)) := by
          unfold utf8_RuneStart.f
          rw [if_pos ⟨hr.1, by have := hr.2; show gb s q < 256; omega⟩]
        rw [if_pos c2, if_pos (show (0 : Int) ≤ (q : Int) by omega), hrs, Option.bind_some]
        by_cases c3 : Lib.runeStart (gb s q) = true
        · rw [if_pos c3]
          exact fin
        · rw [if_neg c3]
          have hv : utf8_ValidString.f s = some false := by
            have h64 : gb s q / 64 = 2 := by
              unfold Lib.runeStart at c3
              simpa using c3
            unfold utf8_ValidString.f
            rw [if_pos (by omega), valid_bad s q (by omega) hb.asc (by omega) (by omega)]
          rw [hv, Option.bind_some]
          exact fin
      · rw [if_neg c2]
        exact fin
    · rw [if_neg c1]
      exact fin
  rcases hb.code with ⟨rfl, hq⟩ | rfl
  · rw [if_pos (show (3 : Int) = 3 from rfl), if_pos (show (q : Int) = (s.size : Int) by omega)]
    exact A
  · rw [if_neg (show ¬ (4 : Int) = 3 by decide)]
    exact A
theorem QuantWhere : drayagelaw01_QuantWhere.Pure := by
  intro a0 a1 ha
  refine ⟨60, ?_⟩
  have hm : 0 ≤ mn (a0.size : Int) 100 ∧ mn (a0.size : Int) 100 ≤ 100 ∧ mn (a0.size : Int) 100 ≤ (a0.size : Int) := by
    rw [mn_min]
    omega
  have hs : (a0.extract 0 (mn (a0.size : Int) 100).toNat).size ≤ 100 := by
    rw [ByteArray.size_extract]
    omega
  unfold drayagelaw01_QuantWhere.f
  rw [if_pos hm.1, if_pos hm.2.2]
  generalize a0.extract 0 (mn (a0.size : Int) 100).toNat = s at hs
  have hp : quant_Parse.f s a1 = some (parseS s a1) := if_pos (by omega)
  rw [hp, Option.bind_some]
  have w0 : ∀ e : Int, drayagelaw01_QuantWhere.j0 60 s a1 0 e true = some true := by
    intro e
    rw [drayagelaw01_QuantWhere.j0, if_pos (show true = true from rfl), if_pos (show (0 : Int) = 0 from rfl), works_at 59 (by decide)]
    rfl
  by_cases he : (parC s 3 (sfC s)).e = 0
  · obtain ⟨h1, h2⟩ := par_ok s a1 he
    rw [h1]
    rcases h2 with h2 | h2 | h2
    · rw [if_pos h2]
      exact w0 _
    · rw [if_neg (by rw [h2]; decide), h2]
      exact w0 _
    · rw [if_neg (by rw [h2]; decide), h2]
      exact where_j0 s hs a1 0 4 ⟨Nat.zero_le _, fun i hi => by omega, Or.inr rfl, Or.inl rfl⟩ 53 (by decide)
  · have hb := par_bad s he
    rw [parse_par, if_neg he]
    dsimp only
    rw [if_neg he]
    have h10 : ((parC s 3 (sfC s)).e == 10) = false := by
      rw [beq_eq_false_iff_ne]
      rcases hb.code with ⟨h, _⟩ | h <;> rw [h] <;> decide
    rw [h10]
    exact where_j0 s hs a1 _ _ hb 53 (by decide)
end Go.Proofs.YtkpoipjgbdcdjaaDoor.Pure
