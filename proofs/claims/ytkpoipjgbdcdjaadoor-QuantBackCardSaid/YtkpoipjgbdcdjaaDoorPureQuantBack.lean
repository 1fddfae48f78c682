/- What was printed is parsed as it was; what can be parsed says what its print says. -/
import Derived.Test.YtkpoipjgbdcdjaaDoorPf5
import Derived.Test.YtkpoipjgbdcdjaaDoorHq6
import Derived.Test.YtkpoipjgbdcdjaaDoorHworks
namespace Go.Proofs.YtkpoipjgbdcdjaaDoor.Pure
open Go.RowKit Go.Proofs.YtkpoipjgbdcdjaaDoor.P Go.Proofs.YtkpoipjgbdcdjaaDoorW.PrintWords Go.Proofs.YtkpoipjgbdcdjaaDoorW.PrintMore
theorem bring_b (a d : Int) (hd : 0 < d) (hd2 : d ≤ 1125899906842624) : ∃ x, drayageref00_Bring.f a d = some x ∧ 0 ≤ x ∧ x < d := by
  unfold drayageref00_Bring.f
  have h1 := Int.tmod_lt_of_pos a hd
  have h2 := Int.lt_tmod_of_pos a hd
  rw [if_neg (show ¬ d = 0 by omega)]
  by_cases h : Int.tmod a d < 0
  · rw [if_pos h, show wrap64 (Int.tmod a d + d) = Int.tmod a d + d by unfold wrap64; omega]
    exact ⟨_, rfl, by omega, by omega⟩
  · rw [if_neg h]
    exact ⟨_, rfl, by omega, by omega⟩
theorem says_back (x : Int) (milli : Bool) (h0 : 0 ≤ x) (h1 : x ≤ 1099511627776) : drayagelaw01_says.f (printS x milli).1 milli x = some true := by
  obtain ⟨_, h3, h4⟩ := print_back x milli h0 h1
  have hp : quant_Parse.f (printS x milli).1 milli = some (x, 0, 0) := by
    unfold quant_Parse.f
    rw [if_pos (by omega), h4]
  unfold drayagelaw01_says.f
  rw [hp, Option.bind_some, if_pos (show x = x from rfl), if_pos (show (0 : Int) = 0 from rfl)]
  rfl
theorem back_j1 (t : ByteArray) (milli : Bool) (k : Nat) : drayagelaw01_QuantBack.j1 (k + 7) t milli false = some true := by
  have hm : 0 ≤ mn (t.size : Int) 100 ∧ mn (t.size : Int) 100 ≤ 100 ∧ mn (t.size : Int) 100 ≤ (t.size : Int) := by
    rw [mn_min]
    omega
  have hs : (t.extract 0 (mn (t.size : Int) 100).toNat).size ≤ 100 ∧ (t.extract 0 (mn (t.size : Int) 100).toNat).size ≤ t.size := by
    rw [ByteArray.size_extract]
    omega
  rw [drayagelaw01_QuantBack.j1, if_neg (show ¬ false = true by decide), if_pos hm.1, if_pos hm.2.2]
  generalize t.extract 0 (mn (t.size : Int) 100).toNat = s at hs
  have hp : quant_Parse.f s milli = some (parseS s milli) := if_pos (by omega)
  rw [hp, Option.bind_some]
  rcases parse_any s milli with ⟨e1, e2, e3⟩ | ⟨e1, e2, e3, e4⟩
  · have hpr := Print_f (parseS s milli).1 milli (by omega) k
    obtain ⟨p2, _, _⟩ := print_back (parseS s milli).1 milli e2 e3
    rw [if_pos e1, hpr, Option.bind_some, if_pos p2, says_back _ milli e2 e3]
    rfl
  · rw [if_neg e1, if_pos e2, if_pos (show (parseS s milli).2.1 ≥ 0 from e3), decide_eq_true (show (parseS s milli).2.1 ≤ (t.size : Int) by omega)]
theorem QuantBack : drayagelaw01_QuantBack.Pure := by
  intro a0 a1 a2 _ _
  refine ⟨40, ?_⟩
  obtain ⟨x, hx, x0, x1⟩ := bring_b a0 1099511627777 (by decide) (by decide)
  obtain ⟨p2, _, _⟩ := print_back x a2 x0 (by omega)
  have hpr := Print_f x a2 (by omega) 34
  have m0 : 0 ≤ Int.tmod x 1001 := Int.tmod_nonneg _ x0
  have m1 : Int.tmod x 1001 < 1001 := Int.tmod_lt_of_pos x (by decide)
  obtain ⟨q1, q2, q3⟩ := pct_back (Int.tmod x 1001) m0 (by omega)
  have hq : quant_Percent.f (pctP (Int.tmod x 1001)).1 = some (Int.tmod x 1001, 0, 0) := by
    unfold quant_Percent.f
    rw [if_pos (by omega), q3]
  unfold drayagelaw01_QuantBack.f
  rw [works_at 40 (by decide), Option.bind_some, if_pos (show true = true from rfl), hx, Option.bind_some, show 40 = 34 + 6 from rfl, hpr, Option.bind_some, if_pos p2, says_back x a2 x0 (by omega), Option.bind_some, drayagelaw01_QuantBack.j0, if_neg (show ¬ (!true) = true by decide), PrintPercent_f (Int.tmod x 1001) 37, Option.bind_some, hq, Option.bind_some, if_pos q1, if_pos (show (0 : Int) = 0 from rfl), show (Int.tmod x 1001 != Int.tmod x 1001) = false by simp]
  exact back_j1 a1 a2 32
end Go.Proofs.YtkpoipjgbdcdjaaDoor.Pure
