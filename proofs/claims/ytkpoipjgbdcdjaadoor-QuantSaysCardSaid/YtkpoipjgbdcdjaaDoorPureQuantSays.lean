/- Digits, a point, three more digits and a suffix say what these make. -/
import Derived.Test.YtkpoipjgbdcdjaaDoorPf6
import Derived.Test.YtkpoipjgbdcdjaaDoorHq7
import Derived.Test.YtkpoipjgbdcdjaaDoorHworks
namespace Go.Proofs.YtkpoipjgbdcdjaaDoor.Pure
open Go.RowKit Go.Proofs.YtkpoipjgbdcdjaaDoor.P Go.Proofs.YtkpoipjgbdcdjaaDoorW.PrintWords Go.Proofs.YtkpoipjgbdcdjaaDoorW.PrintMore
theorem bring_s (a d : Int) (hd : 0 < d) (hd2 : d ≤ 1125899906842624) : ∃ x, drayageref00_Bring.f a d = some x ∧ 0 ≤ x ∧ x < d := by
  unfold drayageref00_Bring.f
  have h1 := Int.tmod_lt_of_pos a hd
  have h2 := Int.lt_tmod_of_pos a hd
  rw [if_neg (show ¬ d = 0 by omega)]
  by_cases h : Int.tmod a d < 0
  · rw [if_pos h, show wrap64 (Int.tmod a d + d) = Int.tmod a d + d by unfold wrap64; omega]
    exact ⟨_, rfl, by omega, by omega⟩
  · rw [if_neg h]
    exact ⟨_, rfl, by omega, by omega⟩
theorem gb_in (l pre : List UInt8) (c : UInt8) (r : List UInt8) (h : l = pre ++ c :: r) (j : Nat) (hj : pre.length = j) : gb (mk l) j = (c.toNat : Int) := by
  subst hj
  rw [h]
  exact gb_at0 pre c r
theorem says_dg (m : Nat) : (wrap64 (48 + ((m : Int) % 10))) % 256 = ((48 + m % 10 : Nat) : Int) := by
  obtain ⟨d, hd⟩ : ∃ d, m % 10 = d := ⟨_, rfl⟩
  have h1 : d < 10 := by omega
  rw [show (m : Int) % 10 = (d : Int) by omega, hd]
  clear hd
  unfold wrap64
  omega
theorem wr_of (x : Int) (h0 : 0 ≤ x) (h1 : x < 9223372036854775808) : wrap64 x = x := by
  unfold wrap64
  omega
theorem says_num (u g : Nat) (v : Int) (hu : u < 2097152) (hg : g < 1000) (v0 : 0 ≤ v) (v1 : v ≤ 1048576000) :
    0 ≤ (1000 * (u : Int) + (g : Int)) * v ∧ (1000 * (u : Int) + (g : Int)) * v < 4000000000000000000 ∧ wrap64 ((wrap64 (1000 * (u : Int))) + (g : Int)) = 1000 * (u : Int) + (g : Int) ∧ wrap64 ((1000 * (u : Int) + (g : Int)) * v) = (1000 * (u : Int) + (g : Int)) * v := by
  have a0 : 0 ≤ 1000 * (u : Int) + (g : Int) := by omega
  have a1 : 1000 * (u : Int) + (g : Int) ≤ 2097152000 := by omega
  have b0 : wrap64 (1000 * (u : Int)) = 1000 * (u : Int) := wr_of _ (by omega) (by omega)
  rw [b0]
  generalize 1000 * (u : Int) + (g : Int) = x at *
  have h1 : 0 ≤ x * v := Int.mul_nonneg a0 v0
  have h2 : x * v ≤ 2097152000 * 1048576000 := Int.mul_le_mul a1 v1 v0 (by decide)
  generalize x * v = y at *
  exact ⟨h1, by omega, wr_of _ (by omega) (by omega), wr_of _ h1 (by omega)⟩
theorem says_text (n f : Nat) (hn : n < 2097152) (hf : f < 1000) (s : List UInt8) (v : Int) (h : (s, v) ∈ sufsL) (milli : Bool) :
    parseS (mk (dgs 20 n ++ 46 :: UInt8.ofNat (48 + f / 100) :: UInt8.ofNat (48 + f / 10 % 10) :: UInt8.ofNat (48 + f % 10) :: s)) milli = overS ((1000 * (n : Int) + (f : Int)) * v) (unitI milli) := by
  obtain ⟨L, hL⟩ : ∃ L, dgs 20 n = L := ⟨_, rfl⟩
  obtain ⟨x1, hx1⟩ : ∃ x, UInt8.ofNat (48 + f / 100) = x := ⟨_, rfl⟩
  obtain ⟨x2, hx2⟩ : ∃ x, UInt8.ofNat (48 + f / 10 % 10) = x := ⟨_, rfl⟩
  obtain ⟨x3, hx3⟩ : ∃ x, UInt8.ofNat (48 + f % 10) = x := ⟨_, rfl⟩
  have n1 : x1.toNat = 48 + f / 100 := by rw [← hx1]; exact dg_toNat _ (by omega)
  have n2 : x2.toNat = 48 + f / 10 % 10 := by rw [← hx2]; exact dg_toNat _ (by omega)
  have n3 : x3.toNat = 48 + f % 10 := by rw [← hx3]; exact dg_toNat _ (by omega)
  rw [hx1, hx2, hx3, hL]
  have hs : (mk (L ++ 46 :: x1 :: x2 :: x3 :: s)).size = L.length + s.length + 4 := by
    rw [mk_size, List.length_append]
    simp only [List.length_cons]
    omega
  have g1 := gb_in (L ++ 46 :: x1 :: x2 :: x3 :: s) (L ++ [46]) x1 (x2 :: x3 :: s) (by simp) (L.length + 1) (by simp)
  have g2 := gb_in (L ++ 46 :: x1 :: x2 :: x3 :: s) (L ++ [46, x1]) x2 (x3 :: s) (by simp) (L.length + 1 + 1) (by simp)
  have g3 := gb_in (L ++ 46 :: x1 :: x2 :: x3 :: s) (L ++ [46, x1, x2]) x3 s (by simp) (L.length + 1 + 1 + 1) (by simp)
  have hpl : plC (mk (L ++ 46 :: x1 :: x2 :: x3 :: s)) 3 ((mk (L ++ 46 :: x1 :: x2 :: x3 :: s)).size + 1) 0 (L.length + 1) 0 = ((f : Int), L.length + 4, 3) := by
    rw [hs, show L.length + s.length + 4 + 1 = L.length + s.length + 1 + 1 + 1 + 1 + 1 by omega,
      pl_step, if_pos ⟨dg_iff.2 ⟨by omega, by omega, by omega⟩, by decide⟩, g1,
      pl_step, if_pos ⟨dg_iff.2 ⟨by omega, by omega, by omega⟩, by decide⟩, g2,
      pl_step, if_pos ⟨dg_iff.2 ⟨by omega, by omega, by omega⟩, by decide⟩, g3,
      pl_step, if_neg (fun h => absurd h.2 (by decide))]
    rw [show 10 * (10 * (10 * (0 : Int) + ((x1.toNat : Int) - 48)) + ((x2.toNat : Int) - 48)) + ((x3.toNat : Int) - 48) = (f : Int) by omega]
  rw [parse_par, ← hL, par_pt n (x1 :: x2 :: x3 :: s) (by omega) 3 (sfC _) (f : Int) (L.length + 4) 3 (by decide) (by rw [hL]; exact hpl), hL]
  have hsf : sfC (mk (L ++ 46 :: x1 :: x2 :: x3 :: s)) (L.length + 4) = (v, L.length + 4 + s.length, 0) := by
    have := sf_mk (L ++ [46, x1, x2, x3]) s v h
    rw [List.append_assoc, List.length_append] at this
    exact this
  rw [hsf]
  show overS ((1000 * (n : Int) + (f : Int) * ten 0) * v) (unitI milli) = _
  rw [show ten 0 = 1 from rfl, Int.mul_one]
theorem says_step (t : ByteArray) (a : Int) (ht : t.size ≤ 1000000) (h0 : 0 ≤ a) (h1 : a < 4000000000000000000) (milli : Bool) (hp : parseS t milli = overS a (unitI milli)) (x12 : Int) (hx0 : 0 ≤ x12) (hx1 : x12 < 10) (k : Nat) :
    drayagelaw01_QuantSays.j1 (k + 1) t a x12 milli (unitI milli) = drayagelaw01_QuantSays.l0 k t a (x12 + 1) := by
  have hu : unitI milli = 1000 ∨ unitI milli = 1000000 := by cases milli <;> decide
  have hq : quant_Parse.f t milli = some (overS a (unitI milli)) := by
    unfold quant_Parse.f
    rw [if_pos ht, hp]
  have e1 : wrap64 (1099511627776 * unitI milli) = 1099511627776 * unitI milli := by rcases hu with h | h <;> rw [h] <;> unfold wrap64 <;> omega
  have e2 : wrap64 (x12 + 1) = x12 + 1 := by unfold wrap64; omega
  have e3 : wrap64 (Int.tdiv a (unitI milli)) = a / unitI milli := by
    rw [Int.tdiv_eq_ediv_of_nonneg h0]
    have q0 : 0 ≤ a / unitI milli := Int.ediv_nonneg h0 (by omega)
    have q1 : a / unitI milli ≤ a := Int.ediv_le_self _ h0
    unfold wrap64
    omega
  rw [drayagelaw01_QuantSays.j1, hq, Option.bind_some, e1, e2, e3, Int.tmod_eq_emod_of_nonneg h0, over_lo a (unitI milli) hu h0 (by omega)]
  by_cases c1 : 1099511627776 * unitI milli < a
  · rw [if_pos c1, if_pos (show a > 1099511627776 * unitI milli from c1)]
    dsimp only
    rw [if_pos (show (10 : Int) = 10 from rfl), if_pos (show (0 : Int) = 0 from rfl)]
  rw [if_neg c1, if_neg (show ¬ a > 1099511627776 * unitI milli from c1), if_neg (show ¬ unitI milli = 0 by omega)]
  by_cases c2 : a % unitI milli = 0
  · rw [if_pos c2, if_neg (show ¬ a % unitI milli ≠ 0 from fun h => h c2)]
    dsimp only
    rw [if_pos (show (0 : Int) = 0 from rfl), if_pos (show a / unitI milli = a / unitI milli from rfl)]
  · rw [if_neg c2, if_pos (show a % unitI milli ≠ 0 from c2)]
    dsimp only
    rw [if_pos (show (4 : Int) = 4 from rfl), if_pos (show (0 : Int) = 0 from rfl)]
theorem says_l0 (t : ByteArray) (a : Int) (ht : t.size ≤ 1000000) (h0 : 0 ≤ a) (h1 : a < 4000000000000000000) (hp : ∀ milli, parseS t milli = overS a (unitI milli)) (k : Nat) (hk : 30 ≤ k) :
    drayagelaw01_QuantSays.l0 (k + 5) t a 0 = some true := by
  have s0 := says_step t a ht h0 h1 false (hp false) 0 (by decide) (by decide) (k + 3)
  have s1 := says_step t a ht h0 h1 true (hp true) 1 (by decide) (by decide) (k + 1)
  rw [drayagelaw01_QuantSays.l0, if_pos (show (0 : Int) < 2 by decide), if_neg (show ¬ (0 : Int) = 1 by decide), show ((0 : Int) == 1) = false from rfl]
  have s0' : drayagelaw01_QuantSays.j1 (k + 4) t a 0 false 1000000 = drayagelaw01_QuantSays.l0 (k + 3) t a 1 := s0
  rw [s0', drayagelaw01_QuantSays.l0, if_pos (show (1 : Int) < 2 by decide), if_pos (show (1 : Int) = 1 from rfl), show ((1 : Int) == 1) = true from rfl]
  have s1' : drayagelaw01_QuantSays.j1 (k + 2) t a 1 true 1000 = drayagelaw01_QuantSays.l0 (k + 1) t a 2 := s1
  rw [s1', drayagelaw01_QuantSays.l0, if_neg (show ¬ (2 : Int) < 2 by decide), works_at k (by omega)]
  rfl
set_option maxHeartbeats 1600000 in
theorem QuantSays : drayagelaw01_QuantSays.Pure := by
  intro a0 a1 a2 _ _ _
  refine ⟨40, ?_⟩
  obtain ⟨n, hn, n0, n1⟩ := bring_s a0 2097152 (by decide) (by decide)
  obtain ⟨f, hf, f0, f1⟩ := bring_s a1 1000 (by decide) (by decide)
  obtain ⟨t, ht, t0, t1⟩ := bring_s a2 6 (by decide) (by decide)
  unfold drayagelaw01_QuantSays.f
  rw [hn, hf, ht, Option.bind_some, Option.bind_some, Option.bind_some, Option.bind_some, Option.bind_some, itoa_f n (by omega) (by omega), Option.bind_some]
  obtain ⟨u, rfl⟩ : ∃ u : Nat, n = (u : Int) := ⟨n.toNat, by omega⟩
  obtain ⟨g, rfl⟩ : ∃ g : Nat, f = (g : Int) := ⟨f.toNat, by omega⟩
  have hu : u < 2097152 := by omega
  have hg : g < 1000 := by omega
  have hi : itoaK (u : Int) = mk (dgs 20 u) := by rw [itoa_mk _ (by omega), Int.toNat_natCast]
  have hlen : (dgs 20 u).length ≤ 20 := dgs_len 20 u
  have e1 : (wrap64 (48 + (wrap64 (Int.tdiv (g : Int) 100)))) % 256 = ((48 + g / 100 : Nat) : Int) := by
    rw [Int.tdiv_eq_ediv_of_nonneg (by omega)]; unfold wrap64; omega
  have e2 : (wrap64 (48 + (Int.tmod (wrap64 (Int.tdiv (g : Int) 10)) 10))) % 256 = ((48 + g / 10 % 10 : Nat) : Int) := by
    rw [Int.tdiv_eq_ediv_of_nonneg (by omega), show wrap64 ((g : Int) / 10) = ((g / 10 : Nat) : Int) by unfold wrap64; omega, Int.tmod_eq_emod_of_nonneg (by omega)]
    exact says_dg _
  have e3 : (wrap64 (48 + (Int.tmod (g : Int) 10))) % 256 = ((48 + g % 10 : Nat) : Int) := by
    rw [Int.tmod_eq_emod_of_nonneg (by omega)]
    exact says_dg _
  have es : strOfNums [((48 + g / 100 : Nat) : Int), ((48 + g / 10 % 10 : Nat) : Int), ((48 + g % 10 : Nat) : Int)] = mk [UInt8.ofNat (48 + g / 100), UInt8.ofNat (48 + g / 10 % 10), UInt8.ofNat (48 + g % 10)] := by
    unfold strOfNums
    rw [List.map_cons, List.map_cons, List.map_cons, List.map_nil, Int.toNat_natCast, Int.toNat_natCast, Int.toNat_natCast]
  rw [e1, e2, e3, hi, if_pos (show (mk (dgs 20 u)).size + 1 ≤ 9223372036854775807 by rw [mk_size]; omega), Option.bind_some, es, show (⟨#[46]⟩ : ByteArray) = mk [46] from rfl, mk_app, mk_app]
  have hl6 : ((([(⟨#[109]⟩ : ByteArray), (⟨#[]⟩ : ByteArray), (⟨#[107]⟩ : ByteArray), (⟨#[77]⟩ : ByteArray), (⟨#[75, 105]⟩ : ByteArray), (⟨#[77, 105]⟩ : ByteArray)] : List ByteArray).length : Nat) : Int) = 6 := rfl
  have hl6' : ((([1, 1000, 1000000, 1000000000, 1024000, 1048576000] : List Int).length : Nat) : Int) = 6 := rfl
  have hsz : ∀ l : List UInt8, (mk (dgs 20 u ++ l)).size = (dgs 20 u).length + l.length := fun l => by rw [mk_size, List.length_append]
  have key : ∀ (s : List UInt8) (v : Int), (s, v) ∈ sufsL → 0 ≤ v → v ≤ 1048576000 → s.length ≤ 2 →
      drayagelaw01_QuantSays.l0 40 (mk ((dgs 20 u ++ [46]) ++ [UInt8.ofNat (48 + g / 100), UInt8.ofNat (48 + g / 10 % 10), UInt8.ofNat (48 + g % 10)]) ++ mk s) (wrap64 ((wrap64 ((wrap64 (1000 * (u : Int))) + (g : Int))) * v)) 0 = some true := by
    intro s v h v0 v1 hs
    obtain ⟨q1, q2, q3, q4⟩ := says_num u g v hu hg v0 v1
    rw [q3, q4, mk_app, List.append_assoc, List.append_assoc]
    exact says_l0 _ _ (by rw [hsz]; simp only [List.length_append, List.length_cons, List.length_nil]; omega) q1 q2 (fun milli => says_text u g hu hg s v h milli) 35 (by decide)
  rw [hl6, hl6', if_pos (show (mk (dgs 20 u ++ [46])).size + (mk [UInt8.ofNat (48 + g / 100), UInt8.ofNat (48 + g / 10 % 10), UInt8.ofNat (48 + g % 10)]).size ≤ 9223372036854775807 by rw [hsz, mk_size]; simp only [List.length_cons, List.length_nil]; omega),
    if_pos t0, if_pos (show t < 6 from t1)]
  have ht6 : t = 0 ∨ t = 1 ∨ t = 2 ∨ t = 3 ∨ t = 4 ∨ t = 5 := by omega
  have hbig : ∀ s : ByteArray, s.size ≤ 2 → (mk ((dgs 20 u ++ [46]) ++ [UInt8.ofNat (48 + g / 100), UInt8.ofNat (48 + g / 10 % 10), UInt8.ofNat (48 + g % 10)])).size + s.size ≤ 9223372036854775807 := by
    intro s hs
    rw [List.append_assoc, hsz]
    simp only [List.length_append, List.length_cons, List.length_nil]
    omega
  rcases ht6 with rfl | rfl | rfl | rfl | rfl | rfl
  · rw [if_pos (hbig _ (by decide)), if_pos (by decide)]
    exact key [109] 1 (by decide) (by decide) (by decide) (by decide)
  · rw [if_pos (hbig _ (by decide)), if_pos (by decide)]
    exact key [] 1000 (by decide) (by decide) (by decide) (by decide)
  · rw [if_pos (hbig _ (by decide)), if_pos (by decide)]
    exact key [107] 1000000 (by decide) (by decide) (by decide) (by decide)
  · rw [if_pos (hbig _ (by decide)), if_pos (by decide)]
    exact key [77] 1000000000 (by decide) (by decide) (by decide) (by decide)
  · rw [if_pos (hbig _ (by decide)), if_pos (by decide)]
    exact key [75, 105] 1024000 (by decide) (by decide) (by decide) (by decide)
  · rw [if_pos (hbig _ (by decide)), if_pos (by decide)]
    exact key [77, 105] 1048576000 (by decide) (by decide) (by decide) (by decide)
end Go.Proofs.YtkpoipjgbdcdjaaDoor.Pure
