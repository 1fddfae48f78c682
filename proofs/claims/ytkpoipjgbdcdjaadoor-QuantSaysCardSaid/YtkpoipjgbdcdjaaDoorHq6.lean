import Derived.Test.YtkpoipjgbdcdjaaDoorHq5
/- What was printed is read as it was. -/
namespace Go.Proofs.YtkpoipjgbdcdjaaDoor.P
set_option linter.unusedVariables false
set_option linter.unusedSimpArgs false
open Go.RowKit Go.Proofs.YtkpoipjgbdcdjaaDoorW.PrintWords Go.Proofs.YtkpoipjgbdcdjaaDoorW.PrintLast Go.Proofs.YtkpoipjgbdcdjaaDoorW.PrintMore
abbrev sufsL : List (List UInt8 × Int) := [([], 1000), ([109], 1), ([107], 1000000), ([77], 1000000000), ([71], 1000000000000), ([75, 105], 1024000), ([77, 105], 1048576000), ([71, 105], 1073741824000)]
theorem suf_ends (s : List UInt8) (v : Int) (h : (s, v) ∈ sufsL) : Ends s ∧ (∀ r, s ≠ 46 :: r) ∧ 0 ≤ v ∧ v ≤ 1073741824000 := by
  unfold Ends
  simp only [sufsL, List.mem_cons, List.not_mem_nil, or_false, Prod.mk.injEq] at h
  rcases h with ⟨rfl, rfl⟩ | ⟨rfl, rfl⟩ | ⟨rfl, rfl⟩ | ⟨rfl, rfl⟩ | ⟨rfl, rfl⟩ | ⟨rfl, rfl⟩ | ⟨rfl, rfl⟩ | ⟨rfl, rfl⟩
  · exact ⟨(fun c r h => by cases h), (fun r h => by cases h), by decide, by decide⟩
  all_goals exact ⟨(fun c r h => by injection h with h1 h2; subst h1; decide), (fun r h => by injection h with h1 h2; exact absurd h1 (by decide)), by decide, by decide⟩
theorem back_num (u : Nat) (hu : u ≤ 1125899906842624) (s : List UInt8) (v : Int) (h : (s, v) ∈ sufsL) (milli : Bool) : parseS (mk (dgs 20 u ++ s)) milli = overS (1000 * (u : Int) * v) (unitI milli) := by
  obtain ⟨h1, h2, _⟩ := suf_ends s v h
  rw [parse_par, par_num u s hu h1 h2, sf_mk _ s v h]
  show overS ((1000 * (u : Int) + 0) * v) (unitI milli) = _
  rw [Int.add_zero]
theorem itoa_mk (n : Int) (h : 0 ≤ n) : itoaK n = mk (dgs 20 n.toNat) := by
  unfold itoaK
  rw [if_neg (by omega)]
theorem print_back (x : Int) (milli : Bool) (h0 : 0 ≤ x) (h1 : x ≤ 1099511627776) : (printS x milli).2 = 0 ∧ (printS x milli).1.size ≤ 1000 ∧ parseS (printS x milli).1 milli = (x, 0, 0) := by
  unfold printS
  rw [if_neg (by omega)]
  have hlen : ∀ n : Nat, (dgs 20 n).length ≤ 20 := fun n => dgs_len 20 n
  cases milli with
  | true =>
    rw [if_pos rfl]
    refine ⟨rfl, ?_⟩
    dsimp only
    unfold printM
    by_cases hm : Int.tmod x 1000 = 0
    · rw [Int.tmod_eq_emod_of_nonneg h0] at hm
      rw [if_pos (by rw [Int.tmod_eq_emod_of_nonneg h0]; exact hm), Int.tdiv_eq_ediv_of_nonneg h0, itoa_mk _ (by omega)]
      constructor
      · rw [mk_size]; have := hlen (x / 1000).toNat; omega
      · have := back_num (x / 1000).toNat (by omega) [] 1000 (by decide) true
        rw [List.append_nil] at this
        rw [this, show (1000 * (((x / 1000).toNat : Nat) : Int) * 1000) = x * 1000 by omega, show unitI true = 1000 from rfl, over_lo (x * 1000) 1000 (Or.inl rfl) (by omega) (by omega), if_neg (by omega), if_neg (by omega), show x * 1000 / 1000 = x by omega]
    · rw [if_neg hm, itoa_mk _ h0, show (⟨#[109]⟩ : ByteArray) = mk [109] from rfl, mk_app]
      constructor
      · rw [mk_size, List.length_append]; have := hlen x.toNat; simp only [List.length_singleton]; omega
      · rw [back_num x.toNat (by omega) [109] 1 (by decide) true, show 1000 * ((x.toNat : Nat) : Int) * 1 = x * 1000 by omega, show unitI true = 1000 from rfl, over_lo (x * 1000) 1000 (Or.inl rfl) (by omega) (by omega), if_neg (by omega), if_neg (by omega), show x * 1000 / 1000 = x by omega]
  | false =>
    rw [if_neg (show ¬ false = true by decide)]
    refine ⟨rfl, ?_⟩
    dsimp only
    unfold printG
    rw [Int.tmod_eq_emod_of_nonneg h0, Int.tmod_eq_emod_of_nonneg h0, Int.tmod_eq_emod_of_nonneg h0, Int.tdiv_eq_ediv_of_nonneg h0, Int.tdiv_eq_ediv_of_nonneg h0, Int.tdiv_eq_ediv_of_nonneg h0]
    have fin : ∀ a : Int, a = x * 1000000 → overS a (unitI false) = (x, 0, 0) := by
      intro a ha
      subst ha
      rw [show unitI false = 1000000 from rfl, over_lo (x * 1000000) 1000000 (Or.inr rfl) (by omega) (by omega), if_neg (by omega), if_neg (by omega), show x * 1000000 / 1000000 = x by omega]
    by_cases c1 : 0 < x ∧ x % 1073741824 = 0
    · rw [if_pos c1, itoa_mk _ (by omega), show (⟨#[71, 105]⟩ : ByteArray) = mk [71, 105] from rfl, mk_app]
      constructor
      · rw [mk_size, List.length_append]; have := hlen (x / 1073741824).toNat; show _ + 2 ≤ 1000; omega
      · rw [back_num (x / 1073741824).toNat (by omega) [71, 105] 1073741824000 (by decide) false]
        exact fin _ (by omega)
    rw [if_neg c1]
    by_cases c2 : 0 < x ∧ x % 1048576 = 0
    · rw [if_pos c2, itoa_mk _ (by omega), show (⟨#[77, 105]⟩ : ByteArray) = mk [77, 105] from rfl, mk_app]
      constructor
      · rw [mk_size, List.length_append]; have := hlen (x / 1048576).toNat; show _ + 2 ≤ 1000; omega
      · rw [back_num (x / 1048576).toNat (by omega) [77, 105] 1048576000 (by decide) false]
        exact fin _ (by omega)
    rw [if_neg c2]
    by_cases c3 : 0 < x ∧ x % 1024 = 0
    · rw [if_pos c3, itoa_mk _ (by omega), show (⟨#[75, 105]⟩ : ByteArray) = mk [75, 105] from rfl, mk_app]
      constructor
      · rw [mk_size, List.length_append]; have := hlen (x / 1024).toNat; show _ + 2 ≤ 1000; omega
      · rw [back_num (x / 1024).toNat (by omega) [75, 105] 1024000 (by decide) false]
        exact fin _ (by omega)
    rw [if_neg c3, itoa_mk _ h0]
    constructor
    · rw [mk_size]; have := hlen x.toNat; omega
    · have := back_num x.toNat (by omega) [] 1000 (by decide) false
      rw [List.append_nil] at this
      rw [this]
      exact fin _ (by omega)
theorem dgs_one (d : Nat) (h : d < 10) : dgs 20 d = [UInt8.ofNat (48 + d)] := if_pos h
theorem pcC_at (pre : List UInt8) : pcC (mk (pre ++ [37])) pre.length = (0, pre.length + 1, 0) := by
  have hs : (mk (pre ++ [37])).size = pre.length + 1 := by rw [mk_size, List.length_append, List.length_singleton]
  unfold pcC
  rw [if_pos (by omega), if_pos (by rw [gb_at0]; rfl), if_neg (by omega)]
theorem pct_back (x : Int) (h0 : 0 ≤ x) (h1 : x ≤ 1000) : (pctP x).2 = 0 ∧ (pctP x).1.size ≤ 1000 ∧ pctS (pctP x).1 = (x, 0, 0) := by
  have hlen : ∀ n : Nat, (dgs 20 n).length ≤ 20 := fun n => dgs_len 20 n
  unfold pctP
  rw [if_neg (by omega), Int.tmod_eq_emod_of_nonneg h0, Int.tdiv_eq_ediv_of_nonneg h0]
  by_cases hm : x % 10 = 0
  · rw [if_pos hm, itoa_mk _ (by omega), show (⟨#[37]⟩ : ByteArray) = mk [37] from rfl, mk_app]
    refine ⟨rfl, ?_, ?_⟩
    · dsimp only; rw [mk_size, List.length_append]; have := hlen (x / 10).toNat; simp only [List.length_singleton]; omega
    · dsimp only
      rw [pct_par, par_num (x / 10).toNat [37] (by omega) (fun c r h => by injection h with h1 h2; subst h1; decide) (fun r h => by injection h with h1 h2; exact absurd h1 (by decide)), pcC_at]
      show (if (0 : Int) = 0 then (if 1000 < 10 * (((x / 10).toNat : Nat) : Int) + 0 then ((0 : Int), (0 : Int), (10 : Int)) else (10 * (((x / 10).toNat : Nat) : Int) + 0, 0, 0)) else _) = (x, 0, 0)
      rw [if_pos rfl, if_neg (by omega), show 10 * (((x / 10).toNat : Nat) : Int) + 0 = x by omega]
  · rw [if_neg hm, itoa_mk _ (by omega), itoa_mk _ (by omega), dgs_one (x % 10).toNat (by omega), show (⟨#[37]⟩ : ByteArray) = mk [37] from rfl, show (⟨#[46]⟩ : ByteArray) = mk [46] from rfl, mk_app, mk_app, mk_app, List.append_assoc, List.append_assoc]
    refine ⟨rfl, ?_, ?_⟩
    · dsimp only; rw [mk_size, List.length_append]; have := hlen (x / 10).toNat; show _ + 3 ≤ 1000; omega
    · dsimp only
      obtain ⟨d, hd⟩ : ∃ d, (x % 10).toNat = d := ⟨_, rfl⟩
      have hd10 : d < 10 := by omega
      rw [hd]
      show pctS (mk (dgs 20 (x / 10).toNat ++ 46 :: UInt8.ofNat (48 + d) :: [37])) = (x, 0, 0)
      obtain ⟨L, hL⟩ : ∃ L, dgs 20 (x / 10).toNat = L := ⟨_, rfl⟩
      have hs : (mk (L ++ 46 :: UInt8.ofNat (48 + d) :: [37])).size = L.length + 3 := by rw [mk_size, List.length_append]; rfl
      have g1 := gb_at1 L 46 (UInt8.ofNat (48 + d)) [37]
      rw [dg_toNat d hd10] at g1
      have hpl : plC (mk (L ++ 46 :: UInt8.ofNat (48 + d) :: [37])) 1 ((mk (L ++ 46 :: UInt8.ofNat (48 + d) :: [37])).size + 1) 0 (L.length + 1) 0 = ((d : Int), L.length + 2, 1) := by
        rw [hs, plC, if_pos ⟨dg_iff.2 ⟨by omega, by omega, by omega⟩, by decide⟩, g1, plC, if_neg (fun h => absurd h.2 (by decide))]
        rw [show 10 * (0 : Int) + (((48 + d : Nat) : Int) - 48) = (d : Int) by omega]
      rw [pct_par, par_pt (x / 10).toNat (UInt8.ofNat (48 + d) :: [37]) (by omega) 1 (pcC _) (d : Int) (L.length + 2) 1 (by decide) (by rw [hL]; exact hpl), hL]
      have hp : pcC (mk (L ++ 46 :: UInt8.ofNat (48 + d) :: [37])) (L.length + 2) = (0, L.length + 2 + 1, 0) := by
        have := pcC_at (L ++ [46, UInt8.ofNat (48 + d)])
        rw [List.append_assoc, List.length_append] at this
        exact this
      rw [hp]
      show (if (0 : Int) = 0 then (if 1000 < 10 * (((x / 10).toNat : Nat) : Int) + (d : Int) * ten 0 then ((0 : Int), (0 : Int), (10 : Int)) else (10 * (((x / 10).toNat : Nat) : Int) + (d : Int) * ten 0, 0, 0)) else _) = (x, 0, 0)
      rw [show ten 0 = 1 from rfl, if_pos rfl, if_neg (by omega), show 10 * (((x / 10).toNat : Nat) : Int) + (d : Int) * 1 = x by omega]
/-- what Parse answers, roughly -/
theorem parse_any (t : ByteArray) (milli : Bool) : ((parseS t milli).2.2 = 0 ∧ 0 ≤ (parseS t milli).1 ∧ (parseS t milli).1 ≤ 1099511627776) ∨ ((parseS t milli).2.2 ≠ 0 ∧ (parseS t milli).1 = 0 ∧ 0 ≤ (parseS t milli).2.1 ∧ (parseS t milli).2.1 ≤ (t.size : Int)) := by
  have hu : unitI milli = 1000 ∨ unitI milli = 1000000 := by cases milli <;> decide
  rw [parse_par]
  by_cases he : (parC t 3 (sfC t)).e = 0
  · rw [if_pos he]
    have h0 := par_bd t he
    generalize (1000 * (parC t 3 (sfC t)).n + (parC t 3 (sfC t)).f) * (parC t 3 (sfC t)).s = a at h0
    unfold overS
    by_cases c1 : unitI milli ≤ a / 18446744073709551616
    · rw [if_pos c1]
      exact Or.inr ⟨by decide, rfl, Int.le_refl 0, (show (0 : Int) ≤ (t.size : Int) by omega)⟩
    rw [if_neg c1]
    have hnn := divP_nn (a / 18446744073709551616) (a % 18446744073709551616) (unitI milli) hu (by omega) (by omega) (by omega) (by omega)
    generalize divP (a / 18446744073709551616) (a % 18446744073709551616) (unitI milli) = qr at hnn
    by_cases c2 : 1099511627776 < qr.1 ∨ qr.1 = 1099511627776 ∧ 0 < qr.2
    · rw [if_pos c2]
      exact Or.inr ⟨by decide, rfl, Int.le_refl 0, (show (0 : Int) ≤ (t.size : Int) by omega)⟩
    rw [if_neg c2]
    by_cases c3 : 0 < qr.2
    · rw [if_pos c3]
      exact Or.inr ⟨by decide, rfl, Int.le_refl 0, (show (0 : Int) ≤ (t.size : Int) by omega)⟩
    · rw [if_neg c3]
      exact Or.inl ⟨rfl, hnn.1, by dsimp only; omega⟩
  · rw [if_neg he]
    have hle := par_le t 3 (sfC t) (fun p hp => sf_le t p hp)
    exact Or.inr ⟨he, rfl, by dsimp only; omega, by dsimp only; omega⟩
end Go.Proofs.YtkpoipjgbdcdjaaDoor.P
