import Derived.Test.YtcpalnmodbbklaaDoorPf3
import Derived.Test.YtcpalnmodbbklaaDoorHwhere
import Derived.Test.YtcpalnmodbbklaaDoorHworks
namespace Go.Proofs.YtcpalnmodbbklaaDoor.Pure
set_option linter.unusedVariables false
set_option linter.unusedSimpArgs false
open Go.RowKit Go.Proofs.YtcpalnmodbbklaaDoor.P Go.Proofs.YtcpalnmodbbklaaDoorW.PrintWords Go.Proofs.YtcpalnmodbbklaaDoorW.PrintLast

theorem get_extract (s : ByteArray) (a b i : Nat) (h : a + i < b) (hb : b ≤ s.size) : (s.extract a b).get! i = s.get! (a + i) := by
  have h1 := get_list s (a + i) (by omega)
  have h2 := get_list (s.extract a b) i (by rw [ByteArray.size_extract]; omega)
  rw [extract_list, List.getElem?_take, if_pos (by omega), List.getElem?_drop, h1] at h2
  exact (Option.some.inj h2).symm
theorem pre_extract (s : ByteArray) (m p : Nat) (hm : m ≤ s.size) (hp : p ≤ m) : Pre s (s.extract 0 m) p :=
  ⟨by rw [ByteArray.size_extract]; omega, fun i hi => by rw [get_extract s 0 m i (by omega) hm, Nat.zero_add]⟩
/-- ahead of an error's line stand words -/
theorem ahead_ok {s : ByteArray} {a : Nat} (h : LB s a) (ha : a ≤ s.size) (hz : s.size ≤ 65536) : ∃ l, scan_Words.f (s.extract 0 a) = some (l, 0, 0, 0) := by
  obtain ⟨n, τ, hn, hm, hr⟩ := h.run
  have hsz : (s.extract 0 a).size = a := by rw [ByteArray.size_extract]; omega
  have h1 := hr (s.extract 0 a) (pre_extract s a a ha (Nat.le_refl _)) (a + 1 - n)
  unfold scan_Words.f wordsF
  rw [if_pos (by omega), if_pos (by omega), hsz, show a + 1 = n + (a + 1 - n) by omega, h1]
  obtain ⟨q, hq⟩ : ∃ q, a + 1 - n = q + 1 := ⟨a - n, by omega⟩
  rw [hq]
  unfold wordsGo
  have h10 : stepS τ 10 = (τ, 0) := by
    unfold stepS
    rw [hm]
    exact stepB_10 τ
  rw [if_neg (by omega), h10]
  exact ⟨τ.wd, rfl⟩
theorem count_extract (s : ByteArray) (a e : Nat) (ha : a ≤ e) (he : e ≤ s.size) : Lib.runeCount (s.extract a e) = Lib.runeCountFrom (s.extract 0 e) (e - a) a := by
  have hsz : (s.extract 0 e).size = e := by rw [ByteArray.size_extract]; omega
  have hx : s.extract a e = (s.extract 0 e).extract a (s.extract 0 e).size := by
    apply ba_ext
    rw [hsz, extract_list, extract_list, extract_list, List.drop_zero, Nat.sub_zero, List.drop_take, List.take_take, Nat.min_self]
  unfold Lib.runeCount
  rw [hx, Lib.tail_count, Nat.add_zero, Lib.tail_size, hsz]
/-- an error's place, and its line's end -/
theorem place_ok {s : ByteArray} {p a e r : Nat} (hap : a ≤ p) (hps : p ≤ s.size) (hno : ∀ i, a ≤ i → i < p → (s.get! i).toNat ≠ 10) (hra : r ≤ p - a)
    (hcnt : ∀ t, Pre s t p → ∀ k, Lib.runeCountFrom t (r + k) a = r + Lib.runeCountFrom t k p) (hae : a ≤ e) (hes : e ≤ s.size) (hend : e = s.size ∨ (s.get! e).toNat = 10) (hne : ∀ i, a ≤ i → i < e → (s.get! i).toNat ≠ 10) :
    ∃ c, Lib.runeCount (s.extract a e) = r + c ∧ (c = 0 ↔ (p = s.size ∨ (s.get! p).toNat = 10)) := by
  have hpe : p ≤ e := by
    rcases Nat.lt_or_ge e p with h | h
    · rcases hend with h2 | h2
      · omega
      · exact absurd h2 (hno e hae h)
    · exact h
  have hsz : (s.extract 0 e).size = e := by rw [ByteArray.size_extract]; omega
  refine ⟨Lib.runeCountFrom (s.extract 0 e) (e - a - r) p, ?_, ?_⟩
  · rw [count_extract s a e hae hes, show e - a = r + (e - a - r) by omega, hcnt _ (pre_extract s e p hes hpe)]
    rw [show r + (e - a - r) - r = e - a - r by omega]
  · rcases Nat.lt_or_ge p e with h | h
    · obtain ⟨q, hq⟩ : ∃ q, e - a - r = q + 1 := ⟨e - a - r - 1, by omega⟩
      rw [hq, count_step (by omega)]
      constructor
      · intro h2; omega
      · rintro (h2 | h2)
        · omega
        · exact absurd h2 (hne p hap h)
    · have : p = e := by omega
      subst this
      rw [Lib.runeCountFrom_end _ _ _ (by omega)]
      exact ⟨fun _ => hend, fun _ => rfl⟩
theorem btn (s : ByteArray) (j : Nat) (h : j < s.size) : bt s (j : Int) = (((s.get! j).toNat : Nat) : Int) := by
  unfold bt
  rw [Int.toNat_natCast, dif_pos h, ← Go.get_at s j h, Nat.add_zero]
theorem line_loop0 (s : ByteArray) (a : Nat) (col e : Int) (hb : LB s a) (ha : a ≤ s.size) (hz : s.size ≤ 400) : ∀ (d j K : Nat), j + d = a → 2 * d + 2 ≤ K →
    ∃ K', K ≤ K' + 2 * d + 2 ∧ drayagelaw04_ScanWhere.l0 K s ((nl s a + 1 : Nat) : Int) col e (j : Int) ((nl s j + 1 : Nat) : Int) = drayagelaw04_ScanWhere.l1 K' s ((nl s a + 1 : Nat) : Int) col e (a : Int) ((nl s a + 1 : Nat) : Int) (a : Int) := by
  intro d
  induction d with
  | zero =>
    intro j K hj hK
    obtain rfl : j = a := by omega
    obtain ⟨K, rfl⟩ : ∃ q, K = q + 2 := ⟨K - 2, by omega⟩
    refine ⟨K, by omega, ?_⟩
    simp only [drayagelaw04_ScanWhere.l0]
    by_cases h : (j : Int) < (s.size : Int)
    · rw [if_pos h, decide_eq_false (by omega)]
      simp only [drayagelaw04_ScanWhere.j1]
      rw [if_neg (by simp)]
    · rw [if_neg h]
      simp only [drayagelaw04_ScanWhere.j1]
      rw [if_neg (by simp)]
  | succ d ih =>
    intro j K hj hK
    obtain ⟨K, rfl⟩ : ∃ q, K = q + 2 := ⟨K - 2, by omega⟩
    have hlt : nl s j < nl s a := by
      rcases hb.b with h | ⟨h1, h2⟩
      · omega
      · have e1 := nl_le (s := s) (a := j) (a - 1) (by omega)
        have e2 := nl_succ s (a - 1)
        rw [if_pos h2, show a - 1 + 1 = a by omega] at e2
        omega
    have hnle : nl s a ≤ 400 := by
      have : ∀ m, nl s m ≤ m := by
        intro m
        induction m with
        | zero => exact Nat.le_refl _
        | succ m ih => rw [nl_succ]; split <;> omega
      have := this a
      omega
    obtain ⟨K', h1, h2⟩ := ih (j + 1) K (by omega) (by omega)
    refine ⟨K', by omega, ?_⟩
    rw [← h2]
    simp only [drayagelaw04_ScanWhere.l0]
    rw [if_pos (by omega), decide_eq_true (by omega)]
    simp only [drayagelaw04_ScanWhere.j1]
    rw [if_pos trivial, if_pos (by omega), if_pos (by omega), btn s j (by omega), wrap_id (x := (j : Int) + 1) (by omega) (by omega), show (j : Int) + 1 = ((j + 1 : Nat) : Int) by omega, nl_succ]
    by_cases h10 : (s.get! j).toNat = 10
    · rw [if_pos (by omega), if_pos h10, wrap_id (by omega) (by omega), show (((nl s j + 1 : Nat) : Int)) + 1 = ((nl s j + 1 + 1 : Nat) : Int) by omega]
    · rw [if_neg (by omega), if_neg h10]
theorem line_loop1 (s : ByteArray) (a : Nat) (line col e : Int) (ha : a ≤ s.size) (hz : s.size ≤ 400)
    (hw : ∃ l, scan_Words.f (s.extract 0 a) = some (l, 0, 0, 0)) (hcol : 1 ≤ col)
    (hfin : ∀ E, a ≤ E → E ≤ s.size → (E = s.size ∨ (s.get! E).toNat = 10) → (∀ i, a ≤ i → i < E → (s.get! i).toNat ≠ 10) → ∃ R : Nat, Lib.runeCount (s.extract a E) = R ∧ col ≤ (R : Int) + 1 ∧ (e = 3 ↔ col = (R : Int) + 1)) :
    ∀ (d j K : Nat), j + d = s.size → a ≤ j → (∀ i, a ≤ i → i < j → (s.get! i).toNat ≠ 10) → d + 21 ≤ K → drayagelaw04_ScanWhere.l1 K s line col e (a : Int) line (j : Int) = some true := by
  obtain ⟨wl, hw⟩ := hw
  have main : ∀ E K : Nat, a ≤ E → E ≤ s.size → (E = s.size ∨ (s.get! E).toNat = 10) → (∀ i, a ≤ i → i < E → (s.get! i).toNat ≠ 10) → 20 ≤ K →
      (if 0 ≤ (a : Int) then (if (a : Int) ≤ (s.size : Int) then ((scan_Words.f (s.extract 0 ((a : Int)).toNat)).bind fun bt144 => (if (a : Int) ≤ (E : Int) then (if (E : Int) ≤ (s.size : Int) then ((utf8_RuneCountInString.f (s.extract ((a : Int)).toNat ((E : Int)).toNat)).bind fun t150 => (if True then (if bt144.2.2.2 = 0 then (if col ≥ 1 then (if col ≤ (wrap64 (t150 + 1)) then (if ((e == 3) == (col == (wrap64 (t150 + 1)))) = true then ((drayagelaw04_works.f K).bind fun t151 => (some t151)) else (some false)) else (some false)) else (some false)) else (some false)) else (some false))) else (none)) else (none))) else (none)) else (none)) = some true := by
    intro E K h1 h2 h3 h4 hK
    obtain ⟨R, r1, r2, r3⟩ := hfin E h1 h2 h3 h4
    have hRle : R ≤ 400 := by
      have := Lib.runeCount_le (s.extract a E)
      rw [r1, ByteArray.size_extract] at this
      omega
    have hr : utf8_RuneCountInString.f (s.extract a E) = some (R : Int) := by
      unfold utf8_RuneCountInString.f
      rw [if_pos (by rw [ByteArray.size_extract]; omega), r1]
    rw [if_pos (by omega), if_pos (by omega), Int.toNat_natCast, Int.toNat_natCast, hw]
    simp only [Option.bind_some]
    rw [if_pos (by omega), if_pos (by omega), hr]
    simp only [Option.bind_some]
    obtain ⟨q, rfl⟩ : ∃ q, K = 20 + q := ⟨K - 20, by omega⟩
    rw [if_pos trivial, if_pos trivial, if_pos hcol, wrap_id (by omega) (by omega), if_pos r2, works_k q]
    rw [if_pos (by
      rw [beq_iff_eq, Bool.eq_iff_iff, beq_iff_eq, beq_iff_eq]
      exact r3)]
    rfl
  intro d
  induction d with
  | zero =>
    intro j K hj haj hno hK
    obtain ⟨K, rfl⟩ : ∃ q, K = q + 1 := ⟨K - 1, by omega⟩
    simp only [drayagelaw04_ScanWhere.l1]
    rw [if_neg (by omega)]
    exact main j K haj (by omega) (Or.inl (by omega)) hno (by omega)
  | succ d ih =>
    intro j K hj haj hno hK
    obtain ⟨K, rfl⟩ : ∃ q, K = q + 1 := ⟨K - 1, by omega⟩
    simp only [drayagelaw04_ScanWhere.l1]
    rw [if_pos (by omega), if_pos (by omega), btn s j (by omega)]
    by_cases h10 : (s.get! j).toNat = 10
    · rw [if_pos (by omega)]
      exact main j K haj (by omega) (Or.inr h10) hno (by omega)
    · rw [if_neg (by omega), wrap_id (by omega) (by omega), show (j : Int) + 1 = ((j + 1 : Nat) : Int) by omega]
      exact ih (j + 1) K (by omega) (by omega) (fun i h1 h2 => by
        rcases Nat.lt_or_ge i j with h3 | h3
        · exact hno i h1 h3
        · obtain rfl : i = j := by omega
          exact h10) (by omega)
theorem ScanWhere : drayagelaw04_ScanWhere.Pure := by
  intro a0 hz0
  refine ⟨2000, ?_⟩
  unfold drayagelaw04_ScanWhere.f
  have hmn : mn (a0.size : Int) 400 = ((min a0.size 400 : Nat) : Int) := by unfold mn; split <;> omega
  rw [hmn, if_pos (by omega), if_pos (by omega), Int.toNat_natCast]
  obtain ⟨s, hs⟩ : ∃ s, a0.extract 0 (min a0.size 400) = s := ⟨_, rfl⟩
  have hsz : s.size ≤ 400 := by rw [← hs, ByteArray.size_extract]; omega
  rw [hs]
  have hw : scan_Words.f s = some (wordsGo s (s.size + 1) 0 sc0) := by
    unfold scan_Words.f wordsF
    rw [if_pos (by omega), if_pos (by omega)]
  rw [hw]
  simp only [Option.bind_some]
  rcases go_ends s (s.size + 1) 0 sc0 (Tr.zero s) (by omega) with ⟨h1, h2⟩ | h1
  · have hv : utf8_ValidString.f s = some true := by
      unfold utf8_ValidString.f Lib.validD
      rw [if_pos (by omega)]
      have := h2 s.data.toList.length
      rw [List.drop_zero] at this
      rw [this]
    rw [h1]
    dsimp only
    rw [if_pos rfl, if_pos rfl, if_pos rfl, hv]
    simp only [Option.bind_some]
    rw [if_pos trivial, show 2000 = 20 + 1980 from rfl, works_k 1980]
    rfl
  · obtain ⟨p, σ, hT, e1, e2, e3, e4⟩ := h1.ex
    rw [if_neg h1.ne]
    obtain ⟨a, r, hap, hlb, hln, hno, hcl, hra, hcnt⟩ := hT.lin
    have hps := hT.pz
    rw [e1, e2, hln, hcl]
    obtain ⟨K', k1, k2⟩ := line_loop0 s a ((r + 1 : Nat) : Int) (wordsGo s (s.size + 1) 0 sc0).2.2.2 hlb (by omega) hsz a 0 2000 (by omega) (by omega)
    have k3 : drayagelaw04_ScanWhere.l0 2000 s ((nl s a + 1 : Nat) : Int) ((r + 1 : Nat) : Int) (wordsGo s (s.size + 1) 0 sc0).2.2.2 0 1 = _ := k2
    rw [k3]
    refine line_loop1 s a _ _ _ (by omega) hsz (ahead_ok hlb (by omega) (by omega)) (by omega) ?_ (s.size - a) a K' (by omega) (Nat.le_refl _) (fun i h1 h2 => by omega) (by omega)
    intro E h1 h2 h3 h4
    obtain ⟨c, c1, c2⟩ := place_ok hap hps hno hra hcnt h1 h2 h3 h4
    refine ⟨r + c, c1, by omega, ?_⟩
    rw [e3, ← c2]
    omega
end Go.Proofs.YtcpalnmodbbklaaDoor.Pure
