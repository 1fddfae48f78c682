import Derived.Test.YtcpalnmodbbklaaDoorPf6
import Derived.Test.YtcpalnmodbbklaaDoorHeqv
import Derived.Test.YtcpalnmodbbklaaDoorHworks
import Derived.Test.YtcpalnmodbbklaaDoorHquote
namespace Go.Proofs.YtcpalnmodbbklaaDoor.Pure
set_option linter.unusedVariables false
set_option linter.unusedSimpArgs false
open Go.RowKit Go.Proofs.YtcpalnmodbbklaaDoor.P Go.Proofs.YtcpalnmodbbklaaDoorW.PrintWords Go.Proofs.YtcpalnmodbbklaaDoorW.PrintLast

theorem btn_ (s : ByteArray) (j : Nat) (h : j < s.size) : bt s (j : Int) = (((s.get! j).toNat : Nat) : Int) := by
  unfold bt
  rw [Int.toNat_natCast, dif_pos h, ← Go.get_at s j h, Nat.add_zero]
/-- a byte that can't stand in a string -/
def ctl (s : ByteArray) (i : Nat) : Prop := (s.get! i).toNat < 32 ∧ (s.get! i).toNat ≠ 10
theorem piece_len5 (c : Nat) : (pieceQ c).length ≤ 5 := piece_len c
theorem quote_ok (s : ByteArray) : ∀ k p acc l, quoteGo s k p acc = some l → (∀ m, Lib.validGoD m (s.data.toList.drop p) = true) ∧ (∀ i, p ≤ i → i < s.size → ¬ ctl s i) ∧ (∃ r, l = acc ++ r) ∧ l.length ≤ acc.length + 5 * k + 1 := by
  intro k
  induction k with
  | zero => intro p acc l h; cases h
  | succ k ih =>
    intro p acc l h
    by_cases hp : p < s.size
    · have hw := decode_in' s p hp
      cases hb : badB s p with
      | true => rw [quoteGo_bad hp hb] at h; cases h
      | false =>
        rw [quoteGo_on hp hb] at h
        unfold badB at hb
        rw [Bool.or_eq_false_iff] at hb
        obtain ⟨ho, hb⟩ := hb
        have hc : (Utf8.decode s p).1 < 32 → (Utf8.decode s p).1 = 10 := by simpa using hb
        obtain ⟨h1, h2, ⟨r, h3⟩, h4⟩ := ih _ _ _ h
        have hpl := piece_len5 (Utf8.decode s p).1
        refine ⟨fun m => ?_, fun i g1 g2 => ?_, ⟨pieceQ (Utf8.decode s p).1 ++ r, by rw [h3, List.append_assoc]⟩, by rw [List.length_append] at h4; omega⟩
        · cases m with
          | zero => rfl
          | succ m =>
            unfold Lib.validGoD
            rw [if_neg (drop_ne hp), decodeL_drop, if_neg (fun hh => by
              unfold oddB at ho
              rw [decide_eq_true hh.1, decide_eq_true hh.2] at ho
              cases ho), List.drop_drop]
            exact h1 m
        · rcases Nat.lt_or_ge i (p + (Utf8.decode s p).2) with h5 | h5
          · intro hct
            obtain ⟨c1, c2⟩ := hct
            rcases Nat.lt_or_ge (Utf8.decode s p).1 128 with h6 | h6
            · obtain ⟨e1, e2⟩ := decode_low h6
              obtain rfl : i = p := by omega
              rw [e2] at c1 c2
              exact c2 (hc c1)
            · have := P.decode_high h6 ho (i - p) (by omega)
              rw [show p + (i - p) = i by omega] at this
              omega
          · exact h2 i h5 g2
    · rw [quoteGo_end hp] at h
      have h := Option.some.inj h
      have hd : s.data.toList.drop p = [] := by rw [List.drop_eq_nil_iff]; simp; omega
      refine ⟨fun m => ?_, fun i g1 g2 => by omega, ⟨[34], h.symm⟩, by rw [← h, List.length_append]; simp⟩
      rw [hd]
      cases m with
      | zero => rfl
      | succ m => unfold Lib.validGoD; rw [if_pos rfl]
theorem quote_some (s : ByteArray) : ∀ k p acc, s.size - p < k → (∃ m, s.size - p ≤ m ∧ Lib.validGoD m (s.data.toList.drop p) = true) → (∀ i, p ≤ i → i < s.size → ¬ ctl s i) → ∃ l, quoteGo s k p acc = some l := by
  intro k
  induction k with
  | zero => intro p acc h; omega
  | succ k ih =>
    intro p acc hk ⟨m, hm, hv⟩ hn
    by_cases hp : p < s.size
    · have hw := decode_in' s p hp
      obtain ⟨m, rfl⟩ : ∃ q, m = q + 1 := ⟨m - 1, by omega⟩
      unfold Lib.validGoD at hv
      rw [if_neg (drop_ne hp), decodeL_drop, List.drop_drop] at hv
      by_cases hodd : (Utf8.decode s p).1 = 65533 ∧ (Utf8.decode s p).2 = 1
      · rw [if_pos hodd] at hv; cases hv
      · rw [if_neg hodd] at hv
        have ho : oddB s p = false := by
          unfold oddB
          rw [Bool.and_eq_false_iff, decide_eq_false_iff_not, decide_eq_false_iff_not]
          omega
        have hb : badB s p = false := by
          unfold badB
          rw [ho, Bool.false_or, Bool.and_eq_false_iff, decide_eq_false_iff_not, decide_eq_false_iff_not]
          rcases Nat.lt_or_ge (Utf8.decode s p).1 32 with h | h
          · right
            intro h2
            have e := (decode_low (s := s) (p := p) (by omega)).2
            exact hn p (Nat.le_refl _) hp ⟨by omega, by omega⟩
          · left; omega
        rw [quoteGo_on hp hb]
        exact ih _ _ (by omega) ⟨m, by omega, hv⟩ (fun i h1 h2 => hn i (by omega) h2)
    · exact ⟨_, quoteGo_end hp⟩
theorem get_of' {t : ByteArray} {A : List UInt8} {x : UInt8} {B : List UInt8} (h : t.data.toList = A ++ x :: B) : A.length < t.size ∧ t.get! A.length = x := get_of t A x B h
theorem asc_at {t : ByteArray} {A : List UInt8} {x : UInt8} {B : List UInt8} (h : t.data.toList = A ++ x :: B) (hx : x.toNat < 128) : A.length < t.size ∧ rcv t A.length = (x.toNat : Int) ∧ oddB t A.length = false ∧ wdt t A.length = 1 := by
  obtain ⟨h1, h2⟩ := get_of' h
  have hd := decode_asc (s := t) (p := A.length) (by rw [h2]; exact hx)
  have hr : rcv t A.length = (x.toNat : Int) := by rw [rcv_in h1, hd, h2]
  exact ⟨h1, hr, low_odd h1 (by rw [hr]; omega), by unfold wdt; rw [hd]⟩
/-- the machine reads what Quote made -/
theorem back_run (s t : ByteArray) (L : List UInt8) (x3 : SW) (gk : Nat) (ht : t.data.toList = [32] ++ (L ++ [59])) : ∀ k p acc (tx : List Int) (ln cl : Int), p ≤ s.size → quoteGo s k p acc = some L → runesBytes tx = s.extract 0 p →
    ∃ ln' cl' gk' tx', Wd t (1 + acc.length) ⟨.quo, [x3], gk, tx, ln, cl⟩ = Wd t (1 + L.length) ⟨.btw, [⟨x3.f0, s, x3.f2, x3.f3⟩], gk', tx', ln', cl'⟩ := by
  intro k
  induction k with
  | zero => intro p acc tx ln cl _ h; cases h
  | succ k ih =>
    intro p acc tx ln cl hps h htx
    have one : ∀ (A : List UInt8) (c : UInt8) (B : List UInt8) (n : Nat) (σ τ : Sc), L = A ++ c :: B → n = 1 + A.length → c.toNat < 128 → stepS σ (c.toNat : Int) = (τ, 0) → Wd t n σ = Wd t (n + 1) { τ with ln := lnv t n τ.ln, cl := clv t n τ.cl } := by
      intro A c B n σ τ hL hn hc hs
      subst hn
      have := asc_at (t := t) (A := [32] ++ A) (x := c) (B := B ++ [59]) (by rw [ht, hL]; simp) hc
      rw [List.length_append, List.length_singleton] at this
      obtain ⟨a1, a2, a3, a4⟩ := this
      rw [W_on a1 a3 a2 hs, a4]
    by_cases hp : p < s.size
    · have hw := decode_in' s p hp
      cases hb : badB s p with
      | true => rw [quoteGo_bad hp hb] at h; cases h
      | false =>
        rw [quoteGo_on hp hb] at h
        unfold badB at hb
        rw [Bool.or_eq_false_iff] at hb
        obtain ⟨ho, hb⟩ := hb
        have hc32 : (Utf8.decode s p).1 < 32 → (Utf8.decode s p).1 = 10 := by simpa using hb
        obtain ⟨_, _, ⟨r, hr⟩, _⟩ := quote_ok s k _ _ _ h
        have hnext : runesBytes (tx ++ [rcv s p]) = s.extract 0 (p + (Utf8.decode s p).2) := by
          rw [runes_at hp ho, htx]
          exact extract_join s 0 p (p + wdt s p) (Nat.zero_le _) (Nat.le_add_right _ _) hw.2
        have hrc := rcv_in hp
        by_cases hE : (Utf8.decode s p).1 = 10 ∨ (Utf8.decode s p).1 = 34 ∨ (Utf8.decode s p).1 = 92
        · obtain ⟨z, hz, hzx, hze, hz128⟩ : ∃ z : UInt8, pieceQ (Utf8.decode s p).1 = [92, z] ∧ escX (z.toNat : Int) = rcv s p ∧ escB (z.toNat : Int) = true ∧ z.toNat < 128 := by
            rcases hE with e | e | e
            · exact ⟨110, by rw [e]; rfl, by rw [hrc, e]; rfl, by decide, by decide⟩
            · exact ⟨34, by rw [e]; rfl, by rw [hrc, e]; rfl, by decide, by decide⟩
            · exact ⟨92, by rw [e]; rfl, by rw [hrc, e]; rfl, by decide, by decide⟩
          rw [hz] at h hr
          have hL1 : L = acc ++ (92 : UInt8) :: (z :: r) := by rw [hr]; simp
          have hL2 : L = (acc ++ [92]) ++ z :: r := by rw [hr]; simp
          have s1 := one acc 92 _ (1 + acc.length) ⟨.quo, [x3], gk, tx, ln, cl⟩ ⟨.esc, [x3], gk, tx, ln, cl⟩ hL1 rfl (by decide) rfl
          have s2 := one (acc ++ [92]) z r (1 + acc.length + 1) ⟨.esc, [x3], gk, tx, lnv t (1 + acc.length) ln, clv t (1 + acc.length) cl⟩ ⟨.quo, [x3], gk, tx ++ [escX (z.toNat : Int)], lnv t (1 + acc.length) ln, clv t (1 + acc.length) cl⟩ hL2 (by simp; omega) hz128 (by
            unfold stepS stepE
            dsimp only
            rw [if_neg (fun e => by rw [e] at hze; cases hze), if_pos hze])
          obtain ⟨ln', cl', gk', tx', hf⟩ := ih (p + (Utf8.decode s p).2) (acc ++ [92, z]) (tx ++ [escX (z.toNat : Int)]) _ _ hw.2 h (by rw [hzx]; exact hnext)
          refine ⟨ln', cl', gk', tx', s1.trans (s2.trans ?_)⟩
          rw [show 1 + acc.length + 1 + 1 = 1 + (acc ++ [92, z]).length by simp; omega]
          exact hf
        · have hpc : pieceQ (Utf8.decode s p).1 = (s.data.toList.drop p).take (Utf8.decode s p).2 := by
            unfold pieceQ
            rw [if_neg (by omega), if_neg (by omega), enc_at hp ho]
          rw [hpc] at h hr
          have hplen : ((s.data.toList.drop p).take (Utf8.decode s p).2).length = (Utf8.decode s p).2 := by simp; omega
          have hq : 1 + acc.length + (Utf8.decode s p).2 ≤ t.size := by
            have : t.data.toList.length = t.size := by simp
            rw [← this, ht, hr]
            simp only [List.length_append, List.length_cons, List.length_nil, hplen]
            omega
          have hbytes : ∀ i, i < (Utf8.decode s p).2 → t.get! (1 + acc.length + i) = s.get! (p + i) := by
            intro i hi
            have h1 := get_list t (1 + acc.length + i) (by omega)
            have h2 := get_list s (p + i) (by omega)
            rw [ht, hr, List.append_assoc, List.append_assoc, ← List.append_assoc, List.getElem?_append_right (by simp; omega)] at h1
            rw [show 1 + acc.length + i - ([32] ++ acc : List UInt8).length = i by simp; omega, List.getElem?_append_left (by rw [hplen]; exact hi), List.getElem?_take, if_pos hi, List.getElem?_drop, h2] at h1
            exact (Option.some.inj h1).symm
          have hd := decode_local hp ho hq hbytes
          have hot := odd_local hp ho hq hbytes
          have hlt : 1 + acc.length < t.size := by omega
          have hrt : rcv t (1 + acc.length) = rcv s p := by rw [rcv_in hlt, rcv_in hp, hd]
          have hst : stepS ⟨.quo, [x3], gk, tx, ln, cl⟩ (rcv s p) = (⟨.quo, [x3], gk, tx ++ [rcv s p], ln, cl⟩, 0) := by
            unfold stepS stepQ
            dsimp only
            rw [if_neg (by omega), if_neg (by omega), if_neg (by omega), if_neg (by omega)]
          have s1 := W_on hlt hot hrt hst
          obtain ⟨ln', cl', gk', tx', hf⟩ := ih (p + (Utf8.decode s p).2) (acc ++ (s.data.toList.drop p).take (Utf8.decode s p).2) (tx ++ [rcv s p]) (lnv t (1 + acc.length) ln) (clv t (1 + acc.length) cl) hw.2 h hnext
          refine ⟨ln', cl', gk', tx', s1.trans ?_⟩
          have hwt : wdt t (1 + acc.length) = (Utf8.decode s p).2 := by unfold wdt; rw [hd]
          rw [hwt]
          rw [List.length_append, hplen, ← Nat.add_assoc] at hf
          exact hf
    · rw [quoteGo_end hp] at h
      have h := Option.some.inj h
      have hpe : p = s.size := by omega
      have hst : stepS ⟨.quo, [x3], gk, tx, ln, cl⟩ ((34 : UInt8).toNat : Int) = (⟨.btw, withText ([] ++ [x3]) (runesBytes tx), gk, tx, ln, cl⟩, 0) := rfl
      have s1 := one acc 34 [] (1 + acc.length) ⟨.quo, [x3], gk, tx, ln, cl⟩ _ (by rw [← h]) rfl (by decide) hst
      have hx : s.extract 0 p = s := by
        rw [hpe]
        apply ba_ext
        rw [extract_list, List.drop_zero, Nat.sub_zero, List.take_of_length_le (by simp)]
      rw [withText_snoc, htx, hx] at s1
      refine ⟨lnv t (1 + acc.length) ln, clv t (1 + acc.length) cl, gk, tx, s1.trans ?_⟩
      rw [← h, List.length_append, List.length_singleton, ← Nat.add_assoc]
      rfl
theorem back_words (s : ByteArray) (L : List UInt8) (hz : s.size ≤ 400) (h : quoteGo s (s.size + 1) 0 [34] = some L) (q : ByteArray) (hq : q.data.toList = L) :
    ∃ y : SW, y.f0 = 4 ∧ scan_Words.f ((((⟨#[32]⟩ : ByteArray) ++ q) ++ (⟨#[59]⟩ : ByteArray))) = some ([⟨3, s, 1, 2⟩, y], 0, 0, 0) := by
  obtain ⟨t, ht0⟩ : ∃ t, (((⟨#[32]⟩ : ByteArray) ++ q) ++ (⟨#[59]⟩ : ByteArray)) = t := ⟨_, rfl⟩
  rw [ht0]
  have ht : t.data.toList = [32] ++ (L ++ [59]) := by
    rw [← ht0, ByteArray.data_append, ByteArray.data_append, Array.toList_append, Array.toList_append, hq]
    simp
  obtain ⟨_, _, ⟨r, hr⟩, hl⟩ := quote_ok s _ _ _ _ h
  have hts : t.size = L.length + 2 := by
    have : t.data.toList.length = t.size := by simp
    rw [← this, ht]
    simp
  have hL1 : 1 ≤ L.length := by rw [hr]; simp
  simp only [List.length_singleton] at hl
  unfold scan_Words.f wordsF
  rw [if_pos (by omega), if_pos (by omega), fuelW t (t.size + 1) 0 sc0 (by omega)]
  have a0 := asc_at (t := t) (A := []) (x := 32) (B := L ++ [59]) (by rw [ht]; rfl) (by decide)
  have s0 : Wd t 0 sc0 = Wd t 1 ⟨.btw, [], 0, [], lnv t 0 1, clv t 0 1⟩ := by
    obtain ⟨b1, b2, b3, b4⟩ := a0
    have := W_on (σ := sc0) (τ := sc0) b1 b3 b2 rfl
    rw [b4] at this
    exact this
  have e0 : lnv t 0 1 = 1 ∧ clv t 0 1 = 2 := by
    obtain ⟨b1, b2, b3, b4⟩ := a0
    have h10 : (Utf8.decode t 0).1 ≠ 10 := by
      have b2 : rcv t 0 = ((32 : UInt8).toNat : Int) := b2
      have b1' : 0 < t.size := b1
      rw [rcv_in b1'] at b2
      intro e
      rw [e] at b2
      cases b2
    unfold lnv clv
    rw [if_neg h10, if_neg h10]
    exact ⟨rfl, rfl⟩
  rw [s0, e0.1, e0.2]
  have a1 := asc_at (t := t) (A := [32]) (x := 34) (B := r ++ [59]) (by rw [ht, hr]; simp) (by decide)
  have s1 : Wd t 1 ⟨.btw, [], 0, [], 1, 2⟩ = Wd t 2 ⟨.quo, [⟨3, ⟨#[]⟩, 1, 2⟩], 0, [], lnv t 1 1, clv t 1 2⟩ := by
    obtain ⟨b1, b2, b3, b4⟩ := a1
    have := W_on (σ := ⟨.btw, [], 0, [], 1, 2⟩) (τ := ⟨.quo, [⟨3, ⟨#[]⟩, 1, 2⟩], 0, [], 1, 2⟩) b1 b3 b2 rfl
    rw [b4] at this
    exact this
  obtain ⟨ln', cl', gk', tx', hf⟩ := back_run s t L ⟨3, ⟨#[]⟩, 1, 2⟩ 0 ht (s.size + 1) 0 [34] [] (lnv t 1 1) (clv t 1 2) (Nat.zero_le _) h (by
    apply ba_ext
    rw [extract_list]
    rfl)
  rw [s1]
  have hf2 : Wd t 2 ⟨.quo, [⟨3, ⟨#[]⟩, 1, 2⟩], 0, [], lnv t 1 1, clv t 1 2⟩ = _ := hf
  rw [hf2]
  have a2 := asc_at (t := t) (A := [32] ++ L) (x := 59) (B := []) (by rw [ht]; simp) (by decide)
  rw [List.length_append, List.length_singleton] at a2
  obtain ⟨b1, b2, b3, b4⟩ := a2
  have hst : stepS ⟨.btw, [⟨3, s, 1, 2⟩], gk', tx', ln', cl'⟩ ((59 : UInt8).toNat : Int) = (⟨.btw, withText ([⟨3, s, 1, 2⟩] ++ [⟨4, ⟨#[]⟩, ln', cl'⟩]) (runesBytes [59]), gk', [59], ln', cl'⟩, 0) := rfl
  have s3 := W_on b1 b3 b2 hst
  rw [withText_snoc, b4] at s3
  refine ⟨⟨4, runesBytes [59], ln', cl'⟩, rfl, ?_⟩
  refine congrArg some (s3.trans ?_)
  rw [W_end (by omega)]
  rfl
theorem ScanBack : drayagelaw04_ScanBack.Pure := by
  intro a0 hz0
  refine ⟨1000, ?_⟩
  unfold drayagelaw04_ScanBack.f
  have hmn : mn (a0.size : Int) 400 = ((min a0.size 400 : Nat) : Int) := by unfold mn; split <;> omega
  rw [hmn, if_pos (by omega), if_pos (by omega), Int.toNat_natCast]
  obtain ⟨s, hs⟩ : ∃ s, a0.extract 0 (min a0.size 400) = s := ⟨_, rfl⟩
  have hsz : s.size ≤ 400 := by rw [← hs, ByteArray.size_extract]; omega
  rw [hs]
  have e1 : scan_Quote.f s = some (quoteF s) := by
    unfold scan_Quote.f
    rw [if_pos (by omega)]
  have e2 : utf8_ValidString.f s = some (Lib.validD s.data.toList) := by
    unfold utf8_ValidString.f
    rw [if_pos (by omega)]
  rw [e1, e2]
  simp only [Option.bind_some]
  -- the law's loop: is there a byte that can't stand?
  have fin : ∀ (K : Nat) (odd : Bool), 20 ≤ K → (odd = true ↔ (Lib.validD s.data.toList = false ∨ ∃ i, i < s.size ∧ ctl s i)) → drayagelaw04_ScanBack.l0 (K + 1) s (quoteF s).1 (quoteF s).2 odd (s.size : Int) = some true := by
    intro K odd hK ho
    obtain ⟨j, rfl⟩ : ∃ j, K = 20 + j := ⟨K - 20, by omega⟩
    simp only [drayagelaw04_ScanBack.l0]
    rw [if_neg (by omega)]
    cases odd with
    | true =>
      have hnone : quoteGo s (s.size + 1) 0 [34] = none := by
        cases hq : quoteGo s (s.size + 1) 0 [34] with
        | none => rfl
        | some l =>
          exfalso
          obtain ⟨h1, h2, _⟩ := quote_ok s _ _ _ _ hq
          rcases ho.1 rfl with h | ⟨i, hi, hc⟩
          · have := h1 s.data.toList.length
            rw [List.drop_zero] at this
            unfold Lib.validD at h
            rw [this] at h
            cases h
          · exact h2 i (Nat.zero_le _) hi hc
      have hqf : quoteF s = (⟨#[]⟩, 4) := by unfold quoteF; rw [hnone]
      rw [hqf, if_pos rfl]
      dsimp only
      rw [if_pos (show (⟨#[]⟩ : ByteArray).toList = [] by rw [Lib.toList_data])]
      try rw [if_pos trivial]
      try rw [if_pos rfl]
      rw [works_k j]
      rfl
    | false =>
      have hn : ¬ (Lib.validD s.data.toList = false ∨ ∃ i, i < s.size ∧ ctl s i) := fun h => by
        have := ho.2 h
        cases this
      have hv : Lib.validD s.data.toList = true := by
        rcases Bool.eq_false_or_eq_true (Lib.validD s.data.toList) with h | h
        · exact h
        · exact absurd (Or.inl h) hn
      obtain ⟨L, hL⟩ := quote_some s (s.size + 1) 0 [34] (by omega) ⟨s.data.toList.length, by simp, by rw [List.drop_zero]; exact hv⟩ (fun i _ h2 h3 => hn (Or.inr ⟨i, h2, h3⟩))
      have hqf : quoteF s = (⟨L.toArray⟩, 0) := by unfold quoteF; rw [hL]
      obtain ⟨_, _, _, hlen⟩ := quote_ok s _ _ _ _ hL
      simp only [List.length_singleton] at hlen
      have hqs : (⟨L.toArray⟩ : ByteArray).size = L.length := by
        show L.toArray.size = _
        simp
      obtain ⟨y, hy, hw⟩ := back_words s L hsz hL ⟨L.toArray⟩ (by simp)
      rw [hqf, if_neg (by simp)]
      dsimp only
      rw [if_pos (by omega), if_pos (by rw [ByteArray.size_append, hqs]; show 1 + L.length + 1 ≤ _; omega), hw]
      simp only [Option.bind_some]
      rw [if_pos trivial, if_pos trivial, if_pos (by simp), if_pos (by simp), if_pos (by simp [rd_T36]), if_pos (by simp), if_pos (by simpa [rd_T36] using hy), works_k j]
      rfl
  have loop : ∀ (d j K : Nat) (odd : Bool), j + d = s.size → d + 21 ≤ K → (odd = true ↔ (Lib.validD s.data.toList = false ∨ ∃ i, i < j ∧ ctl s i)) → drayagelaw04_ScanBack.l0 K s (quoteF s).1 (quoteF s).2 odd (j : Int) = some true := by
    intro d
    induction d with
    | zero =>
      intro j K odd hj hK ho
      obtain ⟨K, rfl⟩ : ∃ q, K = q + 1 := ⟨K - 1, by omega⟩
      obtain rfl : j = s.size := by omega
      exact fin K odd (by omega) ho
    | succ d ih =>
      intro j K odd hj hK ho
      obtain ⟨K, rfl⟩ : ∃ q, K = q + 1 := ⟨K - 1, by omega⟩
      simp only [drayagelaw04_ScanBack.l0]
      rw [if_pos (by omega), btn_ s j (by omega), wrap_id (by omega) (by omega), show (j : Int) + 1 = ((j + 1 : Nat) : Int) by omega]
      cases odd with
      | true =>
        rw [if_pos rfl]
        refine ih (j + 1) K true (by omega) (by omega) ⟨fun _ => ?_, fun _ => rfl⟩
        rcases ho.1 rfl with h | ⟨i, h1, h2⟩
        · exact Or.inl h
        · exact Or.inr ⟨i, by omega, h2⟩
      | false =>
        have hn : ¬ (Lib.validD s.data.toList = false ∨ ∃ i, i < j ∧ ctl s i) := fun h => by
          have := ho.2 h
          cases this
        rw [if_neg (by simp), if_pos (by omega)]
        have key : ∀ b : Bool, (b = true ↔ ctl s j) → (b = true ↔ (Lib.validD s.data.toList = false ∨ ∃ i, i < j + 1 ∧ ctl s i)) := by
          intro b hb
          constructor
          · intro h; exact Or.inr ⟨j, by omega, hb.1 h⟩
          · rintro (h | ⟨i, h1, h2⟩)
            · exact absurd (Or.inl h) hn
            · rcases Nat.lt_or_ge i j with h3 | h3
              · exact absurd (Or.inr ⟨i, h3, h2⟩) hn
              · obtain rfl : i = j := by omega
                exact hb.2 h2
        by_cases h32 : (((s.get! j).toNat : Nat) : Int) < 32
        · rw [if_pos h32]
          refine ih (j + 1) K _ (by omega) (by omega) (key _ ?_)
          unfold ctl
          rw [bne_iff_ne]
          omega
        · rw [if_neg h32]
          refine ih (j + 1) K false (by omega) (by omega) (key false ?_)
          unfold ctl
          constructor
          · intro h; cases h
          · intro h; omega
  refine loop s.size 0 1000 _ (by omega) (by omega) ?_
  cases Lib.validD s.data.toList with
  | true => simp
  | false => simp
end Go.Proofs.YtcpalnmodbbklaaDoor.Pure
