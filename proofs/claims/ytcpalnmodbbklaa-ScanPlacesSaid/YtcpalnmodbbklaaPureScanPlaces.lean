import Derived.Test.YtcpalnmodbbklaaPf3
import Derived.Test.YtcpalnmodbbklaaHplaces
namespace Go.Proofs.Ytcpalnmodbbklaa.Pure
set_option linter.unusedVariables false
set_option linter.unusedSimpArgs false
open Go.RowKit Go.Proofs.Ytcpalnmodbbklaa.P Go.Proofs.YtcpalnmodbbklaaW.PrintWords Go.Proofs.YtcpalnmodbbklaaW.PrintLast

theorem works_f : drayagelaw04_works.f 20 = some true := by kernel_rfl
theorem works_k (k : Nat) : drayagelaw04_works.f (20 + k) = some true := by
  induction k with
  | zero => exact works_f
  | succ k ih => exact drayagelaw04_works.mono (20 + k) true ih
def pcA : List ByteArray := [⟨#[97]⟩, ⟨#[112, 111, 100, 45, 49]⟩, ⟨#[122, 57]⟩, ⟨#[48]⟩, ⟨#[49, 46, 53, 71, 105]⟩, ⟨#[56, 53, 46, 53, 37]⟩, ⟨#[123]⟩, ⟨#[125]⟩, ⟨#[58]⟩, ⟨#[59]⟩, ⟨#[42]⟩, ⟨#[34, 34]⟩, ⟨#[34, 120, 32, 121, 34]⟩, ⟨#[34, 195, 169, 35, 92, 92, 34]⟩, ⟨#[34, 92, 110, 34]⟩]
def pcN : List Int := [1, 5, 2, 1, 5, 5, 1, 1, 1, 1, 1, 2, 5, 6, 4]
def seA : List ByteArray := [⟨#[32]⟩, ⟨#[9, 32, 32]⟩, ⟨#[10]⟩, ⟨#[32, 35, 32, 195, 169, 32, 34, 32, 123, 10, 10, 32]⟩]
structure Sp (t : ByteArray) (wd : List SW) (ln cl : Int) (j : Nat) : Prop where
  ex : ∃ rs gk tx, (∀ c ∈ rs, easy c = true) ∧ t.data.toList = encL rs ∧ runR sc0 rs = some ⟨.btw, wd, gk, tx, ln, cl⟩
  len : wd.length = j
  sz : t.size ≤ 30 * j
  l0 : 1 ≤ ln
  l1 : ln ≤ 1 + 2 * (j : Int)
  c0 : 1 ≤ cl
  c1 : cl ≤ 2 + 30 * (j : Int)
theorem pc_ok : ∀ k < 15, (pcA.getD k ByteArray.empty).data.toList = encL (pcR.getD k []) ∧ (pcR.getD k []).all easy = true ∧ (pcA.getD k ByteArray.empty).size ≤ 7 ∧ pcN.getD k 0 = ((pcR.getD k []).length : Int) ∧ (pcR.getD k []).length ≤ 6 ∧ pcT.getD k ⟨#[]⟩ = pcT.getD k ByteArray.empty := by decide +kernel
theorem se_ok : ∀ e < 4, (seA.getD e ByteArray.empty).data.toList = encL (seR.getD e []) ∧ (seR.getD e []).all easy = true ∧ (seA.getD e ByteArray.empty).size ≤ 12 := by decide +kernel
theorem Sp.next {t wd ln cl j} (h : Sp t wd ln cl j) (k e : Nat) (hk : k < 15) (he : e < 4) :
    Sp ((t ++ rdOf ByteArray.empty pcA (k : Int)) ++ seA.getD e ByteArray.empty) (wd ++ [⟨rd pcK (k : Int), rdOf ByteArray.empty pcT (k : Int), ln, cl⟩]) (behind k e ln cl).1 (behind k e ln cl).2 (j + 1) := by
  obtain ⟨p1, p2, p3, p4, p5, p6⟩ := pc_ok k hk
  obtain ⟨q1, q2, q3⟩ := se_ok e he
  obtain ⟨rs, gk, tx, h1, h2, h3⟩ := h.ex
  obtain ⟨gk', tx', hr⟩ := run_one wd gk tx ln cl k e hk he
  have hl0 := h.l0
  have hl1 := h.l1
  have hc0 := h.c0
  have hc1 := h.c1
  have hs := h.sz
  have ek : rdOf ByteArray.empty pcA (k : Int) = pcA.getD k ByteArray.empty := by simp [rdOf]
  refine ⟨⟨rs ++ (pcR.getD k [] ++ seR.getD e []), gk', tx', ?_, ?_, ?_⟩, by simp [h.len], ?_, ?_, ?_, ?_, ?_⟩
  · intro c hc
    rcases List.mem_append.1 hc with h | h
    · exact h1 c h
    · rcases List.mem_append.1 h with h | h
      · exact List.all_eq_true.1 p2 c h
      · exact List.all_eq_true.1 q2 c h
  · rw [ek]
    simp only [ByteArray.data_append, Array.toList_append, p1, q1, h2, encL, List.flatMap_append, List.append_assoc]
  · rw [runR_append, h3]
    simp only [Option.bind_some]
    rw [hr, p6]
    simp [rd, rdOf]
  · rw [ek]
    simp only [ByteArray.size_append]
    omega
  all_goals
    rcases e with _ | _ | _ | e <;> simp only [behind] <;> omega
theorem bring_f (a m : Int) (h0 : 0 < m) (h1 : m ≤ 4611686018427387904) : drayageref00_Bring.f a m = some (a % m) := by
  unfold drayageref00_Bring.f
  rw [if_neg (by omega)]
  have h2 : a.tmod m = a % m ∨ (a.tmod m = a % m - m ∧ a % m ≠ 0) := by
    rcases Int.le_total 0 a with h | h
    · exact .inl (Int.tmod_eq_emod_of_nonneg h)
    · have e : a.tmod m = -((-a) % m) := by
        have := Int.neg_tmod (-a) m
        rw [Int.neg_neg] at this
        rw [this, Int.tmod_eq_emod_of_nonneg (by omega)]
      have e2 := Int.emod_nonneg a (by omega : m ≠ 0)
      have e3 := Int.emod_lt_of_pos a h0
      have e4 := Int.emod_nonneg (-a) (by omega : m ≠ 0)
      have e5 := Int.emod_lt_of_pos (-a) h0
      have e6 : (a % m + (-a) % m) % m = 0 := by rw [← Int.add_emod]; simp [Int.add_right_neg]
      have e7 : a % m + (-a) % m = 0 ∨ a % m + (-a) % m = m := by
        rcases Int.lt_or_le (a % m + (-a) % m) m with h | h
        · left
          rw [Int.emod_eq_of_lt (by omega) h] at e6
          exact e6
        · right
          have := Int.emod_eq_of_lt (a := a % m + (-a) % m - m) (b := m) (by omega) (by omega)
          have e8 : (a % m + (-a) % m - m) % m = 0 := by rw [Int.sub_emod, e6]; simp
          omega
      omega
  have h3 := Int.emod_nonneg a (by omega : m ≠ 0)
  have h4 := Int.emod_lt_of_pos a h0
  rcases h2 with h2 | ⟨h2, h5⟩
  · rw [if_neg (by omega), h2]
  · rw [if_pos (by omega), h2, wrap_id (by omega) (by omega)]
    congr 1
    omega
theorem split60 (x : Int) : ∃ n k e : Nat, x % 60 = (n : Int) ∧ k < 15 ∧ e < 4 ∧ Int.tmod (n : Int) 15 = (k : Int) ∧ wrap64 (Int.tdiv (n : Int) 15) = (e : Int) := by
  obtain ⟨n, hn, hn2⟩ : ∃ n : Nat, x % 60 = (n : Int) ∧ n < 60 := ⟨(x % 60).toNat, by omega, by omega⟩
  refine ⟨n, n % 15, n / 15, hn, ?_, ?_, ?_, ?_⟩
  · clear hn; omega
  · clear hn; omega
  · rw [Int.tmod_eq_emod_of_nonneg (by clear hn; omega)]; clear hn; omega
  · rw [Int.tdiv_eq_ediv_of_nonneg (by clear hn; omega)]; clear hn; unfold wrap64; omega
theorem ew (x : Int) (a : 0 ≤ x) (b : x ≤ 100000) : wrap64 x = x := wrap_id (by omega) (by omega)
theorem lens : pcA.length = 15 ∧ pcT.length = 15 ∧ pcN.length = 15 ∧ pcK.length = 15 := by decide
theorem spelt_loop (l : List Int) (hl : l.length ≤ maxLen) : ∀ (d j K : Nat) (t : ByteArray) (wd : List SW) (ln cl : Int), d + j = min l.length 60 → 2 * d + 2 ≤ K → Sp t wd ln cl j →
    ∃ t' wd' ln' cl' j', drayagelaw04_spelt.l0 K l pcA pcT pcN pcK t wd ln cl (j : Int) = some (t', wd') ∧ Sp t' wd' ln' cl' j' ∧ j' ≤ 60 := by
  intro d
  induction d with
  | zero =>
    intro j K t wd ln cl hd hK h
    obtain ⟨K, rfl⟩ : ∃ q, K = q + 2 := ⟨K - 2, by omega⟩
    refine ⟨t, wd, ln, cl, j, ?_, h, by omega⟩
    simp only [drayagelaw04_spelt.l0]
    by_cases c : (j : Int) < (l.length : Int)
    · rw [if_pos c, decide_eq_false (by omega)]
      simp only [drayagelaw04_spelt.j1]
      rw [if_neg (by simp)]
    · rw [if_neg c]
      simp only [drayagelaw04_spelt.j1]
      rw [if_neg (by simp)]
  | succ d ih =>
    intro j K t wd ln cl hd hK h
    obtain ⟨K, rfl⟩ : ∃ q, K = q + 2 := ⟨K - 2, by omega⟩
    have hj : j < l.length := by omega
    have hj2 : j < 60 := by omega
    have hm : l.length ≤ 9223372036854775807 := Nat.le_trans hl (by decide)
    have hj3 : (j : Int) < (l.length : Int) := by omega
    have hj4 : (j : Int) < 60 := by omega
    have hj5 : (0 : Int) ≤ (j : Int) := by omega
    have hK' : 2 * d + 2 ≤ K := by omega
    have hd' : d + (j + 1) = min l.length 60 := by omega
    have hjs : 30 * j ≤ 1800 := by omega
    have hji : 30 * (j : Int) ≤ 1800 := by omega
    clear hd hK hm
    simp only [drayagelaw04_spelt.l0]
    rw [if_pos hj3, decide_eq_true hj4]
    simp only [drayagelaw04_spelt.j1]
    rw [if_pos trivial, if_pos hj5, if_pos hj3, bring_f _ _ (by decide) (by decide)]
    simp only [Option.bind_some]
    obtain ⟨n, k, e, hn, hk, he, e1, e2⟩ := split60 (rd l (j : Int))
    rw [hn, e1, e2]
    clear hn e1 e2
    have hnext := h.next k e hk he
    have ej : wrap64 ((j : Int) + 1) = ((j + 1 : Nat) : Int) := wrap_succ (n := 61) (by omega) (by decide)
    obtain ⟨p1, p2, p3, p4, p5, p6⟩ := pc_ok k hk
    have ek : (rdOf ByteArray.empty pcA (k : Int)).size ≤ 7 := by simp only [rdOf, Int.toNat_natCast]; exact p3
    have en : rd pcN (k : Int) = ((pcR.getD k []).length : Int) := by simp only [rd, Int.toNat_natCast]; exact p4
    have hs : t.size + (rdOf ByteArray.empty pcA (k : Int)).size ≤ 1807 := Nat.le_trans (Nat.add_le_add h.sz ek) (Nat.add_le_add_right hjs 7)
    have hs2 : (t ++ rdOf ByteArray.empty pcA (k : Int)).size ≤ 1807 := by rw [ByteArray.size_append]; exact hs
    have hsn : ∀ m, m ≤ 100 → (t ++ rdOf ByteArray.empty pcA (k : Int)).size + m ≤ 9223372036854775807 := fun m hm => Nat.le_trans (Nat.add_le_add hs2 hm) (by decide)
    have hl0 := h.l0
    have hl1 := h.l1
    have hc0 := h.c0
    have hc1 := h.c1
    have hw : wd.length < 3518437208883 := by rw [h.len]; exact Nat.lt_trans hj2 (by decide)
    have hb : ((pcR.getD k []).length : Int) ≤ 6 := Int.ofNat_le.2 p5
    have hb0 : (0 : Int) ≤ ((pcR.getD k []).length : Int) := Int.natCast_nonneg _
    have hk0 : (0 : Int) ≤ (k : Int) := Int.natCast_nonneg _
    have hk1 : (k : Int) < (pcA.length : Int) := by rw [lens.1]; exact Int.ofNat_lt.2 hk
    have hk2 : (k : Int) < (pcT.length : Int) := by rw [lens.2.1]; exact Int.ofNat_lt.2 hk
    have hk3 : (k : Int) < (pcN.length : Int) := by rw [lens.2.2.1]; exact Int.ofNat_lt.2 hk
    have hk4 : (k : Int) < (pcK.length : Int) := by rw [lens.2.2.2]; exact Int.ofNat_lt.2 hk
    rw [if_pos hk0, if_pos hk4, if_pos hk2, if_pos hw, if_pos hk1, if_pos (Nat.le_trans hs (by decide)), if_pos hk3, ej, en]
    clear p1 p2 p3 p4 p5 p6 ek en hs hs2 hk1 hk2 hk3 hk4 hk0 hw ej h hl
    have he4 : e = 0 ∨ e = 1 ∨ e = 2 ∨ e = 3 := by clear hnext ih hsn; omega
    have w1 : wrap64 (cl + ((pcR.getD k []).length : Int)) = cl + ((pcR.getD k []).length : Int) := ew _ (by clear hnext ih hsn; omega) (by clear hnext ih hsn; omega)
    have w2 : wrap64 (cl + ((pcR.getD k []).length : Int) + 1) = cl + ((pcR.getD k []).length : Int) + 1 := ew _ (by clear hnext ih hsn; omega) (by clear hnext ih hsn; omega)
    have w3 : wrap64 (cl + ((pcR.getD k []).length : Int) + 3) = cl + ((pcR.getD k []).length : Int) + 3 := ew _ (by clear hnext ih hsn; omega) (by clear hnext ih hsn; omega)
    have w4 : wrap64 (ln + 1) = ln + 1 := ew _ (by clear hnext ih hsn; omega) (by clear hnext ih hsn; omega)
    have w5 : wrap64 (ln + 2) = ln + 2 := ew _ (by clear hnext ih hsn; omega) (by clear hnext ih hsn; omega)
    rcases he4 with rfl | rfl | rfl | rfl
    · rw [if_pos (by decide), if_pos (hsn 1 (by decide)), w1, w2]
      exact ih _ _ _ _ _ _ hd' hK' hnext
    · rw [if_neg (by decide), if_pos (by decide), if_pos (hsn 3 (by decide)), w1, w3]
      exact ih _ _ _ _ _ _ hd' hK' hnext
    · rw [if_neg (by decide), if_neg (by decide), if_pos (by decide), if_pos (hsn 1 (by decide)), w4]
      exact ih _ _ _ _ _ _ hd' hK' hnext
    · rw [if_neg (by decide), if_neg (by decide), if_neg (by decide), if_pos (hsn 12 (by decide)), w5]
      exact ih _ _ _ _ _ _ hd' hK' hnext
theorem sp0 : Sp ⟨#[]⟩ [] 1 1 0 := ⟨⟨[], 0, [], by simp, rfl, rfl⟩, rfl, by decide, by decide, by decide, by decide, by decide⟩
theorem spelt_f (l : List Int) (hl : l.length ≤ maxLen) (K : Nat) (hK : 122 ≤ K) : ∃ t wd ln cl j, drayagelaw04_spelt.f K l = some (t, wd) ∧ Sp t wd ln cl j ∧ j ≤ 60 :=
  spelt_loop l hl (min l.length 60) 0 K ⟨#[]⟩ [] 1 1 (by omega) (by omega) sp0
theorem same_row (x : SW) : (!((x.f0 == x.f0)) || (!((x.f1.toList == x.f1.toList)) || (!((x.f2 == x.f2)) || (!((x.f3 == x.f3)))))) = false := by simp
theorem count_loop (l : List SW) (i : Nat) (hi : i < l.length) (hl : l.length ≤ 60) : ∀ (d m K : Nat), i + m + d = l.length → d < K →
    ∃ K', K ≤ K' + d + 1 ∧ drayagelaw04_ScanPlaces.l1 K l l (i : Int) (m : Int) ((i + m : Nat) : Int) = (scan_Line.f K' l (i : Int)).bind fun t => if t = ((m + runLn l[i].f2 (l.drop (i + m)) : Nat) : Int) then drayagelaw04_ScanPlaces.l0 K' l l (wrap64 ((i : Int) + 1)) else some false := by
  intro d
  induction d with
  | zero =>
    intro m K h hK
    obtain ⟨K, rfl⟩ : ∃ q, K = q + 1 := ⟨K - 1, by omega⟩
    refine ⟨K, by omega, ?_⟩
    simp only [drayagelaw04_ScanPlaces.l1]
    rw [if_neg (by omega), List.drop_of_length_le (by omega)]
    rfl
  | succ d ih =>
    intro m K h hK
    obtain ⟨K, rfl⟩ : ∃ q, K = q + 1 := ⟨K - 1, by omega⟩
    have hj : i + m < l.length := by omega
    simp only [drayagelaw04_ScanPlaces.l1]
    rw [if_pos (by omega), if_pos (by omega), if_pos (by omega), if_pos (by omega), rdW_at hi, rdW_at hj, List.drop_eq_getElem_cons hj]
    unfold runLn
    by_cases he : l[i + m].f2 = l[i].f2
    · rw [if_pos he, if_pos he, wrap_succ (n := 61) (by omega) (by omega), wrap_succ (n := 61) (by omega) (by omega)]
      obtain ⟨K', h1, h2⟩ := ih (m + 1) K (by omega) (by omega)
      refine ⟨K', by omega, ?_⟩
      rw [show i + (m + 1) = i + m + 1 by omega] at h2
      rw [show m + (runLn l[i].f2 (l.drop (i + m + 1)) + 1) = m + 1 + runLn l[i].f2 (l.drop (i + m + 1)) by omega]
      exact h2
    · rw [if_neg he, if_neg he]
      exact ⟨K, by omega, rfl⟩
theorem rows_loop (l : List SW) (hl : l.length ≤ 60) : ∀ (d i K : Nat), i + d = l.length → 70 * d + 70 ≤ K → drayagelaw04_ScanPlaces.l0 K l l (i : Int) = some true := by
  intro d
  induction d with
  | zero =>
    intro i K h hK
    obtain ⟨K, rfl⟩ : ∃ q, K = q + 1 := ⟨K - 1, by omega⟩
    simp only [drayagelaw04_ScanPlaces.l0]
    rw [if_neg (by omega), line_f l l.length K (by omega) (by omega)]
    unfold lineN
    rw [dif_neg (by omega)]
    rfl
  | succ d ih =>
    intro i K h hK
    obtain ⟨K, rfl⟩ : ∃ q, K = q + 1 := ⟨K - 1, by omega⟩
    have hi : i < l.length := by omega
    simp only [drayagelaw04_ScanPlaces.l0]
    rw [if_pos (by omega), if_pos (by omega), if_pos (by omega), if_neg (by rw [same_row]; simp)]
    obtain ⟨K', h1, h2⟩ := count_loop l i hi hl (d + 1) 0 K (by omega) (by omega)
    have h3 : drayagelaw04_ScanPlaces.l1 K l l (i : Int) 0 (i : Int) = _ := h2
    rw [h3, line_f l i K' (by omega) (by omega)]
    simp only [Option.bind_some]
    rw [if_pos (by unfold lineN; rw [dif_pos hi]; simp), wrap_succ (n := 61) (by omega) (by omega)]
    exact ih (i + 1) K' (by omega) (by omega)
theorem ScanPlaces : drayagelaw04_ScanPlaces.Pure := by
  intro l0 hl _ _
  refine ⟨20 + 9980, ?_⟩
  obtain ⟨t, wd, ln, cl, j, h1, h2, h3⟩ := spelt_f l0 hl (20 + 9980) (by omega)
  obtain ⟨rs, gk, tx, g1, g2, g3⟩ := h2.ex
  have hs := h2.sz
  have hw := h2.len
  have e : scan_Words.f t = some (wd, 0, 0, 0) := words_run t rs _ g1 g2 (by omega) g3 rfl
  unfold drayagelaw04_ScanPlaces.f
  rw [works_k]
  simp only [Option.bind_some]
  rw [if_pos trivial, h1]
  simp only [Option.bind_some]
  rw [e]
  simp only [Option.bind_some]
  rw [if_pos trivial, show ((wd.length : Int) != (wd.length : Int)) = false by simp]
  simp only [drayagelaw04_ScanPlaces.j0]
  rw [if_neg (by simp)]
  exact rows_loop wd (by omega) wd.length 0 _ (by omega) (by omega)
end Go.Proofs.Ytcpalnmodbbklaa.Pure
