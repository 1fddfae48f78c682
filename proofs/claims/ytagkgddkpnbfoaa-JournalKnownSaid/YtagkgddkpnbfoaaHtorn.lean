import Derived.Test.YtagkgddkpnbfoaaHback
import Derived.Test.YtagkgddkpnbfoaaHmade2
import Derived.Test.YtagkgddkpnbfoaaPf22
import Derived.Test.YtagkgddkpnbfoaaPf23
import Derived.Test.YtagkgddkpnbfoaaPf17
import Derived.Test.YtagkgddkpnbfoaaHsame
namespace Go.Proofs.Ytagkgddkpnbfoaa.P
set_option linter.unusedVariables false
set_option linter.unusedSimpArgs false
open Go.RowKit Go.Proofs.YtagkgddkpnbfoaaW.PrintWords Go.Proofs.YtagkgddkpnbfoaaW.PrintLast Go.Proofs.YtagkgddkpnbfoaaW.PrintMore

def mdX (r : S25) : S25 := ⟨mdK r.f0, mdN r.f0 r.f1, mdM r.f0 r.f2, mdP r.f0 r.f3, mdS r.f0 r.f4⟩
theorem mdX_ok (r : S25) : okX (mdX r) = true := by
 obtain ⟨k, n, m, pl, st⟩ := r
 unfold okX okRec mdX
 dsimp only
 have hk : 1 ≤ mdK k ∧ mdK k ≤ 6 := by unfold mdK; omega
 by_cases h1 : mdK k = 1
 ·rw [if_pos h1]
  have e1 : mdN k n = 0 := by unfold mdN; rw [if_pos h1]
  have e2 : mdM k m = 0 := by unfold mdM; rw [if_pos h1]
  have e3 : mdP k pl = (pl.take 24).map mdP1 := by unfold mdP; rw [if_pos h1]
  have e4 : mdS k st = (st.take 255).map mdS1 := by unfold mdS; rw [if_pos h1]
  rw [e1, e2, e3, e4]
  simp only [okPlan, Bool.and_eq_true, decide_eq_true_eq, List.all_eq_true, List.length_map, List.length_take, okNode, okStep]
  refine ⟨⟨trivial, trivial⟩, ⟨⟨by omega, by omega⟩, ?_⟩, ?_⟩
  ·intro x hx
   obtain ⟨y, _, rfl⟩ := List.mem_map.1 hx
   unfold mdP1
   omega
  ·intro x hx
   obtain ⟨y, _, rfl⟩ := List.mem_map.1 hx
   unfold mdS1
   dsimp only
   by_cases h2 : 1 + y.f0 % 2 = 2
   ·rw [if_pos h2]
    simp only [Bool.not_eq_true', Bool.and_eq_false_iff, decide_eq_false_iff_not, Bool.not_eq_false', decide_eq_true_eq]
    omega
   ·rw [if_neg h2]
    simp only [Bool.not_eq_true', Bool.and_eq_false_iff, decide_eq_false_iff_not, Bool.not_eq_false', decide_eq_true_eq]
    exact ⟨⟨⟨⟨by omega, by omega⟩, by omega, by omega⟩, by omega, by omega⟩, Or.inr trivial⟩
 ·rw [if_neg h1]
  have e3 : mdP k pl = [] := by unfold mdP; rw [if_neg h1]
  have e4 : mdS k st = [] := by unfold mdS; rw [if_neg h1]
  have e5 : mdM k m = m % 65536 := by unfold mdM; rw [if_neg h1]
  have e6 : 0 ≤ mdN k n ∧ mdN k n ≤ 65535 ∧ (mdK k = 6 → 1 ≤ mdN k n ∧ mdN k n ≤ 3) := by
   unfold mdN
   rw [if_neg h1]
   by_cases h6 : mdK k = 6
   ·rw [if_pos h6]; omega
   ·rw [if_neg h6]; omega
  rw [e3, e4, e5]
  generalize mdN k n = N at *
  generalize mdK k = K at *
  simp only [Bool.and_eq_true, decide_eq_true_eq, Bool.or_eq_true, Bool.not_eq_true', decide_eq_false_iff_not, List.length_nil]
  obtain ⟨q1, q2, q3⟩ := e6
  refine ⟨⟨⟨⟨⟨by omega, by omega⟩, trivial, trivial⟩, by omega, by omega⟩, by omega, by omega⟩, ?_⟩
  by_cases h6 : K = 6
  ·exact Or.inr (q3 h6)
  ·exact Or.inl h6

def ends (M : List S25) : List Int := (List.range M.length).map fun j => ((cat (M.take (j + 1))).length : Int)
theorem cat_append (A B : List S25) : cat (A ++ B) = cat A ++ cat B := by simp [cat]
theorem cat_one (r : S25) : cat [r] = recX r := by simp [cat]
theorem ends_snoc (M : List S25) (r : S25) : ends (M ++ [r]) = ends M ++ [((cat (M ++ [r])).length : Int)] := by
 unfold ends
 rw [List.length_append, List.length_singleton, List.range_succ, List.map_append]
 congr 1
 ·refine List.map_congr_left fun j hj => ?_
  have := List.mem_range.1 hj
  rw [List.take_append_of_le_length (by omega)]
 ·rw [List.map_singleton, List.take_of_length_le (by simp)]
theorem rd_ends (M : List S25) (j : Nat) (h : j < M.length) : rd (ends M) (j : Int) = ((cat (M.take (j + 1))).length : Int) := by
 have h2 : j < (ends M).length := by simp [ends]; exact h
 rw [rd_at h2]
 simp [ends]
theorem ends_length (M : List S25) : (ends M).length = M.length := by simp [ends]
theorem cat_small : ∀ (M : List S25), (∀ r ∈ M, okX r = true) → (cat M).length ≤ 798 * M.length
 | [], _ => by simp [cat]
 | r :: M, h => by
  have h1 := cat_small M (fun x hx => h x (List.mem_cons_of_mem _ hx))
  have h2 := lenX_small (h r (List.mem_cons_self ..))
  have e : cat (r :: M) = recX r ++ cat M := by simp [cat]
  rw [e, List.length_append, recX_length, List.length_cons]
  omega
theorem cat_byte (M : List S25) : ∀ x ∈ cat M, isByte x := by
 intro x hx
 obtain ⟨r, _, h⟩ := List.mem_flatMap.1 hx
 exact recX_byte r x h
theorem bytes_okX {r : S25} (h : okX r = true) : journal_Bytes.f r.f0 r.f1 r.f2 r.f3 r.f4 = some (recX r, 0) := by
 have h2 : okRec r.f0 r.f1 r.f2 r.f3 r.f4 = true := h
 unfold journal_Bytes.f
 rw [h2]
 rfl
theorem check_okX {r : S25} (h : okX r = true) : journal_Check.f r.f0 r.f1 r.f2 r.f3 r.f4 = some 0 := by
 have h2 : okRec r.f0 r.f1 r.f2 r.f3 r.f4 = true := h
 unfold journal_Check.f
 rw [h2]
 rfl
theorem rd25_at {l : List S25} {i : Nat} (h : i < l.length) : rd_T25 l (i : Int) = l[i] := by simp [rd_T25, List.getD_eq_getElem?_getD, List.getElem?_eq_getElem h]
def rowL (l : List S25) : List S25 := (l.take 12).map mdX
theorem rowL_ok (l : List S25) : ∀ r ∈ rowL l, okX r = true := by
 intro r hr
 obtain ⟨x, _, rfl⟩ := List.mem_map.1 hr
 exact mdX_ok x
theorem rowL_length (l : List S25) : (rowL l).length = min l.length 12 := by simp [rowL]; omega
theorem row_loop (l : List S25) : ∀ (d k i : Nat), i + d = min l.length 12 → 2 * d + 2 < k → drayagelaw20_row.l0 k l ((l.take i).map mdX) (cat ((l.take i).map mdX)) (ends ((l.take i).map mdX)) (i : Int) = some (rowL l, cat (rowL l), ends (rowL l), true) := by
 intro d
 induction d with
 | zero =>
  intro k i h hk
  obtain ⟨k, rfl⟩ : ∃ m, k = m + 1 + 1 := ⟨k - 2, by omega⟩
  have e : (l.take i).map mdX = rowL l := by
   unfold rowL
   congr 1
   by_cases h12 : l.length ≤ 12
   ·rw [List.take_of_length_le (by omega), List.take_of_length_le h12]
   ·congr 1; omega
  rw [e]
  simp only [drayagelaw20_row.l0]
  by_cases h1 : i < l.length
  ·rw [if_pos (by omega), decide_eq_false (by omega : ¬ (i : Int) < 12)]
   simp only [drayagelaw20_row.j1]
   rfl
  ·rw [if_neg (by omega)]
   simp only [drayagelaw20_row.j1]
   rfl
 | succ d ih =>
  intro k i h hk
  obtain ⟨k, rfl⟩ : ∃ m, k = m + 1 + 1 := ⟨k - 2, by omega⟩
  have hi : i < l.length := by omega
  simp only [drayagelaw20_row.l0]
  rw [if_pos (by omega), decide_eq_true (by omega : (i : Int) < 12)]
  simp only [drayagelaw20_row.j1]
  have hM : ∀ r ∈ (l.take i).map mdX, okX r = true := by
   intro r hr
   obtain ⟨x, _, rfl⟩ := List.mem_map.1 hr
   exact mdX_ok x
  have hml : ((l.take i).map mdX).length = i := by simp; omega
  have hcs := cat_small _ hM
  have hok := mdX_ok (rd_T25 l i)
  have hb := bytes_okX hok
  have hc := check_okX hok
  have hls := lenX_small hok
  have hmade : drayagelaw20_made.f (rd_T25 l i).f0 (rd_T25 l i).f1 (rd_T25 l i).f2 (rd_T25 l i).f3 (rd_T25 l i).f4 = some ((mdX (rd_T25 l i)).f0, (mdX (rd_T25 l i)).f1, (mdX (rd_T25 l i)).f2, (mdX (rd_T25 l i)).f3, (mdX (rd_T25 l i)).f4) := rfl
  rw [if_pos trivial, if_pos (by omega), if_pos (by omega), hmade]
  simp only [Option.bind_some]
  rw [hb]
  simp only [Option.bind_some]
  rw [if_pos trivial, hc]
  simp only [Option.bind_some]
  rw [if_pos trivial, recX_length, if_neg (by omega), if_pos (by omega), if_pos (by omega), ends_length, if_pos (by omega), wrap_succ (n := 12) (by omega) (by omega)]
  have e1 : (l.take i).map mdX ++ [mdX (rd_T25 l i)] = (l.take (i + 1)).map mdX := by
   rw [rd25_at hi, List.take_succ_eq_append_getElem hi, List.map_append]
   rfl
  have e2 : cat ((l.take i).map mdX) ++ recX (mdX (rd_T25 l i)) = cat ((l.take (i + 1)).map mdX) := by rw [← e1, cat_append, cat_one]
  have e3 : ends ((l.take i).map mdX) ++ [((cat ((l.take (i + 1)).map mdX)).length : Int)] = ends ((l.take (i + 1)).map mdX) := by rw [← e1, ends_snoc]
  have e4 : (⟨(mdX (rd_T25 l i)).f0, (mdX (rd_T25 l i)).f1, (mdX (rd_T25 l i)).f2, (mdX (rd_T25 l i)).f3, (mdX (rd_T25 l i)).f4⟩ : S25) = mdX (rd_T25 l i) := rfl
  rw [e4, e1, e2, e3]
  exact ih k (i + 1) (by omega) (by omega)
theorem row_f (l : List S25) (k : Nat) (hk : 30 < k) : drayagelaw20_row.f k l = some (rowL l, cat (rowL l), ends (rowL l), true) := by
 unfold drayagelaw20_row.f
 have := row_loop l (min l.length 12) k 0 (by omega) (by omega)
 simpa [cat, ends] using this

theorem lsame_loop (a n m : Int) (pl : List Int) (st : List S49) (hl : st.length ≤ 140737488355328) : ∀ (d k i : Nat), i + d = st.length → d < k → drayagelaw20_same.l0 k (i : Int) a n m pl st a n m pl st = some true := by
 intro d
 induction d with
 | zero =>
  intro k i h hk
  obtain ⟨k, rfl⟩ : ∃ m, k = m + 1 := ⟨k - 1, by omega⟩
  simp only [drayagelaw20_same.l0]
  rw [if_neg (by omega)]
 | succ d ih =>
  intro k i h hk
  obtain ⟨k, rfl⟩ : ∃ m, k = m + 1 := ⟨k - 1, by omega⟩
  simp only [drayagelaw20_same.l0]
  rw [if_pos (by omega), if_pos (by omega), if_pos (by omega), if_neg (by simp), wrap_succ (n := st.length) (by omega) hl]
  exact ih k (i + 1) (by omega) (by omega)
theorem lsame_f (x : S25) (k : Nat) (h3 : x.f3.length + 2 ≤ k) (h4 : x.f4.length + 2 ≤ k) (h5 : k ≤ 140737488355328) : drayagelaw20_same.f k x.f0 x.f1 x.f2 x.f3 x.f4 x.f0 x.f1 x.f2 x.f3 x.f4 = some true := by
 obtain ⟨k, rfl⟩ : ∃ m, k = m + 1 := ⟨k - 1, by omega⟩
 unfold drayagelaw20_same.f
 rw [if_pos rfl, if_pos rfl, if_pos rfl, eqInts_f _ (by omega) _ (by omega)]
 simp only [Option.bind_some, drayagelaw20_same.j0]
 rw [if_pos trivial, bne_self_eq_false]
 exact lsame_loop _ _ _ _ _ (by omega) x.f4.length k 0 (by omega) (by omega)
theorem okX_lists {r : S25} (h : okX r = true) : r.f3.length ≤ 24 ∧ r.f4.length ≤ 255 := by
 unfold okX okRec okPlan at h
 split at h <;> simp only [Bool.and_eq_true, decide_eq_true_eq] at h <;> omega
theorem tells_loop (M : List S25) (hM : ∀ r ∈ M, okX r = true) (q : Nat) (hq : q ≤ M.length) (hm : M.length ≤ 100) : ∀ (d k i : Nat), i + d = q → d + 300 < k → k ≤ 140737488355328 → drayagelaw20_tells.l0 k M (q : Int) (M.take q) (i : Int) = some true := by
 intro d
 induction d with
 | zero =>
  intro k i h hk _
  obtain ⟨k, rfl⟩ : ∃ m, k = m + 1 := ⟨k - 1, by omega⟩
  simp only [drayagelaw20_tells.l0]
  rw [if_neg (by omega)]
 | succ d ih =>
  intro k i h hk hk2
  obtain ⟨k, rfl⟩ : ∃ m, k = m + 1 := ⟨k - 1, by omega⟩
  have hi : i < M.length := by omega
  have hi2 : i < (M.take q).length := by rw [List.length_take]; omega
  have e : rd_T25 (M.take q) (i : Int) = rd_T25 M (i : Int) := by rw [rd25_at hi, rd25_at hi2]; simp
  have hx := okX_lists (hM (rd_T25 M (i : Int)) (by rw [rd25_at hi]; exact List.getElem_mem hi))
  simp only [drayagelaw20_tells.l0]
  rw [if_pos (by omega), if_pos (by omega), if_pos (by omega), if_pos (by omega), e, lsame_f _ _ (by omega) (by omega) (by omega)]
  simp only [Option.bind_some]
  rw [if_pos trivial, wrap_succ (n := 100) (by omega) (by omega)]
  exact ih k (i + 1) (by omega) (by omega) (by omega)
theorem tells_f (M : List S25) (hM : ∀ r ∈ M, okX r = true) (hm : M.length ≤ 100) (q : Nat) (hq : q ≤ M.length) (b : List Int) (hb : bytesOk b = true) (hr : readAll b = (M.take q, (cat (M.take q)).length)) (k : Nat) (hk : 500 < k) (hk2 : k ≤ 140737488355328) :
  drayagelaw20_tells.f k b M (ends M) (q : Int) = some true := by
 obtain ⟨k, rfl⟩ : ∃ m, k = m + 1 + 1 := ⟨k - 2, by omega⟩
 have hj : ∀ x11 : Int, x11 = ((cat (M.take q)).length : Int) → drayagelaw20_tells.j0 (k + 1 + 1) M (q : Int) (M.take q) ((cat (M.take q)).length : Int) x11 = some true := by
  intro x11 hx
  simp only [drayagelaw20_tells.j0]
  rw [if_pos (by rw [List.length_take]; omega), hx, bne_self_eq_false]
  simp only [drayagelaw20_tells.j1]
  exact tells_loop M hM q hq hm q k 0 (by omega) (by omega) (by omega)
 unfold drayagelaw20_tells.f journal_Read.f
 rw [hb, if_pos rfl]
 simp only [Option.bind_some]
 rw [hr]
 dsimp only
 by_cases h0 : 0 < q
 ·have e : wrap64 ((q : Int) - 1) = ((q - 1 : Nat) : Int) := by rw [wrap_id (by omega) (by omega)]; omega
  rw [if_pos (by omega), e, if_pos (by omega), if_pos (by rw [ends_length]; omega), rd_ends M (q - 1) (by omega)]
  exact hj _ (by rw [show q - 1 + 1 = q by omega])
 ·obtain rfl : q = 0 := by omega
  rw [if_neg (by omega)]
  exact hj 0 (by simp [cat])
theorem bytesOk_of {b : List Int} (hb : ∀ x ∈ b, isByte x) (hl : b.length ≤ 1000000) : bytesOk b = true := by
 simp only [bytesOk, Bool.and_eq_true, List.all_eq_true, decide_eq_true_eq]
 exact ⟨fun x hx => hb x hx, by omega⟩
theorem cat_split (M : List S25) (q : Nat) (hq : q < M.length) : cat M = cat (M.take q) ++ (recX M[q] ++ cat (M.drop (q + 1))) := by
 have e : M = M.take q ++ (M[q] :: M.drop (q + 1)) := by rw [← List.drop_eq_getElem_cons hq, List.take_append_drop]
 have e2 : cat (M[q] :: M.drop (q + 1)) = recX M[q] ++ cat (M.drop (q + 1)) := List.flatMap_cons ..
 rw [← e2, ← cat_append, ← e]
theorem cat_succ (M : List S25) (q : Nat) (hq : q < M.length) : (cat (M.take (q + 1))).length = (cat (M.take q)).length + lenX M[q] := by
 rw [List.take_succ_eq_append_getElem hq, cat_append, cat_one, List.length_append, recX_length]
theorem read_torn (M : List S25) (hM : ∀ r ∈ M, okX r = true) (n q : Nat) (hq : q ≤ M.length) (h1 : (cat (M.take q)).length ≤ n) (h2 : n ≤ (cat M).length) (h3 : q < M.length → n < (cat (M.take (q + 1))).length) :
  readAll ((cat M).take n) = (M.take q, (cat (M.take q)).length) := by
 have hMq : ∀ r ∈ M.take q, okX r = true := fun r hr => hM r (List.mem_of_mem_take hr)
 by_cases hlt : q < M.length
 ·have h4 := h3 hlt
  rw [cat_succ M q hlt] at h4
  have e : (cat M).take n = cat (M.take q) ++ (recX M[q]).take (n - (cat (M.take q)).length) := by
   rw [cat_split M q hlt, List.take_append, List.take_of_length_le h1]
   congr 1
   rw [List.take_append_of_le_length (by rw [recX_length]; omega)]
  rw [e]
  exact readAll_cat _ _ hMq (first_torn (hM _ (List.getElem_mem hlt)) _ (by omega))
 ·have eq : q = M.length := by omega
  subst eq
  rw [List.take_length] at h1 ⊢
  have e : (cat M).take n = cat M ++ [] := by rw [List.take_of_length_le (by omega), List.append_nil]
  rw [e]
  exact readAll_cat _ _ hM firstOk_nil
end Go.Proofs.Ytagkgddkpnbfoaa.P
