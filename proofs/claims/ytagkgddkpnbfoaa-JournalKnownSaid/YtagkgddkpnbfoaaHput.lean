import Derived.Test.YtagkgddkpnbfoaaHplain
import Derived.Test.YtagkgddkpnbfoaaPf15
import Derived.Test.YtagkgddkpnbfoaaPf26
import Derived.Test.YtagkgddkpnbfoaaPf27
namespace Go.Proofs.Ytagkgddkpnbfoaa.P
set_option linter.unusedVariables false
set_option linter.unusedSimpArgs false
open Go.RowKit Go.Proofs.YtagkgddkpnbfoaaW.PrintWords Go.Proofs.YtagkgddkpnbfoaaW.PrintLast Go.Proofs.YtagkgddkpnbfoaaW.PrintMore

def two (n : Int) : List Int := [n / 256 % 256, n % 256]
def putL (l : List Int) : List Int := l.flatMap two
def isByte (x : Int) : Prop := 0 ≤ x ∧ x ≤ 255
def sumF : Nat → Int → List Int → Int
 | _, n, [] => n
 | i, n, c :: r => sumF (i + 1) ((n + ((i : Int) + 1) % 65521 * (c + 1)) % 65521) r
def sumL (b : List Int) : Int := sumF 0 0 b
def stepB (x : S49) : List Int := [x.f0 % 256, x.f1 % 256, x.f2 % 256]
def planB (pl : List Int) (st : List S49) : List Int := [(pl.length : Int) % 256] ++ pl.map (fun n => (n + 1) % 256) ++ [(st.length : Int) % 256] ++ st.flatMap stepB

theorem rd_at {l : List Int} {i : Nat} (h : i < l.length) : rd l i = l[i] := by simp [rd, List.getD_eq_getElem?_getD, List.getElem?_eq_getElem h]
theorem rd49_at {l : List S49} {i : Nat} (h : i < l.length) : rd_T49 l i = l[i] := by simp [rd_T49, List.getD_eq_getElem?_getD, List.getElem?_eq_getElem h]
theorem wrap_succ {i n : Nat} (h : i < n) (hn : n ≤ 140737488355328) : wrap64 ((i : Int) + 1) = ((i + 1 : Nat) : Int) := by unfold wrap64; omega
theorem wrap_id {x : Int} (h0 : -9223372036854775808 ≤ x) (h1 : x ≤ 9223372036854775807) : wrap64 x = x := by unfold wrap64; omega

theorem two_length (n : Int) : (two n).length = 2 := rfl
theorem putL_length (l : List Int) : (putL l).length = 2 * l.length := by
 unfold putL
 induction l with
 | nil => rfl
 | cons x r ih => simp [List.flatMap_cons, two_length, ih]; omega
theorem stepsB_length (l : List S49) : (l.flatMap stepB).length = 3 * l.length := by
 induction l with
 | nil => rfl
 | cons x r ih => simp [List.flatMap_cons, stepB, ih]; omega

theorem putL_drop {l : List Int} {i : Nat} (h : i < l.length) : putL (l.drop i) = two (rd l i) ++ putL (l.drop (i + 1)) := by
 rw [List.drop_eq_getElem_cons h, rd_at h]
 rfl
theorem stepsB_drop {l : List S49} {i : Nat} (h : i < l.length) : (l.drop i).flatMap stepB = stepB (rd_T49 l i) ++ (l.drop (i + 1)).flatMap stepB := by
 rw [List.drop_eq_getElem_cons h, rd49_at h]
 rfl
theorem put_loop (l : List Int) : ∀ (d k i : Nat) (acc : List Int), i + d = l.length → d < k → acc.length + 2 * d < 140737488355328 → l.length ≤ 140737488355328 →
  journal_put.l0 k acc l (l.length : Int) (i : Int) = some (acc ++ putL (l.drop i)) := by
 intro d
 induction d with
 | zero =>
  intro k i acc h hk hl hm
  obtain ⟨k, rfl⟩ : ∃ m, k = m + 1 := ⟨k - 1, by omega⟩
  simp only [journal_put.l0]
  rw [if_neg (by omega), List.drop_of_length_le (by omega)]
  simp [putL]
 | succ d ih =>
  intro k i acc h hk hl hm
  obtain ⟨k, rfl⟩ : ∃ m, k = m + 1 := ⟨k - 1, by omega⟩
  have hi : i < l.length := by omega
  simp only [journal_put.l0]
  rw [if_pos (by omega), if_pos (by omega), if_pos (by omega)]
  simp only [Option.bind_some]
  rw [if_pos (by simp; omega), wrap_succ hi hm, ih _ _ _ (by omega) (by omega) (by simp; omega) hm, putL_drop hi, List.append_assoc]
  rfl
theorem put_f (l0 l : List Int) (h : l0.length + 2 * l.length < 140737488355328) : journal_put.f (l.length + 1) l0 l = some (l0 ++ putL l) := by
 have := put_loop l l.length (l.length + 1) 0 l0 (by omega) (by omega) (by omega) (by omega)
 simpa [journal_put.f] using this

theorem sum_step {n c : Int} {i : Nat} (hn : 0 ≤ n ∧ n < 65521) (hc : isByte c) (hi : i < 140737488355328) :
  Int.tmod (wrap64 (n + (wrap64 ((Int.tmod (wrap64 ((i : Int) + 1)) 65521) * (wrap64 ((wrap64 c) + 1)))))) 65521 = (n + ((i : Int) + 1) % 65521 * (c + 1)) % 65521 := by
 obtain ⟨h0, h1⟩ := hc
 rw [wrap_id (x := (i : Int) + 1) (by omega) (by omega), wrap_id (x := c) (by omega) (by omega), wrap_id (x := c + 1) (by omega) (by omega)]
 rw [Int.tmod_eq_emod_of_nonneg (by omega : (0 : Int) ≤ (i : Int) + 1)]
 generalize hm : ((i : Int) + 1) % 65521 = m
 have m0 : 0 ≤ m := by omega
 have m1 : m < 65521 := by omega
 have p0 : 0 ≤ m * (c + 1) := Int.mul_nonneg m0 (by omega)
 have p1 : m * (c + 1) ≤ 65521 * 256 := Int.mul_le_mul (by omega) (by omega) (by omega) (by omega)
 rw [wrap_id (x := m * (c + 1)) (by omega) (by omega), wrap_id (by omega) (by omega), Int.tmod_eq_emod_of_nonneg (by omega)]
theorem sum_loop (l : List Int) (hb : ∀ x ∈ l, isByte x) (hm : l.length ≤ 140737488355328) : ∀ (d k i : Nat) (n : Int), i + d = l.length → d < k → (0 ≤ n ∧ n < 65521) →
  journal_Sum.l0 k n l (l.length : Int) (i : Int) = some (sumF i n (l.drop i)) := by
 intro d
 induction d with
 | zero =>
  intro k i n h hk hn
  obtain ⟨k, rfl⟩ : ∃ m, k = m + 1 := ⟨k - 1, by omega⟩
  simp only [journal_Sum.l0]
  rw [if_neg (by omega), List.drop_of_length_le (by omega)]
  rfl
 | succ d ih =>
  intro k i n h hk hn
  obtain ⟨k, rfl⟩ : ∃ m, k = m + 1 := ⟨k - 1, by omega⟩
  have hi : i < l.length := by omega
  simp only [journal_Sum.l0]
  rw [if_pos (by omega), if_pos (by omega), if_pos (by omega), wrap_succ hi hm]
  have hs := sum_step (i := i) hn (hb (rd l i) (by rw [rd_at hi]; exact List.getElem_mem hi)) (by omega)
  rw [wrap_succ hi hm] at hs
  rw [hs, ih _ _ _ (by omega) (by omega) (by omega), List.drop_eq_getElem_cons hi, rd_at hi]
  rfl
theorem sum_f (l : List Int) (hb : ∀ x ∈ l, isByte x) (hm : l.length ≤ 140737488355328) : journal_Sum.f (l.length + 1) l = some (sumL l) := by
 have := sum_loop l hb hm l.length (l.length + 1) 0 0 (by omega) (by omega) (by omega)
 simpa [journal_Sum.f, sumL] using this
theorem sumF_range : ∀ (l : List Int) (i : Nat) (n : Int), (0 ≤ n ∧ n < 65521) → 0 ≤ sumF i n l ∧ sumF i n l < 65521
 | [], _, _, h => h
 | c :: r, i, n, h => sumF_range r (i + 1) _ (by omega)
theorem sumL_range (l : List Int) : 0 ≤ sumL l ∧ sumL l < 65521 := sumF_range l 0 0 (by omega)

theorem planst_loop (l : List S49) : ∀ (d k i : Nat) (acc : List Int), i + d = l.length → d < k → acc.length + 3 * d < 140737488355328 → l.length ≤ 140737488355328 →
  journal_plan_bytes.l1 k acc l (l.length : Int) (i : Int) = some (acc ++ (l.drop i).flatMap stepB) := by
 intro d
 induction d with
 | zero =>
  intro k i acc h hk hl hm
  obtain ⟨k, rfl⟩ : ∃ m, k = m + 1 := ⟨k - 1, by omega⟩
  simp only [journal_plan_bytes.l1]
  rw [if_neg (by omega), List.drop_of_length_le (by omega)]
  simp
 | succ d ih =>
  intro k i acc h hk hl hm
  obtain ⟨k, rfl⟩ : ∃ m, k = m + 1 := ⟨k - 1, by omega⟩
  have hi : i < l.length := by omega
  simp only [journal_plan_bytes.l1]
  rw [if_pos (by omega), if_pos (by omega), if_pos (by omega)]
  simp only [Option.bind_some]
  rw [if_pos (by simp; omega), wrap_succ hi hm, ih _ _ _ (by omega) (by omega) (by simp; omega) hm, stepsB_drop hi, List.append_assoc]
  rfl
theorem planpl_loop (l : List Int) (st : List S49) (hv : ∀ x ∈ l, -1 ≤ x ∧ x ≤ 7) : ∀ (d k i : Nat) (acc : List Int), i + d = l.length → d + st.length + 1 < k → acc.length + d + 3 * st.length + 1 < 140737488355328 → l.length ≤ 140737488355328 →
  journal_plan_bytes.l0 k acc l (l.length : Int) (i : Int) l st = some (acc ++ (l.drop i).map (fun n => (n + 1) % 256) ++ [(st.length : Int) % 256] ++ st.flatMap stepB) := by
 intro d
 induction d with
 | zero =>
  intro k i acc h hk hl hm
  obtain ⟨k, rfl⟩ : ∃ m, k = m + 1 := ⟨k - 1, by omega⟩
  simp only [journal_plan_bytes.l0]
  rw [if_neg (by omega), List.drop_of_length_le (by omega), if_pos (by omega)]
  have := planst_loop st st.length k 0 (acc ++ [(st.length : Int) % 256]) (by omega) (by omega) (by simp; omega) (by omega)
  simpa using this
 | succ d ih =>
  intro k i acc h hk hl hm
  obtain ⟨k, rfl⟩ : ∃ m, k = m + 1 := ⟨k - 1, by omega⟩
  have hi : i < l.length := by omega
  have hx := hv _ (List.getElem_mem hi)
  simp only [journal_plan_bytes.l0]
  rw [if_pos (by omega), if_pos (by omega), if_pos (by omega), if_pos (by omega), wrap_succ hi hm, ih _ _ _ (by omega) (by omega) (by simp; omega) hm]
  rw [List.drop_eq_getElem_cons hi, rd_at hi, wrap_id (x := l[i] + 1) (by omega) (by omega)]
  simp only [List.map_cons, List.append_assoc, List.cons_append, List.nil_append]
theorem plan_f (l : List Int) (st : List S49) (h : okPlan l st = true) : journal_plan_bytes.f (l.length + st.length + 2) l st = some (planB l st) := by
 simp only [okPlan, Bool.and_eq_true, decide_eq_true_eq, List.all_eq_true, okNode] at h
 obtain ⟨⟨⟨h1, h2⟩, h3⟩, h4⟩ := h
 have := planpl_loop l st h3 l.length (l.length + st.length + 2) 0 [(l.length : Int) % 256] (by omega) (by omega) (by simp; omega) (by omega)
 simpa [journal_plan_bytes.f, planB] using this

theorem below_kept {w0 w w' : World} {P : Nat → Prop} (hb : Below w0.heap.size w0 w') (hk : Kept w w' P) (h : ∀ k, ¬ P k) (hB : Below w0.heap.size w0 w) : Below w.heap.size w w' :=
 ⟨hb.os.trans hB.os.symm, hb.tape.trans hB.tape.symm, hb.output.trans hB.output.symm, hk.1, fun i hi => hk.2 i hi (h i)⟩
theorem put_nil (A : Option Addr) (c : Nat) (l : List Int) (w0 w : World) (hB : Below w0.heap.size w0 w) (hr : Kd.C (Kd.int .i64) w A l.length l) (hc : l.length ≤ c) (hl : 2 * l.length < 140737488355328) :
  Calls Try.prog 27 #[.slice none 0 0, .slice A l.length c] w fun e w' => ∃ v0 : Value, e = .returned v0 ∧ Kd.R (Kd.int .u8) 5 w' w0.heap.size (fun k => w.heap.size ≤ k) v0 (putL l) ∧ Below w0.heap.size w0 w' ∧ Below w.heap.size w w' := by
 refine (journal_put.calls (l.length + 1) (fun _ => False) (.slice none 0 0) [] A c l _ w0 w hB (Kd.R_nil _ _ _ _ _) (Kd.C_foot_neS (fun h => h) hr (fun _ _ _ h => h)) hc (put_f [] l (by simpa using hl))).mono ?_
 rintro e w' ⟨v0, he, h1, h2, h3⟩
 exact ⟨v0, he, Kd.R_mono (by simpa using h1) (fun k hk => by simpa using hk), h2, below_kept h2 h3 (fun _ h => h) hB⟩
theorem put_own (B : Nat) (v : Value) (l0 : List Int) (A : Option Addr) (c : Nat) (l : List Int) (w0 w : World) (hB : Below w0.heap.size w0 w) (ho : Kd.R (Kd.int .u8) 5 w w0.heap.size (fun k => k < B) v l0)
  (hr : Kd.C (Kd.int .i64) w A l.length l) (hA : ∀ ad, A = some ad → B ≤ ad.block) (hc : l.length ≤ c) (hl : l0.length + 2 * l.length < 140737488355328) :
  Calls Try.prog 27 #[v, .slice A l.length c] w fun e w' => ∃ v0 : Value, e = .returned v0 ∧ Kd.R (Kd.int .u8) 5 w' w0.heap.size (fun _ => True) v0 (l0 ++ putL l) ∧ Below w0.heap.size w0 w' := by
 refine (journal_put.calls (l.length + 1) (fun k => k < B) v l0 A c l _ w0 w hB ho (Kd.C_foot_neS (fun h => h) hr (fun ad h _ => by have := hA ad h; omega)) hc (put_f l0 l hl)).mono ?_
 rintro e w' ⟨v0, he, h1, h2, h3⟩
 exact ⟨v0, he, Kd.R_mono h1 (fun k hk => trivial), h2⟩
end Go.Proofs.Ytagkgddkpnbfoaa.P
