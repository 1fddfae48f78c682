import Derived.Test.YtceepgleeelohaaDoorHv19
import Derived.Test.YtceepgleeelohaaDoorHq6
import Derived.Test.YtceepgleeelohaaDoorPureVecPrints
/- VecBack: what was printed is parsed as it was. -/
namespace Go.Proofs.YtceepgleeelohaaDoor.P
set_option linter.unusedVariables false
set_option linter.unusedSimpArgs false
open Go.RowKit Go.Proofs.YtceepgleeelohaaDoorW.PrintWords Go.Proofs.YtceepgleeelohaaDoorW.PrintLast Go.Proofs.YtceepgleeelohaaDoorW.PrintMore
def bs (b : ByteArray) : List UInt8 := b.data.toList
theorem bs_ext {a b : ByteArray} (h : bs a = bs b) : a = b := by
  cases a; cases b
  congr 1
  exact Array.toList_inj.1 h
theorem bs_app (a b : ByteArray) : bs (a ++ b) = bs a ++ bs b := by
  unfold bs
  rw [ByteArray.data_append, Array.toList_append]
theorem bs_len (a : ByteArray) : (bs a).length = a.size := rfl
theorem bs_drop (t : ByteArray) (p : Nat) : bs (t.extract p t.size) = (bs t).drop p := by
  have h : bs (t.extract p t.size) = ((bs t).drop p).take (t.size - p) := by
    unfold bs
    rw [ByteArray.data_extract, Array.toList_extract]
  rw [h]
  exact List.take_of_length_le (by rw [List.length_drop, bs_len]; omega)
theorem bs_take (t : ByteArray) (p : Nat) : bs (t.extract 0 p) = (bs t).take p := by
  unfold bs
  rw [ByteArray.data_extract, Array.toList_extract]
  show (t.data.toList.drop 0).take (p - 0) = _
  rw [List.drop_zero, Nat.sub_zero]
/-- no comma -/
def Plain (l : List UInt8) : Prop := ∀ x ∈ l, x ≠ 44
theorem dgs_plain : ∀ k u, Plain (dgs k u)
  | 0, u => fun x h => by cases h
  | k + 1, u => by
    intro x hx
    unfold dgs at hx
    split at hx
    · rw [List.mem_singleton.1 hx]
      intro h
      have := congrArg UInt8.toNat h
      rw [dg_toNat u (by assumption)] at this
      simp at this
      omega
    · rcases List.mem_append.1 hx with hx | hx
      · exact dgs_plain k (u / 10) x hx
      · rw [List.mem_singleton.1 hx]
        intro h
        have := congrArg UInt8.toNat h
        rw [dg_toNat (u % 10) (by omega)] at this
        simp at this
        omega
theorem itoa_plain (n : Int) (h : 0 ≤ n) : Plain (bs (itoaK n)) := by
  rw [itoa_mk n h]
  exact dgs_plain 20 _
theorem plain_app {a b : List UInt8} (ha : Plain a) (hb : Plain b) : Plain (a ++ b) := fun x h => (List.mem_append.1 h).elim (ha x) (hb x)
theorem print_plain (x : Int) (m : Bool) (h0 : 0 ≤ x) : Plain (bs (printS x m).1) := by
  have hd : ∀ d : Int, 0 ≤ d → 0 ≤ Int.tdiv x d := fun d hd => Int.tdiv_nonneg h0 hd
  unfold printS
  split
  · intro y hy; cases hy
  split
  · show Plain (bs (printM x))
    unfold printM
    split
    · exact itoa_plain _ (hd 1000 (by decide))
    · rw [bs_app]
      exact plain_app (itoa_plain _ h0) (by intro y hy; rw [List.mem_singleton.1 hy]; decide)
  · show Plain (bs (printG x))
    unfold printG
    split
    · rw [bs_app]
      exact plain_app (itoa_plain _ (hd _ (by decide))) (by intro y hy; rcases List.mem_cons.1 hy with h | h; · rw [h]; decide
                                                            · rw [List.mem_singleton.1 h]; decide)
    split
    · rw [bs_app]
      exact plain_app (itoa_plain _ (hd _ (by decide))) (by intro y hy; rcases List.mem_cons.1 hy with h | h; · rw [h]; decide
                                                            · rw [List.mem_singleton.1 h]; decide)
    split
    · rw [bs_app]
      exact plain_app (itoa_plain _ (hd _ (by decide))) (by intro y hy; rcases List.mem_cons.1 hy with h | h; · rw [h]; decide
                                                            · rw [List.mem_singleton.1 h]; decide)
    · exact itoa_plain _ h0
theorem idx_none : ∀ l : List UInt8, Plain l → Lib.indexByte l 44 = -1
  | [], _ => rfl
  | b :: l, h => by
    have ih := idx_none l (fun x hx => h x (.tail _ hx))
    have hb : (b == 44) = false := beq_eq_false_iff_ne.2 (h b (.head _))
    unfold Lib.indexByte
    rw [hb, ih]
    rfl
theorem idx_at : ∀ (l r : List UInt8), Plain l → Lib.indexByte (l ++ 44 :: r) 44 = (l.length : Int)
  | [], r, _ => rfl
  | b :: l, r, h => by
    have ih := idx_at l r (fun x hx => h x (.tail _ hx))
    have hb : (b == 44) = false := beq_eq_false_iff_ne.2 (h b (.head _))
    rw [List.cons_append]
    unfold Lib.indexByte
    have hne : ((l.length : Int) == -1) = false := by rw [beq_eq_false_iff_ne]; omega
    rw [hb, ih, if_neg (by decide), hne, if_neg (by decide), List.length_cons]
    omega
theorem cut_none {x : ByteArray} (h : Plain (bs x)) : cutA x = x ∧ cutM x = false := by
  have hi : cutI x = -1 := idx_none _ h
  unfold cutA cutM
  rw [hi]
  exact ⟨if_neg (by decide), rfl⟩
theorem cut_at {x s : ByteArray} {r : List UInt8} (hx : bs x = bs s ++ 44 :: r) (h : Plain (bs s)) : cutA x = s ∧ cutM x = true := by
  have hi : cutI x = (s.size : Int) := by
    unfold cutI
    show Lib.indexByte (bs x) 44 = _
    rw [hx, idx_at _ _ h]
    rfl
  unfold cutA cutM
  rw [hi]
  refine ⟨?_, decide_eq_true (by omega)⟩
  rw [if_pos (by omega), Int.toNat_natCast]
  apply bs_ext
  rw [bs_take, hx, ← bs_len, List.take_left]
theorem pre_self (k : Nat) (r : List UInt8) : Lib.hasPrefix (bs (nmB k) ++ r) (bs (nmB k)) = true := by
  unfold Lib.hasPrefix
  exact List.isPrefixOf_iff_prefix.2 (List.prefix_append _ _)
theorem trim_self (k : Nat) (r : List UInt8) : Lib.trimPrefix (bs (nmB k) ++ r) (bs (nmB k)) = r := by
  unfold Lib.trimPrefix
  have h := pre_self k r
  simp [h]
theorem pre_other (k j : Nat) (hk : k < 5) (hj : j < 5) (hne : j ≠ k) (r : List UInt8) : Lib.hasPrefix (bs (nmB k) ++ r) (bs (nmB j)) = false := by
  have k5 : k = 0 ∨ k = 1 ∨ k = 2 ∨ k = 3 ∨ k = 4 := by omega
  have j5 : j = 0 ∨ j = 1 ∨ j = 2 ∨ j = 3 ∨ j = 4 := by omega
  rcases k5 with rfl | rfl | rfl | rfl | rfl <;> rcases j5 with rfl | rfl | rfl | rfl | rfl <;> first | (exact absurd rfl hne) | rfl
theorem named_back (rest : ByteArray) (k : Nat) (hk : k < 5) (r : List UInt8) (h : bs rest = bs (nmB k) ++ 61 :: r) : ∀ (n j : Nat) (c : Bool), j + n = 5 → j ≤ k → namedF rest n j c = ((k : Int), false)
  | 0, j, c, h1, h2 => by omega
  | n + 1, j, c, h1, h2 => by
    unfold namedF
    by_cases hj : j = k
    · subst hj
      have hi : isAt rest (nmB j) = true := by
        unfold isAt
        have e1 : Lib.hasPrefix rest.data.toList (nmB j).data.toList = true := by
          show Lib.hasPrefix (bs rest) (bs (nmB j)) = true
          rw [h]; exact pre_self j _
        have e2 : Lib.trimPrefix rest.data.toList (nmB j).data.toList = 61 :: r := by
          show Lib.trimPrefix (bs rest) (bs (nmB j)) = _
          rw [h]; exact trim_self j _
        rw [e1, e2]
        rfl
      rw [if_pos hi]
    · have hi : isAt rest (nmB j) = false := by
        unfold isAt
        have e1 : Lib.hasPrefix rest.data.toList (nmB j).data.toList = false := by
          show Lib.hasPrefix (bs rest) (bs (nmB j)) = false
          rw [h]; exact pre_other k j hk (by omega) hj _
        rw [e1]
        rfl
      rw [if_neg (by rw [hi]; decide)]
      exact named_back rest k hk r h n (j + 1) _ (by omega) (by omega)
/-- the places that are printed -/
def joinP : List (Nat × Int) → List UInt8
  | [] => []
  | [p] => bs (partB p.1 p.2)
  | p :: q :: r => bs (partB p.1 p.2) ++ 44 :: joinP (q :: r)
def setAll (v : V) (ps : List (Nat × Int)) : V := ps.foldl (fun v p => v.set p.1 p.2) v
inductive Asc5 : Nat → List (Nat × Int) → Prop
  | nil (f : Nat) : Asc5 f []
  | cons {f k : Nat} {x : Int} {r : List (Nat × Int)} (h0 : f ≤ k) (h1 : k < 5) (h2 : 0 < x) (h3 : x ≤ 1099511627776) (hr : Asc5 (k + 1) r) : Asc5 f ((k, x) :: r)
theorem part_bs (k : Nat) (x : Int) : bs (partB k x) = bs (nmB k) ++ 61 :: bs (printS x (decide (k = 0))).1 := by
  unfold partB
  rw [bs_app, bs_app, List.append_assoc]
  rfl
theorem parse_all : ∀ (ps : List (Nat × Int)) (t : ByteArray) (n at_ f : Nat) (v : V), ps ≠ [] → Asc5 f ps → at_ ≤ t.size → (bs t).drop at_ = joinP ps → 6 ≤ n + f → parseF t n at_ f v = (setAll v ps, 0, 0)
  | [], _, _, _, _, _, h, _, _, _, _ => absurd rfl h
  | (k, x) :: r, t, n, at_, f, v, _, ha, hat, hd, hn => by
    cases ha with
    | cons h0 h1 h2 h3 hr =>
    obtain ⟨m, rfl⟩ : ∃ m, n = m + 1 := ⟨n - 1, by omega⟩
    have hpb := print_back x (decide (k = 0)) (by omega) h3
    have hpl := print_plain x (decide (k = 0)) (by omega)
    obtain ⟨s, hs⟩ : ∃ s, (printS x (decide (k = 0))).1 = s := ⟨_, rfl⟩
    have hpt := part_bs k x
    rw [hs] at hpb hpl hpt
    -- what stands behind the name
    obtain ⟨tl, htl, hmore⟩ : ∃ tl, joinP ((k, x) :: r) = bs (nmB k) ++ 61 :: (bs s ++ tl) ∧ ((r = [] ∧ tl = []) ∨ (r ≠ [] ∧ tl = 44 :: joinP r)) := by
      cases r with
      | nil => exact ⟨[], by show bs (partB k x) = _; rw [hpt, List.append_nil], .inl ⟨rfl, rfl⟩⟩
      | cons q r' => exact ⟨44 :: joinP (q :: r'), by show bs (partB k x) ++ 44 :: joinP (q :: r') = _; rw [hpt]; simp, .inr ⟨by simp, rfl⟩⟩
    rw [htl] at hd
    obtain ⟨rest, hrest⟩ : ∃ y, t.extract at_ t.size = y := ⟨_, rfl⟩
    have hrb : bs rest = bs (nmB k) ++ 61 :: (bs s ++ tl) := by rw [← hrest, bs_drop, hd]
    have hnm : namedS rest f = ((k : Int), false) := named_back rest k h1 _ hrb (5 - f) f false (by omega) h0
    have hlen : (bs t).length = at_ + ((nmB k).size + 1 + (s.size + tl.length)) := by
      have h4 := congrArg List.length hd
      rw [List.length_drop, List.length_append, List.length_cons, List.length_append, bs_len, bs_len, bs_len] at h4
      rw [bs_len]
      omega
    rw [bs_len] at hlen
    unfold parseF
    rw [hrest, hnm]
    dsimp only
    rw [if_neg (show ¬ ((k : Int) < 0) by omega), Int.toNat_natCast]
    (try dsimp only)
    rw [if_neg (show ¬ (at_ + (nmB k).size = t.size) by omega)]
    have hxb : bs (t.extract (at_ + (nmB k).size + 1) t.size) = bs s ++ tl := by
      rw [bs_drop, show at_ + (nmB k).size + 1 = at_ + ((nmB k).size + 1) by omega, ← List.drop_drop, hd, ← bs_len (nmB k), ← List.drop_drop, List.drop_left]
      rfl
    obtain ⟨xx, hxx⟩ : ∃ y, t.extract (at_ + (nmB k).size + 1) t.size = y := ⟨_, rfl⟩
    rw [hxx] at hxb ⊢
    rcases hmore with ⟨hr0, ht0⟩ | ⟨hr0, ht0⟩
    · rw [ht0, List.append_nil] at hxb
      have hxs : xx = s := bs_ext hxb
      rw [hxs, (cut_none hpl).1, (cut_none hpl).2, hpb.2.2]
      dsimp only
      rw [if_neg (by decide), if_neg (by decide), if_neg (by omega), if_neg (by decide), hr0]
      rfl
    · rw [ht0] at hxb
      rw [(cut_at hxb hpl).1, (cut_at hxb hpl).2, hpb.2.2]
      dsimp only
      rw [if_neg (by decide), if_neg (by decide), if_neg (by omega), if_pos rfl]
      have htll : tl.length = 1 + (joinP r).length := by rw [ht0, List.length_cons]; omega
      rw [parse_all r t m (at_ + (nmB k).size + 1 + s.size + 1) (k + 1) (v.set k x) hr0 hr (by omega) ?_ (by omega)]
      · rfl
      · rw [show at_ + (nmB k).size + 1 + s.size + 1 = at_ + ((nmB k).size + (1 + (s.size + 1))) by omega, ← List.drop_drop, hd, ← bs_len (nmB k), ← List.drop_drop, List.drop_left, ht0, ← List.drop_drop]
        show (bs s ++ 44 :: joinP r).drop (s.size + 1) = _
        rw [← bs_len s, ← List.drop_drop, List.drop_left]
        rfl
def V.prs (v : V) : List (Nat × Int) := [(0, v.a), (1, v.b), (2, v.c), (3, v.d), (4, v.e)].filter fun p => decide (0 < p.2)
theorem join_ps : ∀ ps : List (Nat × Int), Lib.join ((ps.map fun p => partB p.1 p.2).map (·.data.toList)) [44] = joinP ps
  | [] => rfl
  | [p] => by
    rw [List.map_cons, List.map_nil, List.map_cons, List.map_nil, Lib.join_one]
    rfl
  | p :: q :: r => by
    have ih := join_ps (q :: r)
    simp only [List.map_cons] at ih ⊢
    rw [Lib.join_cons] at ih ⊢
    show (partB p.1 p.2).data.toList ++ Lib.joinTail [44] _ = bs (partB p.1 p.2) ++ 44 :: joinP (q :: r)
    rw [← ih]
    unfold Lib.joinTail
    simp [bs]
theorem parts_prs (v : V) : v.parts 5 = (V.prs v).map fun p => partB p.1 p.2 := by
  obtain ⟨a, b, c, d, e⟩ := v
  unfold V.prs
  by_cases h0 : 0 < a <;> by_cases h1 : 0 < b <;> by_cases h2 : 0 < c <;> by_cases h3 : 0 < d <;> by_cases h4 : 0 < e <;> simp [V.parts, V.get, h0, h1, h2, h3, h4]
structure V.good (v : V) : Prop where mk :: (out : (0 ≤ v.a ∧ v.a ≤ 1099511627776) ∧ (0 ≤ v.b ∧ v.b ≤ 1099511627776) ∧ (0 ≤ v.c ∧ v.c ≤ 1099511627776) ∧ (0 ≤ v.d ∧ v.d ≤ 1099511627776) ∧ (0 ≤ v.e ∧ v.e ≤ 1099511627776))
theorem asc_mono {f g : Nat} (h : f ≤ g) {ps : List (Nat × Int)} (ha : Asc5 g ps) : Asc5 f ps := by
  cases ha with
  | nil => exact .nil f
  | cons h0 h1 h2 h3 hr => exact .cons (by omega) h1 h2 h3 hr
theorem asc_opt {k : Nat} (hk : k < 5) {x : Int} (hx : x ≤ 1099511627776) {r : List (Nat × Int)} (hr : Asc5 (k + 1) (r.filter fun p => decide (0 < p.2))) : Asc5 k (((k, x) :: r).filter fun p => decide (0 < p.2)) := by
  by_cases h : 0 < x
  · rw [List.filter_cons_of_pos (by simpa using h)]
    exact .cons (Nat.le_refl _) hk h hx hr
  · rw [List.filter_cons_of_neg (by simpa using h)]
    exact asc_mono (Nat.le_succ k) hr
theorem prs_asc (v : V) (h : v.good) : Asc5 0 (V.prs v) := by
  obtain ⟨h0, h1, h2, h3, h4⟩ := h.out
  exact asc_opt (by decide) h0.2 (asc_opt (by decide) h1.2 (asc_opt (by decide) h2.2 (asc_opt (by decide) h3.2 (asc_opt (by decide) h4.2 (.nil 5)))))
theorem set_prs (v : V) (h : v.good) : setAll V.zero (V.prs v) = v := by
  obtain ⟨a, b, c, d, e⟩ := v
  obtain ⟨h0, h1, h2, h3, h4⟩ := h.out
  dsimp only at h0 h1 h2 h3 h4
  have z : ∀ x : Int, 0 ≤ x → ¬ 0 < x → x = 0 := fun x p q => by omega
  unfold V.prs
  by_cases q0 : 0 < a <;> by_cases q1 : 0 < b <;> by_cases q2 : 0 < c <;> by_cases q3 : 0 < d <;> by_cases q4 : 0 < e <;>
    simp [setAll, V.set, V.zero, q0, q1, q2, q3, q4] <;> first | omega | (constructor <;> omega) | skip
  all_goals (first | omega | (refine ⟨?_, ?_⟩ <;> omega) | (refine ⟨?_, ?_, ?_⟩ <;> omega) | (refine ⟨?_, ?_, ?_, ?_⟩ <;> omega) | (refine ⟨?_, ?_, ?_, ?_, ?_⟩ <;> omega))
theorem good_of (v : V) (h : v.check = 0) : v.good := by
  obtain ⟨a, b, c, d, e⟩ := v
  have h1 : V.min ⟨a, b, c, d, e⟩ = min (min (min (min (min a a) b) c) d) e := rfl
  have h2 : V.max ⟨a, b, c, d, e⟩ = max (max (max (max (max a a) b) c) d) e := rfl
  unfold V.check at h
  rw [h1, h2] at h
  by_cases hm : min (min (min (min (min a a) b) c) d) e < 0
  · rw [if_pos hm] at h
    exact absurd h (by decide)
  rw [if_neg hm] at h
  by_cases hM : 1099511627776 < max (max (max (max (max a a) b) c) d) e
  · rw [if_pos hM] at h
    exact absurd h (by decide)
  exact ⟨by dsimp only; omega, by dsimp only; omega, by dsimp only; omega, by dsimp only; omega, by dsimp only; omega⟩
theorem check_of (v : V) (h : v.good) : v.check = 0 := by
  obtain ⟨a, b, c, d, e⟩ := v
  obtain ⟨h0, h3, h4, h5, h6⟩ := h.out
  dsimp only at h0 h3 h4 h5 h6
  have h1 : V.min ⟨a, b, c, d, e⟩ = min (min (min (min (min a a) b) c) d) e := rfl
  have h2 : V.max ⟨a, b, c, d, e⟩ = max (max (max (max (max a a) b) c) d) e := rfl
  unfold V.check
  rw [h1, h2, if_neg (by omega), if_neg (by omega)]
theorem back (v : V) (h : v.check = 0) : V.parse (V.print v).1 = (v, 0, 0) ∧ (V.print v).1.size ≤ 1000000 := by
  have hg := good_of v h
  have hp : (V.print v).1 = joinB (v.parts 5) := by
    unfold V.print
    rw [if_neg (by rw [h]; decide)]
  have hb : bs (joinB (v.parts 5)) = joinP (V.prs v) := by
    rw [← join_ps, ← parts_prs]
    rfl
  have hpl := parts_len v 5
  have hsz : (joinB (v.parts 5)).size ≤ 1000000 := by
    show (Lib.join ((v.parts 5).map (·.data.toList)) [44]).length ≤ _
    have hl := hpl.1
    have hx := hpl.2
    generalize v.parts 5 = xs at hl hx
    cases xs with
    | nil => exact Nat.zero_le _
    | cons x r =>
      have h1 := lens_le 46 (x :: r) hx
      rw [List.map_cons] at h1 ⊢
      rw [Lib.join_length]
      simp only [List.length_cons, List.length_map, List.length_nil] at *
      omega
  rw [hp]
  refine ⟨?_, hsz⟩
  unfold V.parse
  by_cases h0 : (joinB (v.parts 5)).size = 0
  · rw [if_pos h0]
    have hn : V.prs v = [] := by
      cases hq : V.prs v with
      | nil => rfl
      | cons p r =>
        exfalso
        rw [hq] at hb
        have h1 := congrArg List.length hb
        rw [bs_len, h0] at h1
        have h2 := part_pos p.1 p.2
        cases r with
        | nil => rw [show joinP [p] = bs (partB p.1 p.2) from rfl, bs_len] at h1; omega
        | cons q r => rw [show joinP (p :: q :: r) = bs (partB p.1 p.2) ++ 44 :: joinP (q :: r) from rfl, List.length_append, bs_len] at h1; omega
    have hs := set_prs v hg
    rw [hn] at hs
    rw [← hs]
    rfl
  · rw [if_neg h0]
    have hne : V.prs v ≠ [] := by
      intro hn
      rw [hn] at hb
      have h1 := congrArg List.length hb
      rw [bs_len] at h1
      exact h0 h1
    rw [parse_all (V.prs v) _ 6 0 0 V.zero hne (prs_asc v hg) (Nat.zero_le _) (by rw [List.drop_zero]; exact hb) (by decide), set_prs v hg]
theorem vecBack_true (a b c d e : Int) (w : World) (hT : Tb w) (hN : Nm w) (w0 : wfI a) (w1 : wfI b) (w2 : wfI c) (w3 : wfI d) (w4 : wfI e) :
    Calls Tryd.prog 5 #[.agg #[.int .i64 a, .int .i64 b, .int .i64 c, .int .i64 d, .int .i64 e]] w fun e_ w' => e_ = .returned (.bool true) ∧ Below w.heap.size w w' := by
  have hb64 : ∀ k, -9223372036854775808 ≤ V.get ⟨a, b, c, d, e⟩ k ∧ V.get ⟨a, b, c, d, e⟩ k ≤ 9223372036854775807 := by
    intro k
    have := wf_bd w0; have := wf_bd w1; have := wf_bd w2; have := wf_bd w3; have := wf_bd w4
    unfold V.get
    split <;> (dsimp only; omega)
  have md : ∀ z : Int, 0 ≤ z % 68719476736 ∧ z % 68719476736 < 68719476736 := fun z => ⟨Int.emod_nonneg _ (by decide), Int.emod_lt_of_pos _ (by decide)⟩
  have ha := md a; have hb := md b; have hc := md c; have hd := md d; have he := md e
  have hg : V.good ⟨a % 68719476736, b % 68719476736, c % 68719476736, d % 68719476736, e % 68719476736⟩ := ⟨by dsimp only; omega, by dsimp only; omega, by dsimp only; omega, by dsimp only; omega, by dsimp only; omega⟩
  have hb2 : ∀ k, -9223372036854775808 ≤ V.get ⟨a % 68719476736, b % 68719476736, c % 68719476736, d % 68719476736, e % 68719476736⟩ k ∧ V.get ⟨a % 68719476736, b % 68719476736, c % 68719476736, d % 68719476736, e % 68719476736⟩ k ≤ 9223372036854775807 := by
    intro k
    unfold V.get
    split <;> (dsimp only; omega)
  exact vecBack_w a b c d e w hT hN hb64 hb2 (back _) (check_of _ hg) (back _ (check_of _ hg))
end Go.Proofs.YtceepgleeelohaaDoor.P
