import Derived.Test.YtagkgddkpnbfoaaHplaw
namespace Go.Proofs.Ytagkgddkpnbfoaa.P
set_option linter.unusedVariables false
set_option linter.unusedSimpArgs false
open Go.RowKit Go.Proofs.YtagkgddkpnbfoaaW.PrintWords Go.Proofs.YtagkgddkpnbfoaaW.PrintLast Go.Proofs.YtagkgddkpnbfoaaW.PrintMore

def recX (r : S25) : List Int := recB r.f0 r.f1 r.f2 r.f3 r.f4
def okX (r : S25) : Bool := okRec r.f0 r.f1 r.f2 r.f3 r.f4
def midX (r : S25) : List Int := [r.f0 % 256] ++ fieldsOf r.f0 r.f1 r.f2 r.f3 r.f4

theorem gB_cons_succ (x : Int) (l : List Int) (i : Nat) : gB (x :: l) (i + 1) = gB l i := by simp [gB]
theorem flatMap_at {α : Type} (f : α → List Int) (hf : ∀ x, (f x).length = 3) : ∀ (l : List α) (q j : Nat) (hq : q < l.length), j < 3 → gB (l.flatMap f) (3 * q + j) = gB (f l[q]) j
 | [], q, _, hq, _ => by simp at hq
 | x :: r, 0, j, _, hj => by
  rw [List.flatMap_cons, gB_append (by rw [hf]; omega)]
  simp
 | x :: r, q + 1, j, hq, hj => by
  rw [List.flatMap_cons, gB_after (by rw [hf]; omega), hf, show 3 * (q + 1) + j - 3 = 3 * q + j by omega, flatMap_at f hf r q j (by simpa using hq) hj]
  simp
theorem gB_map {α : Type} (f : α → Int) (l : List α) (i : Nat) (h : i < l.length) : gB (l.map f) i = f l[i] := by
 simp [gB, List.getD_eq_getElem?_getD, List.getElem?_map, List.getElem?_eq_getElem h]
theorem range_eq {α : Type} (l : List α) (f : Nat → α) (h : ∀ i (hi : i < l.length), f i = l[i]) : (List.range l.length).map f = l := by
 refine List.ext_getElem (by simp) fun i h1 h2 => ?_
 simp
 exact h i h2

theorem parse_back {r : S25} (h : okX r = true) : recIs (midX r) = true ∧ recOf (midX r) = r := by
 obtain ⟨k, n, m, pl, st⟩ := r
 have hok : okRec k n m pl st = true := h
 unfold okX okRec at h
 dsimp only at h
 unfold midX
 dsimp only
 by_cases hk : k = 1
 ·subst hk
  rw [if_pos rfl] at h
  simp only [Bool.and_eq_true, decide_eq_true_eq] at h
  obtain ⟨⟨rfl, rfl⟩, hp⟩ := h
  simp only [okPlan, Bool.and_eq_true, decide_eq_true_eq, List.all_eq_true, okNode, okStep] at hp
  obtain ⟨⟨⟨hl, hs⟩, hN⟩, hS⟩ := hp
  generalize hM : [(1 : Int) % 256] ++ fieldsOf 1 0 0 pl st = M
  have hM2 : M = 1 :: ((pl.length : Int) :: (pl.map (fun n => (n + 1) % 256) ++ ((st.length : Int) :: st.flatMap stepB))) := by
   rw [← hM]
   unfold fieldsOf planB
   rw [if_pos rfl]
   simp
   omega
  have h0 : gB M 0 = 1 := by rw [hM2]; rfl
  have h1 : gB M 1 = (pl.length : Int) := by rw [hM2]; rfl
  have np : recNp M = pl.length := by unfold recNp; rw [h1]; omega
  have h2 : ∀ j, gB M (2 + j) = gB (pl.map (fun n => (n + 1) % 256) ++ ((st.length : Int) :: st.flatMap stepB)) j := fun j => by
   rw [hM2, show 2 + j = j + 1 + 1 by omega, gB_cons_succ, gB_cons_succ]
  have h3 : gB M (2 + pl.length) = (st.length : Int) := by
   rw [h2, gB_after (by simp), List.length_map, Nat.sub_self]
   rfl
  have ns : recNs M = st.length := by unfold recNs; rw [np, h3]; omega
  have h4 : ∀ j, gB M (3 + pl.length + j) = gB (st.flatMap stepB) j := fun j => by
   rw [show 3 + pl.length + j = 2 + (pl.length + 1 + j) by omega, h2, gB_after (by simp; omega), List.length_map, show pl.length + 1 + j - pl.length = j + 1 by omega, gB_cons_succ]
  have e3 : recPl M = pl := by
   unfold recPl recPlN
   rw [if_pos h0, np]
   refine range_eq pl _ fun i hi => ?_
   rw [h2, gB_append (by simpa using hi), gB_map _ _ _ hi]
   have := hN _ (List.getElem_mem hi)
   omega
  have e4 : recSt M = st := by
   unfold recSt recStN
   rw [if_pos h0, ns, np]
   refine range_eq st _ fun i hi => ?_
   have hx := hS _ (List.getElem_mem hi)
   have a0 := h4 (3 * i + 0)
   have a1 := h4 (3 * i + 1)
   have a2 := h4 (3 * i + 2)
   rw [flatMap_at stepB (fun _ => rfl) st i _ hi (by omega)] at a0 a1 a2
   simp only [Nat.add_zero, ← Nat.add_assoc] at a0 a1 a2
   rw [a0, a1, a2]
   generalize st[i] = x at hx
   obtain ⟨x0, x1, x2⟩ := x
   show S49.mk (x0 % 256) (x1 % 256) (x2 % 256) = _
   dsimp only at hx
   obtain ⟨⟨⟨⟨b1, b2⟩, b3, b4⟩, b5, b6⟩, _⟩ := hx
   rw [show x0 % 256 = x0 by omega, show x1 % 256 = x1 by omega, show x2 % 256 = x2 by omega]
  have eN : recN M = 0 := by unfold recN; rw [if_pos h0]
  have eM : recM M = 0 := by unfold recM; rw [if_pos h0]
  have eJ : M.length = recJ M := by
   unfold recJ
   rw [if_pos h0, np, ns, hM2]
   simp only [List.length_cons, List.length_append, List.length_map, stepsB_length]
   omega
  refine ⟨?_, ?_⟩
  ·unfold recIs
   rw [h0, eN, eM, e3, e4, hok, decide_eq_true eJ]
   rfl
  ·unfold recOf
   rw [h0, eN, eM, e3, e4]
 ·rw [if_neg hk] at h
  simp only [Bool.and_eq_true, decide_eq_true_eq] at h
  obtain ⟨⟨⟨⟨⟨hk2, hk6⟩, hpl, hst⟩, hn0, hn1⟩, hm0, hm1⟩, _⟩ := h
  obtain rfl := List.eq_nil_of_length_eq_zero hpl
  obtain rfl := List.eq_nil_of_length_eq_zero hst
  generalize hM : [k % 256] ++ fieldsOf k n m [] [] = M
  have hM2 : M = [k, n / 256 % 256, n % 256, m / 256 % 256, m % 256] := by
   rw [← hM]
   unfold fieldsOf putL
   rw [if_neg hk]
   simp [two]
   omega
  have h0 : gB M 0 = k := by rw [hM2]; rfl
  have eN : recN M = n := by
   unfold recN
   rw [h0, if_neg hk, hM2]
   show 256 * (n / 256 % 256) + n % 256 = n
   omega
  have eM : recM M = m := by
   unfold recM
   rw [h0, if_neg hk, hM2]
   show 256 * (m / 256 % 256) + m % 256 = m
   omega
  have e3 : recPl M = [] := by unfold recPl; rw [h0, if_neg hk]
  have e4 : recSt M = [] := by unfold recSt; rw [h0, if_neg hk]
  have eJ : M.length = recJ M := by unfold recJ; rw [h0, if_neg hk, hM2]; rfl
  refine ⟨?_, ?_⟩
  ·unfold recIs
   rw [h0, eN, eM, e3, e4, hok, decide_eq_true eJ]
   rfl
  ·unfold recOf
   rw [h0, eN, eM, e3, e4]

theorem fields_small {r : S25} (h : okX r = true) : 4 ≤ (fieldsOf r.f0 r.f1 r.f2 r.f3 r.f4).length + 2 ∧ (fieldsOf r.f0 r.f1 r.f2 r.f3 r.f4).length ≤ 791 := by
 obtain ⟨k, n, m, pl, st⟩ := r
 unfold okX okRec at h
 dsimp only at h ⊢
 unfold fieldsOf
 by_cases hk : k = 1
 ·rw [if_pos hk] at h ⊢
  simp only [Bool.and_eq_true, decide_eq_true_eq, okPlan] at h
  unfold planB
  simp only [List.length_append, List.length_map, List.length_cons, List.length_nil, stepsB_length]
  omega
 ·rw [if_neg hk]
  simp [putL_length]
theorem two_gB (n : Int) (l : List Int) (h0 : 0 ≤ n) (h1 : n ≤ 65535) : gT (two n ++ l) 0 = n := by
 show 256 * (n / 256 % 256) + n % 256 = n
 omega
def lenX (r : S25) : Nat := (fieldsOf r.f0 r.f1 r.f2 r.f3 r.f4).length + 7
theorem recX_eq (r : S25) : recX r = two (lenX r : Int) ++ (two (65535 - (lenX r : Int)) ++ (midX r ++ two (sumL (headB r.f0 r.f1 r.f2 r.f3 r.f4)))) := by
 unfold recX recB
 generalize sumL (headB r.f0 r.f1 r.f2 r.f3 r.f4) = s
 unfold headB midX lenX
 simp [putL, two]
theorem headB_eq2 (r : S25) : headB r.f0 r.f1 r.f2 r.f3 r.f4 = two (lenX r : Int) ++ (two (65535 - (lenX r : Int)) ++ midX r) := by
 unfold headB midX lenX
 simp [putL, two]
theorem recX_head (r : S25) : recX r = headB r.f0 r.f1 r.f2 r.f3 r.f4 ++ two (sumL (headB r.f0 r.f1 r.f2 r.f3 r.f4)) := by
 rw [recX_eq, headB_eq2]
 simp
theorem midX_length (r : S25) : (midX r).length = lenX r - 6 := by unfold midX lenX; simp
theorem headB_length2 (r : S25) : (headB r.f0 r.f1 r.f2 r.f3 r.f4).length = lenX r - 2 := by
 rw [headB_eq2]
 simp only [List.length_append, two_length, midX_length]
 unfold lenX
 omega
theorem recX_length (r : S25) : (recX r).length = lenX r := by
 rw [recX_head, List.length_append, headB_length2, two_length]
 unfold lenX
 omega
theorem lenX_small {r : S25} (h : okX r = true) : 9 ≤ lenX r ∧ lenX r ≤ 798 := by
 have := fields_small h
 unfold lenX
 omega
theorem first_back {r : S25} (h : okX r = true) (l : List Int) : firstOk (recX r ++ l) = true ∧ fN (recX r ++ l) = lenX r ∧ recOf (fMid (recX r ++ l)) = r := by
 have hs := lenX_small h
 have hp := parse_back h
 have g0 : gT (recX r ++ l) 0 = (lenX r : Int) := by
  rw [recX_eq, List.append_assoc]
  exact two_gB _ _ (by omega) (by omega)
 have g2 : gT (recX r ++ l) 2 = 65535 - (lenX r : Int) := by
  have e := gT_drop (recX r ++ l) 2 0
  rw [← e, recX_eq, List.append_assoc, List.drop_append_of_le_length (by simp [two_length]), show (two (lenX r : Int)).drop 2 = [] from rfl, List.nil_append, List.append_assoc]
  exact two_gB _ _ (by omega) (by omega)
 have hn : fN (recX r ++ l) = lenX r := by unfold fN; rw [g0]; omega
 have hll : (recX r ++ l).length = lenX r + l.length := by rw [List.length_append, recX_length]
 have hth : (recX r ++ l).take (lenX r - 2) = headB r.f0 r.f1 r.f2 r.f3 r.f4 := by
  rw [recX_head, List.append_assoc, ← headB_length2, List.take_left]
 have hm : fMid (recX r ++ l) = midX r := by
  unfold fMid
  rw [hn, hth, headB_eq2, ← List.append_assoc]
  exact List.drop_left' (by simp [two_length])
 have hsum : fSum (recX r ++ l) = true := by
  unfold fSum
  rw [hn, hth]
  have e : ((recX r ++ l).take (lenX r)).drop (lenX r - 2) = two (sumL (headB r.f0 r.f1 r.f2 r.f3 r.f4)) := by
   rw [← recX_length, List.take_left, recX_length, recX_head, ← headB_length2, List.drop_left]
  rw [e]
  have := sumL_range (headB r.f0 r.f1 r.f2 r.f3 r.f4)
  have e2 := two_gB (sumL (headB r.f0 r.f1 r.f2 r.f3 r.f4)) [] (by omega) (by omega)
  rw [List.append_nil] at e2
  rw [e2]
  simp
 refine ⟨?_, hn, by rw [hm]; exact hp.2⟩
 unfold firstOk fHead
 rw [hsum, hm, hp.1, g0, g2, hll]
 simp
 omega
def cat (L : List S25) : List Int := L.flatMap recX
theorem readAll_cat : ∀ (L : List S25) (l : List Int), (∀ r ∈ L, okX r = true) → firstOk l = false → readAll (cat L ++ l) = (L, (cat L).length)
 | [], l, _, h => by simpa [cat] using readAll_no h
 | r :: L, l, hL, h => by
  have hr := first_back (hL r (List.mem_cons_self ..)) (cat L ++ l)
  have e : cat (r :: L) ++ l = recX r ++ (cat L ++ l) := by simp [cat]
  rw [e, readAll_yes hr.1, hr.2.1, hr.2.2]
  have ed : (recX r ++ (cat L ++ l)).drop (lenX r) = cat L ++ l := by rw [← recX_length, List.drop_left]
  rw [ed, readAll_cat L l (fun x hx => hL x (List.mem_cons_of_mem _ hx)) h]
  simp [cat, recX_length]
theorem firstOk_nil : firstOk [] = false := rfl
theorem first_torn {r : S25} (h : okX r = true) (n : Nat) (hn : n < lenX r) : firstOk ((recX r).take n) = false := by
 cases hf : firstOk ((recX r).take n) with
 | false => rfl
 | true =>
  have hs := firstOk_size hf
  rw [List.length_take, recX_length] at hs
  have hl := lenX_small h
  have e : gT ((recX r).take n) 0 = (lenX r : Int) := by
   unfold gT
   rw [gB_take (by omega), gB_take (by omega)]
   show gT (recX r) 0 = _
   rw [recX_eq]
   exact two_gB _ _ (by omega) (by omega)
  have := hs.2.2.2
  omega

theorem recX_byte (r : S25) : ∀ x ∈ recX r, isByte x := by
 rw [recX_head]
 intro x hx
 rcases List.mem_append.1 hx with h | h
 ·exact headB_isByte _ _ _ _ _ x h
 ·exact two_isByte _ x h
end Go.Proofs.Ytagkgddkpnbfoaa.P
