import Derived.Test.YtfnfjkddlnnolaaHval
import Derived.Test.YtfnfjkddlnnolaaShelf
import Derived.Maps.OwnOps
import Derived.Maps.Views
import Derived.Maps.StringElems
namespace Go.Proofs.Ytfnfjkddlnnolaa.P
set_option linter.unusedVariables false
set_option linter.unusedSimpArgs false
open Go.RowKit Go.Proofs.YtfnfjkddlnnolaaW.PrintWords Go.Proofs.YtfnfjkddlnnolaaW.PrintLast Go.Proofs.YtfnfjkddlnnolaaW.PrintMore
open Go.Maps
theorem ba_size (a b : ByteArray) : (a ++ b).size = a.size + b.size := ByteArray.size_append
def textT (x : S38) : ByteArray := if x.f0 = 1 then x.f1 ++ (⟨#[61]⟩ : ByteArray) ++ x.f2 else if x.f0 = 2 then x.f1 ++ (⟨#[33, 61]⟩ : ByteArray) ++ x.f2 else if x.f0 = 3 then x.f1 else if x.f0 = 4 then (⟨#[33]⟩ : ByteArray) ++ x.f1 else ⟨#[]⟩
def okT (x : S38) : Bool := decide (x.f1.size ≤ 1000000) && decide (x.f2.size ≤ 1000000) && decide (1 ≤ x.f0) && decide (x.f0 ≤ 4)
theorem law3 : Keyed Try.prog 3 := int_keyed Try.underlying3
theorem zero9 (w : World) : (zeroValue 9).run Try.prog w = .ok (.string ⟨#[]⟩) w := by kernel_rfl
theorem kl_int (a : Int) : WideAt.IsKeyLit (Lit.int .i64 a) := trivial
theorem key_ne {a b : Int} (h : a ≠ b) : (Lit.int .i64 a) ≠ (Lit.int .i64 b) := by
 intro e
 cases e
 exact h rfl
theorem wf_small {a : Int} (h0 : 1 ≤ a) (h1 : a ≤ 4) : (Lit.int .i64 a).wf = true := by unfold Lit.wf; have hmin : IntKind.i64.min = -9223372036854775808 := rfl; have hmax : IntKind.i64.max = 9223372036854775807 := rfl; simp only [Bool.and_eq_true, decide_eq_true_eq]; omega
theorem lit_ba {a b : ByteArray} (h : (DataW.lit (.string a.data.toList) : DataW Unit) = .lit (.string b.data.toList)) : a = b := by
 injection h with h
 injection h with h
 cases a; cases b
 congr 1
 exact Array.toList_inj.1 h
set_option maxRecDepth 100000 in
set_option maxHeartbeats 1600000 in
theorem textT_calls (x : S38) (w : World) (h : okT x = true) :
  Calls Try.prog 56 #[.agg #[.int .i64 x.f0, .string x.f1, .string x.f2]] w fun e w' => e = .returned (.string (textT x)) ∧ Below w.heap.size w w' := by
 have hu38 := Try.underlying38
 unfold okT at h
 simp only [Bool.and_eq_true, decide_eq_true_eq] at h
 obtain ⟨⟨⟨h1, h2⟩, h3⟩, h4⟩ := h
 have s1 : x.f1.size + 1 ≤ 9223372036854775807 := by omega
 have s2 : (x.f1 ++ (⟨#[61]⟩ : ByteArray)).size + x.f2.size ≤ 9223372036854775807 := by rw [ba_size]; show x.f1.size + 1 + _ ≤ _; omega
 have s3 : x.f1.size + 2 ≤ 9223372036854775807 := by omega
 have s4 : (x.f1 ++ (⟨#[33, 61]⟩ : ByteArray)).size + x.f2.size ≤ 9223372036854775807 := by rw [ba_size]; show x.f1.size + 2 + _ ≤ _; omega
 have s5 : 1 + x.f1.size ≤ 9223372036854775807 := by omega
 have z1 : (x.f1 ++ (⟨#[61]⟩ : ByteArray) ++ x.f2).size ≤ maxLen := by unfold maxLen; rw [ba_size, ba_size]; show x.f1.size + 1 + _ ≤ _; omega
 have z2 : (x.f1 ++ (⟨#[33, 61]⟩ : ByteArray) ++ x.f2).size ≤ maxLen := by unfold maxLen; rw [ba_size, ba_size]; show x.f1.size + 2 + _ ≤ _; omega
 have z3 : x.f1.size ≤ maxLen := by unfold maxLen; omega
 have z4 : ((⟨#[33]⟩ : ByteArray) ++ x.f1).size ≤ maxLen := by unfold maxLen; rw [ba_size]; show 1 + _ ≤ _; omega
 obtain ⟨b, hb⟩ : ∃ b, w.heap.size = b := ⟨_, rfl⟩
 obtain ⟨W0, hW0⟩ : ∃ W0, (w.alloc (.cells #[.int .i64 x.f0, .string x.f1, .string x.f2] 38)).alloc (.map #[] 0) = W0 := ⟨_, rfl⟩
 have hown0 : W0.ownsMap Try.prog 3 (plainElem (H := Unit) Try.prog 9) (b + 1) 0 (.map []) := by
  rw [← hW0, ← hb]
  have := World.ownsMap_made (H := Unit) (w.alloc (.cells #[.int .i64 x.f0, .string x.f1, .string x.f2] 38)) Try.prog 3 (plainElem Try.prog 9)
  simpa using this
 have hbl0 : W0.heap[b]? = some (.cells #[.int .i64 x.f0, .string x.f1, .string x.f2] 38 (0, 0)) := by
  rw [← hW0, ← hb]
  exact ((below_alloc (Below.refl _ _) _).block _ (by simp)).trans (heap_alloc_new w _)
 have hB0 : Below b w W0 := by rw [← hW0, ← hb]; exact below_alloc (below_alloc (Below.refl _ _) _) _
 have hlt := hown0.lt
 obtain ⟨W1, r1, hown1, g1⟩ := hown0.update law3 Try.underlying78 (by unfold maxLen; omega) (keyOf_int_mk Try.underlying3 (a := 1) (by decide)) (plainElem_string Try.underlying9 z1)
 obtain ⟨W2, r2, hown2, g2⟩ := hown1.update law3 Try.underlying78 (by unfold maxLen; omega) (keyOf_int_mk Try.underlying3 (a := 2) (by decide)) (plainElem_string Try.underlying9 z2)
 obtain ⟨W3, r3, hown3, g3⟩ := hown2.update law3 Try.underlying78 (by unfold maxLen; omega) (keyOf_int_mk Try.underlying3 (a := 3) (by decide)) (plainElem_string Try.underlying9 z3)
 obtain ⟨W4, r4, hown4, g4⟩ := hown3.update law3 Try.underlying78 (by unfold maxLen; omega) (keyOf_int_mk Try.underlying3 (a := 4) (by decide)) (plainElem_string Try.underlying9 z4)
 have hne : some b ≠ some (b + 1) := by simp
 have hbl1 := (g1.block b (by omega) hne).trans hbl0
 have q1 := g1.size
 have hbl2 := (g2.block b (by omega) hne).trans hbl1
 have q2 := g2.size
 have hbl3 := (g3.block b (by omega) hne).trans hbl2
 have q3 := g3.size
 have hbl4 := (g4.block b (by omega) hne).trans hbl3
 have hB4 : Below b w W4 := by
  have hr : ∀ k, some (b + 1) = some k → b ≤ k := by intro k e; cases e; omega
  exact pw_below_grown (pw_below_grown (pw_below_grown (pw_below_grown hB0 _ (by omega) g1 hr) _ (by omega) g2 hr) _ (by omega) g3 hr) _ (by omega) g4 hr
 obtain ⟨v, ps, r5, hv⟩ := hown4.lookup law3 Try.underlying78 (zero9 _) (plainElem_string Try.underlying9 (by unfold maxLen; decide)) (keyOf_int_mk Try.underlying3 (wf_small h3 h4))
 obtain ⟨s, rfl, hs, _⟩ := plainElem_string_inv Try.underlying9 hv
 injection hs with hs _
 have hst : s = textT x := by
  refine lit_ba (hs.symm.trans ?_)
  have im0 := isMap_empty (H := Unit)
  unfold textT
  by_cases e1 : x.f0 = 1
  ·rw [if_pos e1, e1, atKey_put_other (key_ne (by decide)), atKey_put_other (key_ne (by decide)), atKey_put_other (key_ne (by decide)), atKey_put_same im0 (kl_int 1)]
  rw [if_neg e1]
  by_cases e2 : x.f0 = 2
  ·rw [if_pos e2, e2, atKey_put_other (key_ne (by decide)), atKey_put_other (key_ne (by decide)), atKey_put_same (im0.put _ _) (kl_int 2)]
  rw [if_neg e2]
  by_cases e3 : x.f0 = 3
  ·rw [if_pos e3, e3, atKey_put_other (key_ne (by decide)), atKey_put_same ((im0.put _ _).put _ _) (kl_int 3)]
  rw [if_neg e3]
  have e4 : x.f0 = 4 := by omega
  rw [if_pos e4, e4, atKey_put_same (((im0.put _ _).put _ _).put _ _) (kl_int 4)]
 have c01 : W0.cell? ⟨b, 1, none⟩ = some (.string x.f1) := (blk_cell hbl0 1).trans rfl
 have c02 : W0.cell? ⟨b, 2, none⟩ = some (.string x.f2) := (blk_cell hbl0 2).trans rfl
 have c11 : W1.cell? ⟨b, 1, none⟩ = some (.string x.f1) := (blk_cell hbl1 1).trans rfl
 have c12 : W1.cell? ⟨b, 2, none⟩ = some (.string x.f2) := (blk_cell hbl1 2).trans rfl
 have c21 : W2.cell? ⟨b, 1, none⟩ = some (.string x.f1) := (blk_cell hbl2 1).trans rfl
 have c31 : W3.cell? ⟨b, 1, none⟩ = some (.string x.f1) := (blk_cell hbl3 1).trans rfl
 have c40 : W4.cell? ⟨b, 0, none⟩ = some (.int .i64 x.f0) := (blk_cell hbl4 0).trans rfl
 rw [hst] at r5
 have HB := Aside0.mk hB4
 have hmm : (Instr.makeMap 78 none).run Try.prog (w.alloc (.cells #[.int .i64 x.f0, .string x.f1, .string x.f2] 38)) = .ok (.map (some (b + 1))) W0 := by
  rw [run_makeMap, hW0]
  simp [hb]
 generalize textT x = tx at r5 ⊢
 clear hown0 hown1 hown2 hown3 hown4 g1 g2 g3 g4 q1 q2 q3 hbl0 hbl1 hbl2 hbl3 hbl4 hB0 hB4 hW0 hlt hne hv hs hst z1 z2 z3 z4 h1 h2 h3 h4
 go_enter Try.func56, Try.ntmps56
 go_wp2_with fail
 go_ret
 exact ⟨rfl, by rw [hb]; exact HB.out⟩
theorem strings_Join_nil (w : World) : Calls Try.prog 68 #[.slice none 0 0, .string (⟨#[44]⟩ : ByteArray)] w fun e w' => e = .returned (.string ⟨#[]⟩) ∧ w = w' := by
 go_enter Try.func68, Try.ntmps68
 go_wp2_with fail
 go_ret
 exact ⟨rfl, rfl⟩
theorem take_onT (xs : List S38) (k : Nat) (h : k < xs.length) : (xs.take (k + 1)).map textT = (xs.take k).map textT ++ [textT (rd_T38 xs (k : Int))] := by
 have e : rd_T38 xs (k : Int) = xs[k] := by
  unfold rd_T38
  rw [Int.toNat_natCast, List.getD_eq_getElem?_getD, List.getElem?_eq_getElem h]
  rfl
 rw [e, List.take_succ_eq_append_getElem h, List.map_append]
 rfl
theorem ok_onT (xs : List S38) (k : Nat) (h : k < xs.length) (ho : xs.all okT = true) : okT (rd_T38 xs (k : Int)) = true := by
 have e : rd_T38 xs (k : Int) = xs[k] := by
  unfold rd_T38
  rw [Int.toNat_natCast, List.getD_eq_getElem?_getD, List.getElem?_eq_getElem h]
  rfl
 rw [e]
 exact List.all_eq_true.1 ho _ (List.getElem_mem h)
def joinT (xs : List S38) : Option ByteArray := if xs.all okT = true ∧ xs.length ≤ 1000 ∧ (Lib.join ((xs.map textT).map (·.data.toList)) [44]).length ≤ 140737488355328 then some ⟨(Lib.join ((xs.map textT).map (·.data.toList)) [44]).toArray⟩ else none
set_option maxRecDepth 100000 in
set_option maxHeartbeats 1600000 in
theorem joinedT_calls (A0 : Option Addr) (c0 : Nat) (xs : List S38) (r : ByteArray) (w : World) (hr : Kd.C k38 w A0 xs.length xs) (hc : xs.length ≤ c0) (h : joinT xs = some r) :
  Calls Try.prog 55 #[.slice A0 xs.length c0, .func (.func 56) #[] #[]] w fun e w' => e = .returned (.string r) ∧ Below w.heap.size w w' := by
 have hu38 := Try.underlying38
 unfold joinT at h
 split at h
 case isFalse => cases h
 case isTrue hcnd =>
 have hm : xs.length ≤ 1000 := hcnd.2.1
 have HJ := Aside0.mk (And.intro hcnd (Option.some.inj h))
 have HR := Aside0.mk (And.intro hr hc)
 clear hr hc h hcnd
 go_enter Try.func55, Try.ntmps55
 go_wp2_with fail
 go_loopw [5, 10] (fun v u wr => ∃ k : Nat, k ≤ xs.length ∧ u = .int .i64 k ∧ Aside0 (Kd.R Kd.string 9 wr w.heap.size (fun _ => True) v ((xs.take k).map textT)) ∧ Aside0 (Below w.heap.size w wr) ∧ Aside0 (k = 0 → v = .slice none 0 0)) (fun _ u _ => xs.length - (intOf u).toNat)
 case atStart => exact ⟨0, Nat.zero_le _, rfl, ⟨by simpa using Kd.R_nil _ _ _ _ _⟩, ⟨Below.refl _ _⟩, ⟨fun _ => rfl⟩⟩
 case round =>
  obtain ⟨k, hk, rfl, HO, HB, HN⟩ := hrel
  by_cases hlt : k < xs.length
  ·have HT := Aside0.mk (take_onT xs k hlt)
   have HK := Aside0.mk (ok_onT xs k hlt HJ.out.1.1)
   obtain ⟨ad, rfl, l0_, l1_, l2_⟩ := at_T38 (Kd.C_below HR.out.1 HB.out) (k : Int) (by omega) (by omega)
   rw [Int.toNat_natCast] at l0_ l1_ l2_
   generalize rd_T38 xs (k : Int) = x at l0_ l1_ l2_ HT HK
   obtain ⟨A6, c6, e6⟩ := Kd.R_slice HO.out
   have hl6 : ((xs.take k).map textT).length = k := by simp; omega
   rw [hl6] at e6
   subst e6
   clear hl6 HN
   go_wp2_with fail
   have hb1 : Below wr.heap.size wr (wr.alloc (.cells #[.int .i64 x.f0, .string x.f1, .string x.f2] 38)) := below_alloc (Below.refl _ _) _
   refine (textT_calls x _ HK.out).mono ?_
   rintro _ W2 ⟨rfl, hb⟩
   have HB2 := Aside0.mk (below_step HB.out (below_step hb1 hb))
   have HO2 := Aside0.mk (Kd.R_below (Kd.R_alloc HO.out _) hb)
   clear hb hb1 HB HO HK l0_ l1_ l2_
   have hz : w.heap.size ≤ W2.heap.size := HB2.out.size
   go_wp2_with ((at_builtin; refine Kd.R_append Kd.string (w0 := w) w.heap.size rfl (.tmp 14) (.tmp 18) 87 9 (.string ⟨#[]⟩) 16 rfl Try.underlying87 info9 rfl (by decide) (by decide) (.slice A6 k c6) ((xs.take k).map textT) (textT x) [.string (textT x)] (fun _ => True) (fun _ => False) ?aE rfl rfl (fun _ h => h.elim) (fun _ _ => trivial) HO2.out HB2.out hz (by simp; omega) ?_; (case aE => first | rfl | (go_simp; done) | (simp; done)); intro v7 W7 HV7 HB7 hg7 hat7))
   have HO7 : Aside0 (Kd.R Kd.string 9 W7 w.heap.size (fun _ => True) v7 ((xs.take (k + 1)).map textT)) := ⟨by rw [HT.out]; exact HV7⟩
   have HB8 := Aside0.mk HB7
   clear HV7 HB7 hg7 hat7 HB2 HO2 HT hz
   go_roundw
   case rel => exact ⟨k + 1, by omega, by go_num, HO7, HB8, ⟨fun h => absurd h (by omega)⟩⟩
   case measure => simp [intOf]; omega
  ·have hq : k = xs.length := by omega
   subst hq
   have hj := HJ.out.2
   obtain ⟨res, hres⟩ : ∃ res, (⟨(Lib.join ((xs.map textT).map (·.data.toList)) [44]).toArray⟩ : ByteArray) = res := ⟨_, rfl⟩
   rw [hres] at hj
   subst hj
   have HE := Aside0.mk hres
   clear hres
   have HO2 : Aside0 (Kd.R Kd.string 9 wr w.heap.size (fun _ => True) u5 (xs.map textT)) := ⟨by have := HO.out; rwa [List.take_length] at this⟩
   clear HO
   by_cases hn : xs = []
   ·have hv := HN.out (by rw [hn]; rfl)
    have he : res = ⟨#[]⟩ := by rw [← HE.out, hn]; rfl
    subst hv
    clear HN HE HO2
    subst hn
    subst he
    go_wp2_with fail
    refine (strings_Join_nil _).mono ?_
    rintro _ W2 ⟨rfl, rfl⟩
    go_wp2_with fail
    go_ret
    exact ⟨rfl, HB.out⟩
   ·have hpos : 0 < (xs.map textT).length := by rw [List.length_map]; exact List.length_pos_iff.2 hn
    obtain ⟨inner, ho⟩ := Kd.R_own HO2.out
    obtain ⟨g, cap, hv, _, hgl⟩ := ho.form hpos
    have hv2 : u5 = .slice (some ⟨g, 0, none⟩) (xs.map textT).length cap := hv
    subst hv2
    have hC := Kd.R_reads' HO2.out
    have hcells : ∀ (j : Nat) x, (xs.map textT)[j]? = some x → wr.cell? ⟨g, 0 + j, none⟩ = some (.string x) := by
     intro j x hx
     have hjl : j < (xs.map textT).length := (List.getElem?_eq_some_iff.1 hx).1
     obtain ⟨ad, c, ea, _, hK, hc0⟩ := Kd.C_get hC.2.2 (⟨#[]⟩ : ByteArray) (j : Int) (by omega) (by omega)
     cases ea
     have hc1 : c = [.string ((xs.map textT).getD (j : Int).toNat ⟨#[]⟩)] := hK
     subst hc1
     have h2 := hc0 0 _ rfl
     rw [Int.toNat_natCast, List.getD_eq_getElem?_getD, hx] at h2
     by_cases hj0 : j = 0
     ·subst hj0; simpa [Addr.add, Kd.string, Kd.scalar] using h2
     ·simpa [Addr.add, Kd.string, Kd.scalar, hj0] using h2
    have HX := Aside0.mk (And.intro hcells (And.intro hgl (And.intro hC.2.1 HJ.out.1.2.2)))
    have hlen : (xs.map textT).length = xs.length := List.length_map _
    clear hcells hC hv ho HO2 HN
    go_wp2_with fail
    have hSJ := Try.strings_Join g 0 cap (xs.map textT) ⟨#[44]⟩ _ HX.out.1 HX.out.2.1 (by rw [hlen]; omega) HX.out.2.2.1 HX.out.2.2.2
    rw [hlen] at hSJ
    refine hSJ.mono ?_
    clear hSJ
    rintro _ W2 ⟨rfl, hb⟩
    have HB2 := Aside0.mk (below_step HB.out hb)
    have hE : (⟨(Lib.join ((xs.map textT).map (·.data.toList)) (⟨#[44]⟩ : ByteArray).data.toList).toArray⟩ : ByteArray) = res := HE.out
    rw [hE]
    clear hE hb HX HB HE
    go_wp2_with fail
    go_ret
    exact ⟨rfl, HB2.out⟩
def label_PrintTerms.f (l : List S38) : Option ByteArray := joinT l
theorem label_PrintTerms.calls (A0 : Option Addr) (c0 : Nat) (l0 : List S38) (r : ByteArray) (w : World) (hr0 : Kd.C k38 w A0 l0.length l0) (hc0 : l0.length ≤ c0) (h : label_PrintTerms.f l0 = some r) :
  Calls Try.prog 24 #[.slice A0 l0.length c0] w fun e w' => e = .returned (.string r) ∧ Below w.heap.size w w' := by
 have HR := Aside0.mk (And.intro hr0 (And.intro hc0 h))
 clear hr0 hc0 h
 go_enter Try.func24, Try.ntmps24
 go_wp2_with fail
 refine (joinedT_calls A0 c0 l0 r _ HR.out.1 HR.out.2.1 HR.out.2.2).mono ?_
 rintro _ W2 ⟨rfl, hb⟩
 have HB := Aside0.mk hb
 clear hb
 go_wp2_with fail
 go_ret
 exact ⟨rfl, HB.out⟩
end Go.Proofs.Ytfnfjkddlnnolaa.P
