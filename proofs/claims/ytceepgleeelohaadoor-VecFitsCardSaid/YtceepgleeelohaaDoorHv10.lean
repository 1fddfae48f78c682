import Derived.Test.YtceepgleeelohaaDoorHv5
import Derived.Test.YtceepgleeelohaaDoorHv3
import Derived.Test.YtceepgleeelohaaDoorHv9
import Derived.Test.YtceepgleeelohaaDoorHqp
/- Print. -/
namespace Go.Proofs.YtceepgleeelohaaDoor.P
set_option linter.unusedVariables false
set_option linter.unusedSimpArgs false
open Go.RowKit Go.Proofs.YtceepgleeelohaaDoorW.PrintWords Go.Proofs.YtceepgleeelohaaDoorW.PrintLast Go.Proofs.YtceepgleeelohaaDoorW.PrintMore
def partB (k : Nat) (n : Int) : ByteArray := nmB k ++ (⟨#[61]⟩ : ByteArray) ++ (printS n (decide (k = 0))).1
def V.parts (v : V) : Nat → List ByteArray
  | 0 => []
  | k + 1 => if 0 < v.get k then V.parts v k ++ [partB k (v.get k)] else V.parts v k
def joinB (xs : List ByteArray) : ByteArray := ⟨(Lib.join (xs.map (·.data.toList)) [44]).toArray⟩
def V.print (v : V) : ByteArray × Int := if v.check ≠ 0 then (⟨#[]⟩, v.check) else (joinB (v.parts 5), 0)
theorem print_len (a : Int) (m : Bool) : (printS a m).1.size ≤ 40 := by
  have h1 := itoa_len a
  have s2 : ∀ x y : UInt8, (⟨#[x, y]⟩ : ByteArray).size = 2 := fun _ _ => rfl
  have s1 : ∀ x : UInt8, (⟨#[x]⟩ : ByteArray).size = 1 := fun _ => rfl
  unfold printS
  split
  · exact Nat.zero_le _
  split
  · show (printM a).size ≤ 40
    unfold printM
    split
    · exact Nat.le_trans (itoa_len _) (by decide)
    · rw [ByteArray.size_append, s1]; omega
  · show (printG a).size ≤ 40
    unfold printG
    split
    · rw [ByteArray.size_append, s2]; have := itoa_len (Int.tdiv a 1073741824); omega
    split
    · rw [ByteArray.size_append, s2]; have := itoa_len (Int.tdiv a 1048576); omega
    split
    · rw [ByteArray.size_append, s2]; have := itoa_len (Int.tdiv a 1024); omega
    · omega
theorem lens_le (n : Nat) : ∀ xs : List ByteArray, (∀ x ∈ xs, x.size ≤ n) → Lib.lens (xs.map (·.data.toList)) ≤ n * xs.length
  | [], _ => Nat.zero_le _
  | x :: r, h => by
    have ih := lens_le n r (fun y hy => h y (.tail _ hy))
    have hx : x.data.toList.length ≤ n := h x (.head _)
    rw [List.map_cons, List.length_cons, Nat.mul_succ]
    show x.data.toList.length + Lib.lens _ ≤ _
    omega
theorem join_le (xs : List ByteArray) (h : ∀ x ∈ xs, x.size ≤ 46) (hl : xs.length ≤ 5) : (Lib.join (xs.map (·.data.toList)) [44]).length ≤ 140737488355328 := by
  cases xs with
  | nil => exact Nat.zero_le _
  | cons x r =>
    have h1 := lens_le 46 (x :: r) h
    rw [List.map_cons] at h1 ⊢
    rw [Lib.join_length]
    simp only [List.length_cons, List.length_map, List.length_nil] at *
    omega
theorem nm_len (k : Nat) : (nmB k).size ≤ 5 := by
  unfold nmB
  split <;> decide
theorem part_len (k : Nat) (n : Int) : (partB k n).size ≤ 46 := by
  unfold partB
  have h1 := print_len n (decide (k = 0))
  have h2 := nm_len k
  rw [ByteArray.size_append, ByteArray.size_append]
  have h3 : (⟨#[61]⟩ : ByteArray).size = 1 := rfl
  omega
theorem parts_len (v : V) : ∀ k, (v.parts k).length ≤ k ∧ ∀ x ∈ v.parts k, x.size ≤ 46
  | 0 => ⟨Nat.le_refl _, fun x h => by cases h⟩
  | k + 1 => by
    have ih := parts_len v k
    unfold V.parts
    split
    · refine ⟨by rw [List.length_append]; have := ih.1; simp; omega, fun x h => ?_⟩
      rcases List.mem_append.1 h with h | h
      · exact ih.2 x h
      · rw [List.mem_singleton.1 h]; exact part_len _ _
    · exact ⟨Nat.le_succ_of_le ih.1, ih.2⟩
theorem idx_0 (a b c d e : Int) (w : World) : (Instr.index 23 (.agg #[.int .i64 a, .int .i64 b, .int .i64 c, .int .i64 d, .int .i64 e]) (.int .i64 0)).run Tryd.prog w = .ok (.int .i64 a) w := by kernel_rfl
theorem idx_1 (a b c d e : Int) (w : World) : (Instr.index 23 (.agg #[.int .i64 a, .int .i64 b, .int .i64 c, .int .i64 d, .int .i64 e]) (.int .i64 1)).run Tryd.prog w = .ok (.int .i64 b) w := by kernel_rfl
theorem idx_2 (a b c d e : Int) (w : World) : (Instr.index 23 (.agg #[.int .i64 a, .int .i64 b, .int .i64 c, .int .i64 d, .int .i64 e]) (.int .i64 2)).run Tryd.prog w = .ok (.int .i64 c) w := by kernel_rfl
theorem idx_3 (a b c d e : Int) (w : World) : (Instr.index 23 (.agg #[.int .i64 a, .int .i64 b, .int .i64 c, .int .i64 d, .int .i64 e]) (.int .i64 3)).run Tryd.prog w = .ok (.int .i64 d) w := by kernel_rfl
theorem idx_4 (a b c d e : Int) (w : World) : (Instr.index 23 (.agg #[.int .i64 a, .int .i64 b, .int .i64 c, .int .i64 d, .int .i64 e]) (.int .i64 4)).run Tryd.prog w = .ok (.int .i64 e) w := by kernel_rfl
theorem strings_Join_nil (w : World) : Calls Tryd.prog 37 #[.slice none 0 0, .string (⟨#[44]⟩ : ByteArray)] w fun e w' => e = .returned (.string ⟨#[]⟩) ∧ w = w' := by
  go_enter Tryd.func37, Tryd.ntmps37
  go_wp2_with fail
  go_ret
  exact ⟨rfl, rfl⟩
set_option maxRecDepth 100000 in
set_option maxHeartbeats 4000000 in
theorem print_c (a b c d e : Int) (w : World) (hT : Tb w) (hN : Nm w) (hb64 : ∀ k, -9223372036854775808 ≤ V.get ⟨a, b, c, d, e⟩ k ∧ V.get ⟨a, b, c, d, e⟩ k ≤ 9223372036854775807) :
    Calls Tryd.prog 15 #[.agg #[.int .i64 a, .int .i64 b, .int .i64 c, .int .i64 d, .int .i64 e]] w fun e_ w' => e_ = .returned (.tuple #[.string (V.print ⟨a, b, c, d, e⟩).1, .int .i64 (V.print ⟨a, b, c, d, e⟩).2]) ∧ Below w.heap.size w w' := by
  obtain ⟨g, hg⟩ : ∃ g, w.heap.size = g := ⟨_, rfl⟩
  obtain ⟨W0, hW0⟩ : ∃ W, w.alloc (.cells #[.int .i64 a, .int .i64 b, .int .i64 c, .int .i64 d, .int .i64 e] 23) = W := ⟨_, rfl⟩
  have a0_ : At W0 g a b c d e := by rw [← hW0, ← hg]; exact At.new _ _ _ _ _ _
  have b0_ : Below g w W0 := by rw [← hW0, ← hg]; exact below_alloc (Below.refl _ _) _
  have CH := Aside0.mk (check_c a b c d e)
  obtain ⟨vv, hv⟩ : ∃ v : V, ⟨a, b, c, d, e⟩ = v := ⟨_, rfl⟩
  obtain ⟨R, hR⟩ : ∃ R, V.print ⟨a, b, c, d, e⟩ = R := ⟨_, rfl⟩
  rw [hR]
  unfold V.print at hR
  obtain ⟨q, hq⟩ : ∃ q, V.check ⟨a, b, c, d, e⟩ = q := ⟨_, rfl⟩
  rw [hq] at CH hR
  rw [hv] at hR hb64
  have HB64 := Aside0.mk hb64
  have HV := Aside0.mk hv
  have HTN := Aside0.mk (And.intro hT hN)
  clear hq hv hb64 hT hN
  have R0 := Aside0.mk hR
  clear hR
  have k0_ := a0_.cell_0
  have k1_ := a0_.cell_1
  have k2_ := a0_.cell_2
  have k3_ := a0_.cell_3
  have k4_ := a0_.cell_4
  go_enter Tryd.func15, Tryd.ntmps15
  go_wp2_with fail
  refine (CH.out _).mono ?_
  rintro _ V0 ⟨rfl, hb⟩
  have b1_ := bk b0_ (Nat.le_of_lt a0_.lt) hb
  have a1_ := a0_.below hb
  clear k0_ k1_ k2_ k3_ k4_ b0_ a0_ hb CH
  by_cases hq : q ≠ 0
  · have hr := R0.out
    rw [if_pos hq] at hr
    subst hr
    have hqb : (q != 0) = true := bne_iff_ne.mpr hq
    clear hq R0
    go_wp2_with fail
    go_ret2
    exact ⟨rfl, by first | exact b1_ | exact below_is hg b1_⟩
  have R1 := Aside0.mk ((if_neg hq).symm.trans R0.out)
  have hqb : (q != 0) = false := by simpa using hq
  clear hq R0
  have k0_ := a1_.cell_0
  have k1_ := a1_.cell_1
  have k2_ := a1_.cell_2
  have k3_ := a1_.cell_3
  have k4_ := a1_.cell_4
  have HI := Aside0.mk (And.intro (And.intro (HTN.out.1.up (hg ▸ b1_)) (HTN.out.2.up (hg ▸ b1_))) b1_)
  clear b1_ a1_
  go_wp2_with fail
  clear k0_ k1_ k2_ k3_ k4_ hqb hW0
  go_loopw [5, 16] (fun v u wr => ∃ k : Nat, k ≤ 5 ∧ u = .int .i64 k ∧ Aside0 (Kd.R Kd.string 9 wr g (fun _ => True) v (vv.parts k)) ∧ Aside0 ((Tb wr ∧ Nm wr) ∧ Below g w wr) ∧ Aside0 (vv.parts k = [] → v = .slice none 0 0)) (fun _ u _ => 5 - (intOf u).toNat)
  case atStart => exact ⟨0, Nat.zero_le _, rfl, ⟨Kd.R_nil _ _ _ _ _⟩, HI, ⟨fun _ => rfl⟩⟩
  case round =>
    obtain ⟨k, hk, rfl, HO, HB, HNL⟩ := hrel
    by_cases hlt : k < 5
    · have h5 : k = 0 ∨ k = 1 ∨ k = 2 ∨ k = 3 ∨ k = 4 := by omega
      obtain ⟨A6, c6, e6⟩ := Kd.R_slice HO.out
      subst e6
      rcases h5 with rfl | rfl | rfl | rfl | rfl
      · have ix_ := fun w => idx_0 a b c d e w
        have hx0 : vv.get 0 = a := by rw [← HV.out]; rfl
        have hst : vv.parts (0 + 1) = if 0 < a then vv.parts 0 ++ [partB 0 a] else vv.parts 0 := by rw [← hx0]; rfl
        by_cases hx : a > 0
        · rw [if_pos hx] at hst
          have h1_ := HB.out.1.2.at_ 0 (by decide)
          obtain ⟨p, hp⟩ : ∃ p, nmB 0 = p := ⟨_, rfl⟩
          obtain ⟨s, hs⟩ : ∃ s, (printS a true).1 = s := ⟨_, rfl⟩
          obtain ⟨es, hes⟩ : ∃ s, (printS a true).2 = s := ⟨_, rfl⟩
          have hpt : partB 0 a = p ++ (⟨#[61]⟩ : ByteArray) ++ s := by rw [← hp, ← hs]; rfl
          have hpl : p.size ≤ 5 := by rw [← hp]; exact nm_len 0
          have hsl : s.size ≤ 40 := by rw [← hs]; exact print_len _ _
          have s1 : p.size + 1 ≤ 9223372036854775807 := by omega
          have s2 : (p ++ (⟨#[61]⟩ : ByteArray)).size + s.size ≤ 9223372036854775807 := by rw [ByteArray.size_append]; show p.size + 1 + _ ≤ _; omega
          have PC := Aside0.mk (fun W (hT : Tb W) => quant_Print.calls 7 a true s es W ((Print_f a true (by rw [← hx0]; exact HB64.out 0) 1).trans (by rw [← hs, ← hes])) hT)
          rw [hpt] at hst
          rw [hp] at h1_
          have HST := Aside0.mk hst
          have HPN := Aside0.mk hp
          clear hst hpt hpl hsl hp hs hes
          have hpl := (parts_len vv 0).1
          have HL := Aside0.mk hpl
          clear hpl
          go_wp2_with fail
          refine (PC.out _ HB.out.1.1).mono ?_
          rintro _ W2 ⟨rfl, hb⟩
          have HB2 := Aside0.mk (And.intro (And.intro (HB.out.1.1.up hb) (HB.out.1.2.up hb)) (bk HB.out.2 (hg ▸ HB.out.2.size) hb))
          have HO2 := Aside0.mk (Kd.R_below HO.out hb)
          clear hb HB HO h1_ HNL
          have h1_ := HB2.out.1.2.at_ 0 (by decide)
          rw [HPN.out] at h1_
          have hz : g ≤ W2.heap.size := hg ▸ HB2.out.2.size
          go_wp2_with ((at_builtin; refine Kd.R_append Kd.string (w0 := w) g rfl (.tmp 29) (.tmp 36) 54 9 (.string ⟨#[]⟩) 16 rfl Tryd.underlying54 info9 rfl (by decide) (by decide) (.slice A6 (vv.parts 0).length c6) (vv.parts 0) (p ++ (⟨#[61]⟩ : ByteArray) ++ s) [.string (p ++ (⟨#[61]⟩ : ByteArray) ++ s)] (fun _ => True) (fun _ => False) ?aE rfl rfl (fun _ h => h.elim) (fun _ _ => trivial) HO2.out HB2.out.2 hz (by have := HL.out; omega) ?_; (case aE => first | rfl | (go_simp; done) | (simp; done)); intro v7 W7 HV7 HB7 hg7 hat7))
          have HO7 : Aside0 (Kd.R Kd.string 9 W7 g (fun _ => True) v7 (vv.parts (0 + 1))) := ⟨by rw [HST.out]; exact HV7⟩
          have HB8 := Aside0.mk (And.intro (And.intro (HTN.out.1.up (hg ▸ HB7)) (HTN.out.2.up (hg ▸ HB7))) HB7)
          have HN8 : Aside0 (vv.parts (0 + 1) = [] → v7 = .slice none 0 0) := ⟨fun h => by rw [HST.out] at h; simp at h⟩
          clear HV7 HB7 hg7 hat7 HB2 HO2 hz
          go_roundw
          case rel => exact ⟨0 + 1, by omega, by go_num, HO7, HB8, HN8⟩
          case measure => simp [intOf]
        · rw [if_neg hx] at hst
          have HST := Aside0.mk hst
          have hxb : decide (a > 0) = false := decide_eq_false hx
          clear hst hx
          go_wp2_with fail
          go_roundw
          case rel => exact ⟨0 + 1, by omega, by go_num, ⟨by rw [HST.out]; exact HO.out⟩, HB, ⟨by rw [HST.out]; exact HNL.out⟩⟩
          case measure => simp [intOf]
      · have ix_ := fun w => idx_1 a b c d e w
        have hx0 : vv.get 1 = b := by rw [← HV.out]; rfl
        have hst : vv.parts (1 + 1) = if 0 < b then vv.parts 1 ++ [partB 1 b] else vv.parts 1 := by rw [← hx0]; rfl
        by_cases hx : b > 0
        · rw [if_pos hx] at hst
          have h1_ := HB.out.1.2.at_ 1 (by decide)
          obtain ⟨p, hp⟩ : ∃ p, nmB 1 = p := ⟨_, rfl⟩
          obtain ⟨s, hs⟩ : ∃ s, (printS b false).1 = s := ⟨_, rfl⟩
          obtain ⟨es, hes⟩ : ∃ s, (printS b false).2 = s := ⟨_, rfl⟩
          have hpt : partB 1 b = p ++ (⟨#[61]⟩ : ByteArray) ++ s := by rw [← hp, ← hs]; rfl
          have hpl : p.size ≤ 5 := by rw [← hp]; exact nm_len 1
          have hsl : s.size ≤ 40 := by rw [← hs]; exact print_len _ _
          have s1 : p.size + 1 ≤ 9223372036854775807 := by omega
          have s2 : (p ++ (⟨#[61]⟩ : ByteArray)).size + s.size ≤ 9223372036854775807 := by rw [ByteArray.size_append]; show p.size + 1 + _ ≤ _; omega
          have PC := Aside0.mk (fun W (hT : Tb W) => quant_Print.calls 7 b false s es W ((Print_f b false (by rw [← hx0]; exact HB64.out 1) 1).trans (by rw [← hs, ← hes])) hT)
          rw [hpt] at hst
          rw [hp] at h1_
          have HST := Aside0.mk hst
          have HPN := Aside0.mk hp
          clear hst hpt hpl hsl hp hs hes
          have hpl := (parts_len vv 1).1
          have HL := Aside0.mk hpl
          clear hpl
          go_wp2_with fail
          refine (PC.out _ HB.out.1.1).mono ?_
          rintro _ W2 ⟨rfl, hb⟩
          have HB2 := Aside0.mk (And.intro (And.intro (HB.out.1.1.up hb) (HB.out.1.2.up hb)) (bk HB.out.2 (hg ▸ HB.out.2.size) hb))
          have HO2 := Aside0.mk (Kd.R_below HO.out hb)
          clear hb HB HO h1_ HNL
          have h1_ := HB2.out.1.2.at_ 1 (by decide)
          rw [HPN.out] at h1_
          have hz : g ≤ W2.heap.size := hg ▸ HB2.out.2.size
          go_wp2_with ((at_builtin; refine Kd.R_append Kd.string (w0 := w) g rfl (.tmp 29) (.tmp 36) 54 9 (.string ⟨#[]⟩) 16 rfl Tryd.underlying54 info9 rfl (by decide) (by decide) (.slice A6 (vv.parts 1).length c6) (vv.parts 1) (p ++ (⟨#[61]⟩ : ByteArray) ++ s) [.string (p ++ (⟨#[61]⟩ : ByteArray) ++ s)] (fun _ => True) (fun _ => False) ?aE rfl rfl (fun _ h => h.elim) (fun _ _ => trivial) HO2.out HB2.out.2 hz (by have := HL.out; omega) ?_; (case aE => first | rfl | (go_simp; done) | (simp; done)); intro v7 W7 HV7 HB7 hg7 hat7))
          have HO7 : Aside0 (Kd.R Kd.string 9 W7 g (fun _ => True) v7 (vv.parts (1 + 1))) := ⟨by rw [HST.out]; exact HV7⟩
          have HB8 := Aside0.mk (And.intro (And.intro (HTN.out.1.up (hg ▸ HB7)) (HTN.out.2.up (hg ▸ HB7))) HB7)
          have HN8 : Aside0 (vv.parts (1 + 1) = [] → v7 = .slice none 0 0) := ⟨fun h => by rw [HST.out] at h; simp at h⟩
          clear HV7 HB7 hg7 hat7 HB2 HO2 hz
          go_roundw
          case rel => exact ⟨1 + 1, by omega, by go_num, HO7, HB8, HN8⟩
          case measure => simp [intOf]
        · rw [if_neg hx] at hst
          have HST := Aside0.mk hst
          have hxb : decide (b > 0) = false := decide_eq_false hx
          clear hst hx
          go_wp2_with fail
          go_roundw
          case rel => exact ⟨1 + 1, by omega, by go_num, ⟨by rw [HST.out]; exact HO.out⟩, HB, ⟨by rw [HST.out]; exact HNL.out⟩⟩
          case measure => simp [intOf]
      · have ix_ := fun w => idx_2 a b c d e w
        have hx0 : vv.get 2 = c := by rw [← HV.out]; rfl
        have hst : vv.parts (2 + 1) = if 0 < c then vv.parts 2 ++ [partB 2 c] else vv.parts 2 := by rw [← hx0]; rfl
        by_cases hx : c > 0
        · rw [if_pos hx] at hst
          have h1_ := HB.out.1.2.at_ 2 (by decide)
          obtain ⟨p, hp⟩ : ∃ p, nmB 2 = p := ⟨_, rfl⟩
          obtain ⟨s, hs⟩ : ∃ s, (printS c false).1 = s := ⟨_, rfl⟩
          obtain ⟨es, hes⟩ : ∃ s, (printS c false).2 = s := ⟨_, rfl⟩
          have hpt : partB 2 c = p ++ (⟨#[61]⟩ : ByteArray) ++ s := by rw [← hp, ← hs]; rfl
          have hpl : p.size ≤ 5 := by rw [← hp]; exact nm_len 2
          have hsl : s.size ≤ 40 := by rw [← hs]; exact print_len _ _
          have s1 : p.size + 1 ≤ 9223372036854775807 := by omega
          have s2 : (p ++ (⟨#[61]⟩ : ByteArray)).size + s.size ≤ 9223372036854775807 := by rw [ByteArray.size_append]; show p.size + 1 + _ ≤ _; omega
          have PC := Aside0.mk (fun W (hT : Tb W) => quant_Print.calls 7 c false s es W ((Print_f c false (by rw [← hx0]; exact HB64.out 2) 1).trans (by rw [← hs, ← hes])) hT)
          rw [hpt] at hst
          rw [hp] at h1_
          have HST := Aside0.mk hst
          have HPN := Aside0.mk hp
          clear hst hpt hpl hsl hp hs hes
          have hpl := (parts_len vv 2).1
          have HL := Aside0.mk hpl
          clear hpl
          go_wp2_with fail
          refine (PC.out _ HB.out.1.1).mono ?_
          rintro _ W2 ⟨rfl, hb⟩
          have HB2 := Aside0.mk (And.intro (And.intro (HB.out.1.1.up hb) (HB.out.1.2.up hb)) (bk HB.out.2 (hg ▸ HB.out.2.size) hb))
          have HO2 := Aside0.mk (Kd.R_below HO.out hb)
          clear hb HB HO h1_ HNL
          have h1_ := HB2.out.1.2.at_ 2 (by decide)
          rw [HPN.out] at h1_
          have hz : g ≤ W2.heap.size := hg ▸ HB2.out.2.size
          go_wp2_with ((at_builtin; refine Kd.R_append Kd.string (w0 := w) g rfl (.tmp 29) (.tmp 36) 54 9 (.string ⟨#[]⟩) 16 rfl Tryd.underlying54 info9 rfl (by decide) (by decide) (.slice A6 (vv.parts 2).length c6) (vv.parts 2) (p ++ (⟨#[61]⟩ : ByteArray) ++ s) [.string (p ++ (⟨#[61]⟩ : ByteArray) ++ s)] (fun _ => True) (fun _ => False) ?aE rfl rfl (fun _ h => h.elim) (fun _ _ => trivial) HO2.out HB2.out.2 hz (by have := HL.out; omega) ?_; (case aE => first | rfl | (go_simp; done) | (simp; done)); intro v7 W7 HV7 HB7 hg7 hat7))
          have HO7 : Aside0 (Kd.R Kd.string 9 W7 g (fun _ => True) v7 (vv.parts (2 + 1))) := ⟨by rw [HST.out]; exact HV7⟩
          have HB8 := Aside0.mk (And.intro (And.intro (HTN.out.1.up (hg ▸ HB7)) (HTN.out.2.up (hg ▸ HB7))) HB7)
          have HN8 : Aside0 (vv.parts (2 + 1) = [] → v7 = .slice none 0 0) := ⟨fun h => by rw [HST.out] at h; simp at h⟩
          clear HV7 HB7 hg7 hat7 HB2 HO2 hz
          go_roundw
          case rel => exact ⟨2 + 1, by omega, by go_num, HO7, HB8, HN8⟩
          case measure => simp [intOf]
        · rw [if_neg hx] at hst
          have HST := Aside0.mk hst
          have hxb : decide (c > 0) = false := decide_eq_false hx
          clear hst hx
          go_wp2_with fail
          go_roundw
          case rel => exact ⟨2 + 1, by omega, by go_num, ⟨by rw [HST.out]; exact HO.out⟩, HB, ⟨by rw [HST.out]; exact HNL.out⟩⟩
          case measure => simp [intOf]
      · have ix_ := fun w => idx_3 a b c d e w
        have hx0 : vv.get 3 = d := by rw [← HV.out]; rfl
        have hst : vv.parts (3 + 1) = if 0 < d then vv.parts 3 ++ [partB 3 d] else vv.parts 3 := by rw [← hx0]; rfl
        by_cases hx : d > 0
        · rw [if_pos hx] at hst
          have h1_ := HB.out.1.2.at_ 3 (by decide)
          obtain ⟨p, hp⟩ : ∃ p, nmB 3 = p := ⟨_, rfl⟩
          obtain ⟨s, hs⟩ : ∃ s, (printS d false).1 = s := ⟨_, rfl⟩
          obtain ⟨es, hes⟩ : ∃ s, (printS d false).2 = s := ⟨_, rfl⟩
          have hpt : partB 3 d = p ++ (⟨#[61]⟩ : ByteArray) ++ s := by rw [← hp, ← hs]; rfl
          have hpl : p.size ≤ 5 := by rw [← hp]; exact nm_len 3
          have hsl : s.size ≤ 40 := by rw [← hs]; exact print_len _ _
          have s1 : p.size + 1 ≤ 9223372036854775807 := by omega
          have s2 : (p ++ (⟨#[61]⟩ : ByteArray)).size + s.size ≤ 9223372036854775807 := by rw [ByteArray.size_append]; show p.size + 1 + _ ≤ _; omega
          have PC := Aside0.mk (fun W (hT : Tb W) => quant_Print.calls 7 d false s es W ((Print_f d false (by rw [← hx0]; exact HB64.out 3) 1).trans (by rw [← hs, ← hes])) hT)
          rw [hpt] at hst
          rw [hp] at h1_
          have HST := Aside0.mk hst
          have HPN := Aside0.mk hp
          clear hst hpt hpl hsl hp hs hes
          have hpl := (parts_len vv 3).1
          have HL := Aside0.mk hpl
          clear hpl
          go_wp2_with fail
          refine (PC.out _ HB.out.1.1).mono ?_
          rintro _ W2 ⟨rfl, hb⟩
          have HB2 := Aside0.mk (And.intro (And.intro (HB.out.1.1.up hb) (HB.out.1.2.up hb)) (bk HB.out.2 (hg ▸ HB.out.2.size) hb))
          have HO2 := Aside0.mk (Kd.R_below HO.out hb)
          clear hb HB HO h1_ HNL
          have h1_ := HB2.out.1.2.at_ 3 (by decide)
          rw [HPN.out] at h1_
          have hz : g ≤ W2.heap.size := hg ▸ HB2.out.2.size
          go_wp2_with ((at_builtin; refine Kd.R_append Kd.string (w0 := w) g rfl (.tmp 29) (.tmp 36) 54 9 (.string ⟨#[]⟩) 16 rfl Tryd.underlying54 info9 rfl (by decide) (by decide) (.slice A6 (vv.parts 3).length c6) (vv.parts 3) (p ++ (⟨#[61]⟩ : ByteArray) ++ s) [.string (p ++ (⟨#[61]⟩ : ByteArray) ++ s)] (fun _ => True) (fun _ => False) ?aE rfl rfl (fun _ h => h.elim) (fun _ _ => trivial) HO2.out HB2.out.2 hz (by have := HL.out; omega) ?_; (case aE => first | rfl | (go_simp; done) | (simp; done)); intro v7 W7 HV7 HB7 hg7 hat7))
          have HO7 : Aside0 (Kd.R Kd.string 9 W7 g (fun _ => True) v7 (vv.parts (3 + 1))) := ⟨by rw [HST.out]; exact HV7⟩
          have HB8 := Aside0.mk (And.intro (And.intro (HTN.out.1.up (hg ▸ HB7)) (HTN.out.2.up (hg ▸ HB7))) HB7)
          have HN8 : Aside0 (vv.parts (3 + 1) = [] → v7 = .slice none 0 0) := ⟨fun h => by rw [HST.out] at h; simp at h⟩
          clear HV7 HB7 hg7 hat7 HB2 HO2 hz
          go_roundw
          case rel => exact ⟨3 + 1, by omega, by go_num, HO7, HB8, HN8⟩
          case measure => simp [intOf]
        · rw [if_neg hx] at hst
          have HST := Aside0.mk hst
          have hxb : decide (d > 0) = false := decide_eq_false hx
          clear hst hx
          go_wp2_with fail
          go_roundw
          case rel => exact ⟨3 + 1, by omega, by go_num, ⟨by rw [HST.out]; exact HO.out⟩, HB, ⟨by rw [HST.out]; exact HNL.out⟩⟩
          case measure => simp [intOf]
      · have ix_ := fun w => idx_4 a b c d e w
        have hx0 : vv.get 4 = e := by rw [← HV.out]; rfl
        have hst : vv.parts (4 + 1) = if 0 < e then vv.parts 4 ++ [partB 4 e] else vv.parts 4 := by rw [← hx0]; rfl
        by_cases hx : e > 0
        · rw [if_pos hx] at hst
          have h1_ := HB.out.1.2.at_ 4 (by decide)
          obtain ⟨p, hp⟩ : ∃ p, nmB 4 = p := ⟨_, rfl⟩
          obtain ⟨s, hs⟩ : ∃ s, (printS e false).1 = s := ⟨_, rfl⟩
          obtain ⟨es, hes⟩ : ∃ s, (printS e false).2 = s := ⟨_, rfl⟩
          have hpt : partB 4 e = p ++ (⟨#[61]⟩ : ByteArray) ++ s := by rw [← hp, ← hs]; rfl
          have hpl : p.size ≤ 5 := by rw [← hp]; exact nm_len 4
          have hsl : s.size ≤ 40 := by rw [← hs]; exact print_len _ _
          have s1 : p.size + 1 ≤ 9223372036854775807 := by omega
          have s2 : (p ++ (⟨#[61]⟩ : ByteArray)).size + s.size ≤ 9223372036854775807 := by rw [ByteArray.size_append]; show p.size + 1 + _ ≤ _; omega
          have PC := Aside0.mk (fun W (hT : Tb W) => quant_Print.calls 7 e false s es W ((Print_f e false (by rw [← hx0]; exact HB64.out 4) 1).trans (by rw [← hs, ← hes])) hT)
          rw [hpt] at hst
          rw [hp] at h1_
          have HST := Aside0.mk hst
          have HPN := Aside0.mk hp
          clear hst hpt hpl hsl hp hs hes
          have hpl := (parts_len vv 4).1
          have HL := Aside0.mk hpl
          clear hpl
          go_wp2_with fail
          refine (PC.out _ HB.out.1.1).mono ?_
          rintro _ W2 ⟨rfl, hb⟩
          have HB2 := Aside0.mk (And.intro (And.intro (HB.out.1.1.up hb) (HB.out.1.2.up hb)) (bk HB.out.2 (hg ▸ HB.out.2.size) hb))
          have HO2 := Aside0.mk (Kd.R_below HO.out hb)
          clear hb HB HO h1_ HNL
          have h1_ := HB2.out.1.2.at_ 4 (by decide)
          rw [HPN.out] at h1_
          have hz : g ≤ W2.heap.size := hg ▸ HB2.out.2.size
          go_wp2_with ((at_builtin; refine Kd.R_append Kd.string (w0 := w) g rfl (.tmp 29) (.tmp 36) 54 9 (.string ⟨#[]⟩) 16 rfl Tryd.underlying54 info9 rfl (by decide) (by decide) (.slice A6 (vv.parts 4).length c6) (vv.parts 4) (p ++ (⟨#[61]⟩ : ByteArray) ++ s) [.string (p ++ (⟨#[61]⟩ : ByteArray) ++ s)] (fun _ => True) (fun _ => False) ?aE rfl rfl (fun _ h => h.elim) (fun _ _ => trivial) HO2.out HB2.out.2 hz (by have := HL.out; omega) ?_; (case aE => first | rfl | (go_simp; done) | (simp; done)); intro v7 W7 HV7 HB7 hg7 hat7))
          have HO7 : Aside0 (Kd.R Kd.string 9 W7 g (fun _ => True) v7 (vv.parts (4 + 1))) := ⟨by rw [HST.out]; exact HV7⟩
          have HB8 := Aside0.mk (And.intro (And.intro (HTN.out.1.up (hg ▸ HB7)) (HTN.out.2.up (hg ▸ HB7))) HB7)
          have HN8 : Aside0 (vv.parts (4 + 1) = [] → v7 = .slice none 0 0) := ⟨fun h => by rw [HST.out] at h; simp at h⟩
          clear HV7 HB7 hg7 hat7 HB2 HO2 hz
          go_roundw
          case rel => exact ⟨4 + 1, by omega, by go_num, HO7, HB8, HN8⟩
          case measure => simp [intOf]
        · rw [if_neg hx] at hst
          have HST := Aside0.mk hst
          have hxb : decide (e > 0) = false := decide_eq_false hx
          clear hst hx
          go_wp2_with fail
          go_roundw
          case rel => exact ⟨4 + 1, by omega, by go_num, ⟨by rw [HST.out]; exact HO.out⟩, HB, ⟨by rw [HST.out]; exact HNL.out⟩⟩
          case measure => simp [intOf]
    · obtain rfl : k = 5 := by omega
      have hj := R1.out
      obtain ⟨xs, hxs⟩ : ∃ xs, vv.parts 5 = xs := ⟨_, rfl⟩
      have hpl := parts_len vv 5
      rw [hxs] at hj HO HNL hpl
      unfold joinB at hj
      obtain ⟨res, hres⟩ : ∃ res, (⟨(Lib.join (xs.map (·.data.toList)) [44]).toArray⟩ : ByteArray) = res := ⟨_, rfl⟩
      rw [hres] at hj
      have HE := Aside0.mk hres
      have HJ := Aside0.mk hpl
      subst hj
      clear hres hpl hxs
      by_cases hn : xs = []
      · have hv := HNL.out hn
        have he : res = ⟨#[]⟩ := by rw [← HE.out, hn]; rfl
        subst hv
        clear HNL HE HO
        subst hn
        subst he
        go_wp2_with fail
        refine (strings_Join_nil _).mono ?_
        rintro _ W2 ⟨rfl, rfl⟩
        go_wp2_with fail
        go_ret2
        exact ⟨rfl, by first | exact HB.out.2 | exact below_is hg HB.out.2⟩
      · have hpos : 0 < xs.length := List.length_pos_iff.2 hn
        obtain ⟨inner, ho⟩ := Kd.R_own HO.out
        obtain ⟨gp, cap, hv, _, hgl⟩ := ho.form hpos
        have hv2 : u5 = .slice (some ⟨gp, 0, none⟩) xs.length cap := hv
        subst hv2
        have hC := Kd.R_reads' HO.out
        have hcells : ∀ (j : Nat) x, xs[j]? = some x → wr.cell? ⟨gp, 0 + j, none⟩ = some (.string x) := by
          intro j x hx
          have hjl : j < xs.length := (List.getElem?_eq_some_iff.1 hx).1
          obtain ⟨ad, c, ea, _, hK, hc0⟩ := Kd.C_get hC.2.2 (⟨#[]⟩ : ByteArray) (j : Int) (by omega) (by omega)
          cases ea
          have hc1 : c = [.string (xs.getD (j : Int).toNat ⟨#[]⟩)] := hK
          subst hc1
          have h2 := hc0 0 _ rfl
          rw [Int.toNat_natCast, List.getD_eq_getElem?_getD, hx] at h2
          by_cases hj0 : j = 0
          · subst hj0; simpa [Addr.add, Kd.string, Kd.scalar] using h2
          · simpa [Addr.add, Kd.string, Kd.scalar, hj0] using h2
        have HX := Aside0.mk (And.intro hcells (And.intro hgl hC.2.1))
        clear hcells hC hv ho HO HNL
        go_wp2_with fail
        refine (Tryd.strings_Join gp 0 cap xs ⟨#[44]⟩ _ HX.out.1 HX.out.2.1 (by have := HJ.out.1; omega) HX.out.2.2 (join_le xs HJ.out.2 HJ.out.1)).mono ?_
        rintro _ W2 ⟨rfl, hb⟩
        have HB2 := Aside0.mk (bk HB.out.2 (hg ▸ HB.out.2.size) hb)
        have hE : (⟨(Lib.join (xs.map (·.data.toList)) (⟨#[44]⟩ : ByteArray).data.toList).toArray⟩ : ByteArray) = res := HE.out
        rw [hE]
        clear hE hb HX HB HE
        go_wp2_with fail
        go_ret2
        exact ⟨rfl, by first | exact HB2.out | exact below_is hg HB2.out⟩
end Go.Proofs.YtceepgleeelohaaDoor.P
