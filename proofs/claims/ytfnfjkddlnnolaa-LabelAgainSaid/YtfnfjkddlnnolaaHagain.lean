import Derived.Test.YtfnfjkddlnnolaaHread
import Derived.Test.YtfnfjkddlnnolaaHcheck
import Derived.Test.YtfnfjkddlnnolaaHprint
import Derived.Test.YtfnfjkddlnnolaaPf25
import Derived.Test.YtfnfjkddlnnolaaPf16
namespace Go.Proofs.Ytfnfjkddlnnolaa.P
set_option linter.unusedVariables false
set_option linter.unusedSimpArgs false
open Go.RowKit Go.Proofs.YtfnfjkddlnnolaaW.PrintWords Go.Proofs.YtfnfjkddlnnolaaW.PrintLast Go.Proofs.YtfnfjkddlnnolaaW.PrintMore
attribute [local go_sem] max2_int min2_int max_two min_two max_three min_three max_four min_four
structure Fine {α : Type} (t : ByteArray) (pf : List α → Option ByteArray) (cf : List α → Option Int) (l : List α) (a e : Int) : Prop where
 a0 : 0 ≤ a
 a1 : a ≤ (t.size : Int)
 tr : e = 3 → a = (t.size : Int)
 p : e = 0 → pf l = some t
 c : e = 0 → cf l = some 0
 z : e = 0 → a = 0
 n : e ≠ 0 → l = []
set_option maxRecDepth 100000 in
set_option maxHeartbeats 8000000 in
theorem again_walk (a0 t : ByteArray) (ha : a0.size ≤ 140737488351232) (ht : a0.extract 0 (mn (a0.size : Int) 300).toNat = t) (k : Nat) (l1 : List S43) (a1 e1 : Int) (l2 : List S43) (a2 e2 : Int) (l3 : List S38) (a3 e3 : Int)
  (h1 : label_Labels.f t = some (l1, a1, e1)) (h2 : label_Borne.f t = some (l2, a2, e2)) (h3 : label_Terms.f t = some (l3, a3, e3))
  (f1 : Fine t label_Print.f label_Check.f l1 a1 e1) (f2 : Fine t label_Print.f label_CheckBears.f l2 a2 e2) (f3 : Fine t label_PrintTerms.f (label_CheckTerms.f k) l3 a3 e3) (w : World) :
  Calls Try.prog 7 #[.string a0] w fun e w' => e = .returned (.bool true) ∧ Below w.heap.size w w' := by
 obtain ⟨ji2, hji2⟩ : ∃ j_ : Int, (mn (a0.size : Int) 300) = j_ := ⟨_, rfl⟩
 rw [hji2] at ht
 have hji2h : ji2 ≤ 300 := by rw [← hji2]; unfold mn; (repeat' split) <;> omega
 have hji2l : 0 ≤ ji2 := by rw [← hji2]; unfold mn; (repeat' split) <;> omega
 have c4 : ji2 ≤ (a0.size : Int) := by rw [← hji2]; unfold mn; (repeat' split) <;> omega
 have hji2_ : (if 300 < (a0.size : Int) then 300 else (a0.size : Int)) = ji2 := hji2
 have c3b0 := eq_true hji2l
 have c3b1 : decide (0 ≤ ji2) = true := decide_eq_true hji2l
 have c4b0 := eq_true c4
 have c4b1 : decide (ji2 ≤ (a0.size : Int)) = true := decide_eq_true c4
 have HT := Aside0.mk ht
 clear ht
 have HB := Aside0.mk (Below.refl w.heap.size w)
 have A1 := Aside0.mk h1
 have A2 := Aside0.mk h2
 have A3 := Aside0.mk h3
 have F1 := Aside0.mk f1
 have F2 := Aside0.mk f2
 have F3 := Aside0.mk f3
 have WK : Aside0 (drayagelaw03_works.f 12 = some true) := ⟨works_f⟩
 clear h1 h2 h3 f1 f2 f3 hji2 c4 ha
 go_enter Try.func7, Try.ntmps7
 go_wp2_with fail
 rw [HT.out]
 refine (label_Labels.calls _ _ _ _ _ A1.out).mono ?_
 rintro _ W1 ⟨v1, rfl, ho1, hb1⟩
 obtain ⟨B1, d1, rfl⟩ := Kd.R_slice ho1
 have O1 := Aside0.mk (And.intro ho1 (below_step HB.out hb1))
 clear ho1 hb1 HB A1
 go_wp2_with fail
 refine (label_Borne.calls _ _ _ _ _ A2.out).mono ?_
 rintro _ W2 ⟨v2, rfl, ho2, hb2⟩
 obtain ⟨B2, d2, rfl⟩ := Kd.R_slice ho2
 have O2 := Aside0.mk (And.intro (Kd.R_below O1.out.1 hb2) (And.intro (Kd.R_lower ho2 O1.out.2.size) (below_step O1.out.2 hb2)))
 clear ho2 hb2 O1 A2
 go_wp2_with fail
 refine (label_Terms.calls _ _ _ _ _ A3.out).mono ?_
 rintro _ W3 ⟨v3, rfl, ho3, hb3⟩
 obtain ⟨B3, d3, rfl⟩ := Kd.R_slice ho3
 have O3 := Aside0.mk (And.intro (Kd.R_below O2.out.1 hb3) (And.intro (Kd.R_below O2.out.2.1 hb3) (And.intro (Kd.R_lower ho3 O2.out.2.2.size) (below_step O2.out.2.2 hb3))))
 clear ho3 hb3 O2 A3
 have sT : (t.toList != t.toList) = false := bne_eq_false_iff_eq.mpr rfl
 have g1 := F1.out.a0
 have g1b : decide (a1 ≥ 0) = true := decide_eq_true g1
 have g1c : decide (0 ≤ a1) = true := decide_eq_true g1
 have k1 : decide (a1 ≤ (t.size : Int)) = true := decide_eq_true F1.out.a1
 clear g1
 have g2 := F2.out.a0
 have g2b : decide (a2 ≥ 0) = true := decide_eq_true g2
 have g2c : decide (0 ≤ a2) = true := decide_eq_true g2
 have k2 : decide (a2 ≤ (t.size : Int)) = true := decide_eq_true F2.out.a1
 clear g2
 have g3 := F3.out.a0
 have g3b : decide (a3 ≥ 0) = true := decide_eq_true g3
 have g3c : decide (0 ≤ a3) = true := decide_eq_true g3
 have k3 : decide (a3 ≤ (t.size : Int)) = true := decide_eq_true F3.out.a1
 clear g3
 by_cases z1 : e1 = 0
 ·have b1 : ((e1 : Int) == 0) = true := by rw [z1]; rfl
  have c1 : ((a1 : Int) != 0) = false := by rw [F1.out.z z1]; rfl
  have P1 := Aside0.mk (F1.out.p z1)
  have C1 := Aside0.mk (F1.out.c z1)
  have n1 : ((e1 : Int) != 3) = true := by rw [z1]; rfl
  clear z1
  go_wp2_with fail
  refine (label_Print.calls _ _ l1 _ _ (Kd.R_reads' O3.out.1).2.2 (Kd.R_reads' O3.out.1).2.1 P1.out).mono ?_
  rintro _ W4 ⟨rfl, hb4⟩
  have O4 := Aside0.mk (And.intro (Kd.R_below O3.out.1 hb4) (And.intro (Kd.R_below O3.out.2.1 hb4) (And.intro (Kd.R_below O3.out.2.2.1 hb4) (below_step O3.out.2.2.2 hb4))))
  clear hb4 O3
  go_wp2_with fail
  refine (label_Check.calls _ _ l1 _ _ (Kd.R_reads' O4.out.1).2.2 (Kd.R_reads' O4.out.1).2.1 C1.out).mono ?_
  rintro _ W5 ⟨rfl, hb5⟩
  have O5 := Aside0.mk (And.intro (Kd.R_below O4.out.1 hb5) (And.intro (Kd.R_below O4.out.2.1 hb5) (And.intro (Kd.R_below O4.out.2.2.1 hb5) (below_step O4.out.2.2.2 hb5))))
  clear hb5 O4
  by_cases z2 : e2 = 0
  ·have b2 : ((e2 : Int) == 0) = true := by rw [z2]; rfl
   have c2 : ((a2 : Int) != 0) = false := by rw [F2.out.z z2]; rfl
   have P2 := Aside0.mk (F2.out.p z2)
   have C2 := Aside0.mk (F2.out.c z2)
   have n2 : ((e2 : Int) != 3) = true := by rw [z2]; rfl
   clear z2
   go_wp2_with fail
   refine (label_Print.calls _ _ l2 _ _ (Kd.R_reads' O5.out.2.1).2.2 (Kd.R_reads' O5.out.2.1).2.1 P2.out).mono ?_
   rintro _ W6 ⟨rfl, hb6⟩
   have O6 := Aside0.mk (And.intro (Kd.R_below O5.out.1 hb6) (And.intro (Kd.R_below O5.out.2.1 hb6) (And.intro (Kd.R_below O5.out.2.2.1 hb6) (below_step O5.out.2.2.2 hb6))))
   clear hb6 O5
   go_wp2_with fail
   refine (label_CheckBears.calls _ _ l2 _ _ (Kd.R_reads' O6.out.2.1).2.2 (Kd.R_reads' O6.out.2.1).2.1 C2.out).mono ?_
   rintro _ W7 ⟨rfl, hb7⟩
   have O7 := Aside0.mk (And.intro (Kd.R_below O6.out.1 hb7) (And.intro (Kd.R_below O6.out.2.1 hb7) (And.intro (Kd.R_below O6.out.2.2.1 hb7) (below_step O6.out.2.2.2 hb7))))
   clear hb7 O6
   by_cases z3 : e3 = 0
   ·have b3 : ((e3 : Int) == 0) = true := by rw [z3]; rfl
    have c3 : ((a3 : Int) != 0) = false := by rw [F3.out.z z3]; rfl
    have P3 := Aside0.mk (F3.out.p z3)
    have C3 := Aside0.mk (F3.out.c z3)
    have n3 : ((e3 : Int) != 3) = true := by rw [z3]; rfl
    clear z3
    go_wp2_with fail
    refine (label_PrintTerms.calls _ _ l3 _ _ (Kd.R_reads' O7.out.2.2.1).2.2 (Kd.R_reads' O7.out.2.2.1).2.1 P3.out).mono ?_
    rintro _ W8 ⟨rfl, hb8⟩
    have O8 := Aside0.mk (And.intro (Kd.R_below O7.out.1 hb8) (And.intro (Kd.R_below O7.out.2.1 hb8) (And.intro (Kd.R_below O7.out.2.2.1 hb8) (below_step O7.out.2.2.2 hb8))))
    clear hb8 O7
    go_wp2_with fail
    refine (label_CheckTerms.calls k _ _ l3 _ _ (Kd.R_reads' O8.out.2.2.1).2.2 (Kd.R_reads' O8.out.2.2.1).2.1 C3.out).mono ?_
    rintro _ W9 ⟨rfl, hb9⟩
    have O9 := Aside0.mk (And.intro (Kd.R_below O8.out.1 hb9) (And.intro (Kd.R_below O8.out.2.1 hb9) (And.intro (Kd.R_below O8.out.2.2.1 hb9) (below_step O8.out.2.2.2 hb9))))
    clear hb9 O8
    go_wp2_with fail
    refine (drayagelaw03_works.calls 12 true _ WK.out).mono ?_
    rintro _ WE ⟨rfl, hbE⟩
    have OE := Aside0.mk (below_step O9.out.2.2.2 hbE)
    clear hbE O9
    go_wp2_with fail
    go_ret
    exact ⟨rfl, OE.out⟩
   ·have b3 : ((e3 : Int) == 0) = false := beq_eq_false_iff_ne.mpr z3
    by_cases y3 : e3 = 3
    ·have n3 : ((e3 : Int) != 3) = false := by rw [y3]; rfl
     have m3 : ((a3 : Int) == (t.size : Int)) = true := by rw [F3.out.tr y3]; exact beq_self_eq_true _
     clear z3 y3
     go_wp2_with fail
     refine (drayagelaw03_works.calls 12 true _ WK.out).mono ?_
     rintro _ WE ⟨rfl, hbE⟩
     have OE := Aside0.mk (below_step O7.out.2.2.2 hbE)
     clear hbE O7
     go_wp2_with fail
     go_ret
     exact ⟨rfl, OE.out⟩
    ·have n3 : ((e3 : Int) != 3) = true := bne_iff_ne.mpr y3
     clear z3 y3
     go_wp2_with fail
     refine (drayagelaw03_works.calls 12 true _ WK.out).mono ?_
     rintro _ WE ⟨rfl, hbE⟩
     have OE := Aside0.mk (below_step O7.out.2.2.2 hbE)
     clear hbE O7
     go_wp2_with fail
     go_ret
     exact ⟨rfl, OE.out⟩
  ·have b2 : ((e2 : Int) == 0) = false := beq_eq_false_iff_ne.mpr z2
   clear z2
   by_cases z3 : e3 = 0
   ·have b3 : ((e3 : Int) == 0) = true := by rw [z3]; rfl
    have c3 : ((a3 : Int) != 0) = false := by rw [F3.out.z z3]; rfl
    have P3 := Aside0.mk (F3.out.p z3)
    have C3 := Aside0.mk (F3.out.c z3)
    have n3 : ((e3 : Int) != 3) = true := by rw [z3]; rfl
    clear z3
    go_wp2_with fail
    refine (label_PrintTerms.calls _ _ l3 _ _ (Kd.R_reads' O5.out.2.2.1).2.2 (Kd.R_reads' O5.out.2.2.1).2.1 P3.out).mono ?_
    rintro _ W10 ⟨rfl, hb10⟩
    have O10 := Aside0.mk (And.intro (Kd.R_below O5.out.1 hb10) (And.intro (Kd.R_below O5.out.2.1 hb10) (And.intro (Kd.R_below O5.out.2.2.1 hb10) (below_step O5.out.2.2.2 hb10))))
    clear hb10 O5
    go_wp2_with fail
    refine (label_CheckTerms.calls k _ _ l3 _ _ (Kd.R_reads' O10.out.2.2.1).2.2 (Kd.R_reads' O10.out.2.2.1).2.1 C3.out).mono ?_
    rintro _ W11 ⟨rfl, hb11⟩
    have O11 := Aside0.mk (And.intro (Kd.R_below O10.out.1 hb11) (And.intro (Kd.R_below O10.out.2.1 hb11) (And.intro (Kd.R_below O10.out.2.2.1 hb11) (below_step O10.out.2.2.2 hb11))))
    clear hb11 O10
    go_wp2_with fail
    refine (drayagelaw03_works.calls 12 true _ WK.out).mono ?_
    rintro _ WE ⟨rfl, hbE⟩
    have OE := Aside0.mk (below_step O11.out.2.2.2 hbE)
    clear hbE O11
    go_wp2_with fail
    go_ret
    exact ⟨rfl, OE.out⟩
   ·have b3 : ((e3 : Int) == 0) = false := beq_eq_false_iff_ne.mpr z3
    by_cases y3 : e3 = 3
    ·have n3 : ((e3 : Int) != 3) = false := by rw [y3]; rfl
     have m3 : ((a3 : Int) == (t.size : Int)) = true := by rw [F3.out.tr y3]; exact beq_self_eq_true _
     clear z3 y3
     go_wp2_with fail
     refine (drayagelaw03_works.calls 12 true _ WK.out).mono ?_
     rintro _ WE ⟨rfl, hbE⟩
     have OE := Aside0.mk (below_step O5.out.2.2.2 hbE)
     clear hbE O5
     go_wp2_with fail
     go_ret
     exact ⟨rfl, OE.out⟩
    ·have n3 : ((e3 : Int) != 3) = true := bne_iff_ne.mpr y3
     clear z3 y3
     go_wp2_with fail
     refine (drayagelaw03_works.calls 12 true _ WK.out).mono ?_
     rintro _ WE ⟨rfl, hbE⟩
     have OE := Aside0.mk (below_step O5.out.2.2.2 hbE)
     clear hbE O5
     go_wp2_with fail
     go_ret
     exact ⟨rfl, OE.out⟩
 ·have b1 : ((e1 : Int) == 0) = false := beq_eq_false_iff_ne.mpr z1
  have q1 : ((l1.length : Int) == 0) = true := by rw [F1.out.n z1]; rfl
  by_cases y1 : e1 = 3
  ·have n1 : ((e1 : Int) != 3) = false := by rw [y1]; rfl
   have m1 : ((a1 : Int) == (t.size : Int)) = true := by rw [F1.out.tr y1]; exact beq_self_eq_true _
   clear z1 y1
   by_cases z2 : e2 = 0
   ·have b2 : ((e2 : Int) == 0) = true := by rw [z2]; rfl
    have c2 : ((a2 : Int) != 0) = false := by rw [F2.out.z z2]; rfl
    have P2 := Aside0.mk (F2.out.p z2)
    have C2 := Aside0.mk (F2.out.c z2)
    have n2 : ((e2 : Int) != 3) = true := by rw [z2]; rfl
    clear z2
    go_wp2_with fail
    refine (label_Print.calls _ _ l2 _ _ (Kd.R_reads' O3.out.2.1).2.2 (Kd.R_reads' O3.out.2.1).2.1 P2.out).mono ?_
    rintro _ W12 ⟨rfl, hb12⟩
    have O12 := Aside0.mk (And.intro (Kd.R_below O3.out.1 hb12) (And.intro (Kd.R_below O3.out.2.1 hb12) (And.intro (Kd.R_below O3.out.2.2.1 hb12) (below_step O3.out.2.2.2 hb12))))
    clear hb12 O3
    go_wp2_with fail
    refine (label_CheckBears.calls _ _ l2 _ _ (Kd.R_reads' O12.out.2.1).2.2 (Kd.R_reads' O12.out.2.1).2.1 C2.out).mono ?_
    rintro _ W13 ⟨rfl, hb13⟩
    have O13 := Aside0.mk (And.intro (Kd.R_below O12.out.1 hb13) (And.intro (Kd.R_below O12.out.2.1 hb13) (And.intro (Kd.R_below O12.out.2.2.1 hb13) (below_step O12.out.2.2.2 hb13))))
    clear hb13 O12
    by_cases z3 : e3 = 0
    ·have b3 : ((e3 : Int) == 0) = true := by rw [z3]; rfl
     have c3 : ((a3 : Int) != 0) = false := by rw [F3.out.z z3]; rfl
     have P3 := Aside0.mk (F3.out.p z3)
     have C3 := Aside0.mk (F3.out.c z3)
     have n3 : ((e3 : Int) != 3) = true := by rw [z3]; rfl
     clear z3
     go_wp2_with fail
     refine (label_PrintTerms.calls _ _ l3 _ _ (Kd.R_reads' O13.out.2.2.1).2.2 (Kd.R_reads' O13.out.2.2.1).2.1 P3.out).mono ?_
     rintro _ W14 ⟨rfl, hb14⟩
     have O14 := Aside0.mk (And.intro (Kd.R_below O13.out.1 hb14) (And.intro (Kd.R_below O13.out.2.1 hb14) (And.intro (Kd.R_below O13.out.2.2.1 hb14) (below_step O13.out.2.2.2 hb14))))
     clear hb14 O13
     go_wp2_with fail
     refine (label_CheckTerms.calls k _ _ l3 _ _ (Kd.R_reads' O14.out.2.2.1).2.2 (Kd.R_reads' O14.out.2.2.1).2.1 C3.out).mono ?_
     rintro _ W15 ⟨rfl, hb15⟩
     have O15 := Aside0.mk (And.intro (Kd.R_below O14.out.1 hb15) (And.intro (Kd.R_below O14.out.2.1 hb15) (And.intro (Kd.R_below O14.out.2.2.1 hb15) (below_step O14.out.2.2.2 hb15))))
     clear hb15 O14
     go_wp2_with fail
     refine (drayagelaw03_works.calls 12 true _ WK.out).mono ?_
     rintro _ WE ⟨rfl, hbE⟩
     have OE := Aside0.mk (below_step O15.out.2.2.2 hbE)
     clear hbE O15
     go_wp2_with fail
     go_ret
     exact ⟨rfl, OE.out⟩
    ·have b3 : ((e3 : Int) == 0) = false := beq_eq_false_iff_ne.mpr z3
     by_cases y3 : e3 = 3
     ·have n3 : ((e3 : Int) != 3) = false := by rw [y3]; rfl
      have m3 : ((a3 : Int) == (t.size : Int)) = true := by rw [F3.out.tr y3]; exact beq_self_eq_true _
      clear z3 y3
      go_wp2_with fail
      refine (drayagelaw03_works.calls 12 true _ WK.out).mono ?_
      rintro _ WE ⟨rfl, hbE⟩
      have OE := Aside0.mk (below_step O13.out.2.2.2 hbE)
      clear hbE O13
      go_wp2_with fail
      go_ret
      exact ⟨rfl, OE.out⟩
     ·have n3 : ((e3 : Int) != 3) = true := bne_iff_ne.mpr y3
      clear z3 y3
      go_wp2_with fail
      refine (drayagelaw03_works.calls 12 true _ WK.out).mono ?_
      rintro _ WE ⟨rfl, hbE⟩
      have OE := Aside0.mk (below_step O13.out.2.2.2 hbE)
      clear hbE O13
      go_wp2_with fail
      go_ret
      exact ⟨rfl, OE.out⟩
   ·have b2 : ((e2 : Int) == 0) = false := beq_eq_false_iff_ne.mpr z2
    clear z2
    by_cases z3 : e3 = 0
    ·have b3 : ((e3 : Int) == 0) = true := by rw [z3]; rfl
     have c3 : ((a3 : Int) != 0) = false := by rw [F3.out.z z3]; rfl
     have P3 := Aside0.mk (F3.out.p z3)
     have C3 := Aside0.mk (F3.out.c z3)
     have n3 : ((e3 : Int) != 3) = true := by rw [z3]; rfl
     clear z3
     go_wp2_with fail
     refine (label_PrintTerms.calls _ _ l3 _ _ (Kd.R_reads' O3.out.2.2.1).2.2 (Kd.R_reads' O3.out.2.2.1).2.1 P3.out).mono ?_
     rintro _ W16 ⟨rfl, hb16⟩
     have O16 := Aside0.mk (And.intro (Kd.R_below O3.out.1 hb16) (And.intro (Kd.R_below O3.out.2.1 hb16) (And.intro (Kd.R_below O3.out.2.2.1 hb16) (below_step O3.out.2.2.2 hb16))))
     clear hb16 O3
     go_wp2_with fail
     refine (label_CheckTerms.calls k _ _ l3 _ _ (Kd.R_reads' O16.out.2.2.1).2.2 (Kd.R_reads' O16.out.2.2.1).2.1 C3.out).mono ?_
     rintro _ W17 ⟨rfl, hb17⟩
     have O17 := Aside0.mk (And.intro (Kd.R_below O16.out.1 hb17) (And.intro (Kd.R_below O16.out.2.1 hb17) (And.intro (Kd.R_below O16.out.2.2.1 hb17) (below_step O16.out.2.2.2 hb17))))
     clear hb17 O16
     go_wp2_with fail
     refine (drayagelaw03_works.calls 12 true _ WK.out).mono ?_
     rintro _ WE ⟨rfl, hbE⟩
     have OE := Aside0.mk (below_step O17.out.2.2.2 hbE)
     clear hbE O17
     go_wp2_with fail
     go_ret
     exact ⟨rfl, OE.out⟩
    ·have b3 : ((e3 : Int) == 0) = false := beq_eq_false_iff_ne.mpr z3
     by_cases y3 : e3 = 3
     ·have n3 : ((e3 : Int) != 3) = false := by rw [y3]; rfl
      have m3 : ((a3 : Int) == (t.size : Int)) = true := by rw [F3.out.tr y3]; exact beq_self_eq_true _
      clear z3 y3
      go_wp2_with fail
      refine (drayagelaw03_works.calls 12 true _ WK.out).mono ?_
      rintro _ WE ⟨rfl, hbE⟩
      have OE := Aside0.mk (below_step O3.out.2.2.2 hbE)
      clear hbE O3
      go_wp2_with fail
      go_ret
      exact ⟨rfl, OE.out⟩
     ·have n3 : ((e3 : Int) != 3) = true := bne_iff_ne.mpr y3
      clear z3 y3
      go_wp2_with fail
      refine (drayagelaw03_works.calls 12 true _ WK.out).mono ?_
      rintro _ WE ⟨rfl, hbE⟩
      have OE := Aside0.mk (below_step O3.out.2.2.2 hbE)
      clear hbE O3
      go_wp2_with fail
      go_ret
      exact ⟨rfl, OE.out⟩
  ·have n1 : ((e1 : Int) != 3) = true := bne_iff_ne.mpr y1
   clear z1 y1
   by_cases z2 : e2 = 0
   ·have b2 : ((e2 : Int) == 0) = true := by rw [z2]; rfl
    have c2 : ((a2 : Int) != 0) = false := by rw [F2.out.z z2]; rfl
    have P2 := Aside0.mk (F2.out.p z2)
    have C2 := Aside0.mk (F2.out.c z2)
    have n2 : ((e2 : Int) != 3) = true := by rw [z2]; rfl
    clear z2
    go_wp2_with fail
    refine (label_Print.calls _ _ l2 _ _ (Kd.R_reads' O3.out.2.1).2.2 (Kd.R_reads' O3.out.2.1).2.1 P2.out).mono ?_
    rintro _ W18 ⟨rfl, hb18⟩
    have O18 := Aside0.mk (And.intro (Kd.R_below O3.out.1 hb18) (And.intro (Kd.R_below O3.out.2.1 hb18) (And.intro (Kd.R_below O3.out.2.2.1 hb18) (below_step O3.out.2.2.2 hb18))))
    clear hb18 O3
    go_wp2_with fail
    refine (label_CheckBears.calls _ _ l2 _ _ (Kd.R_reads' O18.out.2.1).2.2 (Kd.R_reads' O18.out.2.1).2.1 C2.out).mono ?_
    rintro _ W19 ⟨rfl, hb19⟩
    have O19 := Aside0.mk (And.intro (Kd.R_below O18.out.1 hb19) (And.intro (Kd.R_below O18.out.2.1 hb19) (And.intro (Kd.R_below O18.out.2.2.1 hb19) (below_step O18.out.2.2.2 hb19))))
    clear hb19 O18
    by_cases z3 : e3 = 0
    ·have b3 : ((e3 : Int) == 0) = true := by rw [z3]; rfl
     have c3 : ((a3 : Int) != 0) = false := by rw [F3.out.z z3]; rfl
     have P3 := Aside0.mk (F3.out.p z3)
     have C3 := Aside0.mk (F3.out.c z3)
     have n3 : ((e3 : Int) != 3) = true := by rw [z3]; rfl
     clear z3
     go_wp2_with fail
     refine (label_PrintTerms.calls _ _ l3 _ _ (Kd.R_reads' O19.out.2.2.1).2.2 (Kd.R_reads' O19.out.2.2.1).2.1 P3.out).mono ?_
     rintro _ W20 ⟨rfl, hb20⟩
     have O20 := Aside0.mk (And.intro (Kd.R_below O19.out.1 hb20) (And.intro (Kd.R_below O19.out.2.1 hb20) (And.intro (Kd.R_below O19.out.2.2.1 hb20) (below_step O19.out.2.2.2 hb20))))
     clear hb20 O19
     go_wp2_with fail
     refine (label_CheckTerms.calls k _ _ l3 _ _ (Kd.R_reads' O20.out.2.2.1).2.2 (Kd.R_reads' O20.out.2.2.1).2.1 C3.out).mono ?_
     rintro _ W21 ⟨rfl, hb21⟩
     have O21 := Aside0.mk (And.intro (Kd.R_below O20.out.1 hb21) (And.intro (Kd.R_below O20.out.2.1 hb21) (And.intro (Kd.R_below O20.out.2.2.1 hb21) (below_step O20.out.2.2.2 hb21))))
     clear hb21 O20
     go_wp2_with fail
     refine (drayagelaw03_works.calls 12 true _ WK.out).mono ?_
     rintro _ WE ⟨rfl, hbE⟩
     have OE := Aside0.mk (below_step O21.out.2.2.2 hbE)
     clear hbE O21
     go_wp2_with fail
     go_ret
     exact ⟨rfl, OE.out⟩
    ·have b3 : ((e3 : Int) == 0) = false := beq_eq_false_iff_ne.mpr z3
     by_cases y3 : e3 = 3
     ·have n3 : ((e3 : Int) != 3) = false := by rw [y3]; rfl
      have m3 : ((a3 : Int) == (t.size : Int)) = true := by rw [F3.out.tr y3]; exact beq_self_eq_true _
      clear z3 y3
      go_wp2_with fail
      refine (drayagelaw03_works.calls 12 true _ WK.out).mono ?_
      rintro _ WE ⟨rfl, hbE⟩
      have OE := Aside0.mk (below_step O19.out.2.2.2 hbE)
      clear hbE O19
      go_wp2_with fail
      go_ret
      exact ⟨rfl, OE.out⟩
     ·have n3 : ((e3 : Int) != 3) = true := bne_iff_ne.mpr y3
      clear z3 y3
      go_wp2_with fail
      refine (drayagelaw03_works.calls 12 true _ WK.out).mono ?_
      rintro _ WE ⟨rfl, hbE⟩
      have OE := Aside0.mk (below_step O19.out.2.2.2 hbE)
      clear hbE O19
      go_wp2_with fail
      go_ret
      exact ⟨rfl, OE.out⟩
   ·have b2 : ((e2 : Int) == 0) = false := beq_eq_false_iff_ne.mpr z2
    clear z2
    by_cases z3 : e3 = 0
    ·have b3 : ((e3 : Int) == 0) = true := by rw [z3]; rfl
     have c3 : ((a3 : Int) != 0) = false := by rw [F3.out.z z3]; rfl
     have P3 := Aside0.mk (F3.out.p z3)
     have C3 := Aside0.mk (F3.out.c z3)
     have n3 : ((e3 : Int) != 3) = true := by rw [z3]; rfl
     clear z3
     go_wp2_with fail
     refine (label_PrintTerms.calls _ _ l3 _ _ (Kd.R_reads' O3.out.2.2.1).2.2 (Kd.R_reads' O3.out.2.2.1).2.1 P3.out).mono ?_
     rintro _ W22 ⟨rfl, hb22⟩
     have O22 := Aside0.mk (And.intro (Kd.R_below O3.out.1 hb22) (And.intro (Kd.R_below O3.out.2.1 hb22) (And.intro (Kd.R_below O3.out.2.2.1 hb22) (below_step O3.out.2.2.2 hb22))))
     clear hb22 O3
     go_wp2_with fail
     refine (label_CheckTerms.calls k _ _ l3 _ _ (Kd.R_reads' O22.out.2.2.1).2.2 (Kd.R_reads' O22.out.2.2.1).2.1 C3.out).mono ?_
     rintro _ W23 ⟨rfl, hb23⟩
     have O23 := Aside0.mk (And.intro (Kd.R_below O22.out.1 hb23) (And.intro (Kd.R_below O22.out.2.1 hb23) (And.intro (Kd.R_below O22.out.2.2.1 hb23) (below_step O22.out.2.2.2 hb23))))
     clear hb23 O22
     go_wp2_with fail
     refine (drayagelaw03_works.calls 12 true _ WK.out).mono ?_
     rintro _ WE ⟨rfl, hbE⟩
     have OE := Aside0.mk (below_step O23.out.2.2.2 hbE)
     clear hbE O23
     go_wp2_with fail
     go_ret
     exact ⟨rfl, OE.out⟩
    ·have b3 : ((e3 : Int) == 0) = false := beq_eq_false_iff_ne.mpr z3
     by_cases y3 : e3 = 3
     ·have n3 : ((e3 : Int) != 3) = false := by rw [y3]; rfl
      have m3 : ((a3 : Int) == (t.size : Int)) = true := by rw [F3.out.tr y3]; exact beq_self_eq_true _
      clear z3 y3
      go_wp2_with fail
      refine (drayagelaw03_works.calls 12 true _ WK.out).mono ?_
      rintro _ WE ⟨rfl, hbE⟩
      have OE := Aside0.mk (below_step O3.out.2.2.2 hbE)
      clear hbE O3
      go_wp2_with fail
      go_ret
      exact ⟨rfl, OE.out⟩
     ·have n3 : ((e3 : Int) != 3) = true := bne_iff_ne.mpr y3
      clear z3 y3
      go_wp2_with fail
      refine (drayagelaw03_works.calls 12 true _ WK.out).mono ?_
      rintro _ WE ⟨rfl, hbE⟩
      have OE := Aside0.mk (below_step O3.out.2.2.2 hbE)
      clear hbE O3
      go_wp2_with fail
      go_ret
      exact ⟨rfl, OE.out⟩
end Go.Proofs.Ytfnfjkddlnnolaa.P
