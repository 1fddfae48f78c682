import Derived.Test.YtcpalnmodbbklaaDoorHwords
import Derived.Test.YtcpalnmodbbklaaDoorHdec
import Derived.BigCall
/- The contract of scan.Quote: a text as a string, or an error. -/
namespace Go.Proofs.YtcpalnmodbbklaaDoor.P
set_option linter.unusedVariables false
set_option linter.unusedSimpArgs false
open Go.RowKit Go.Proofs.YtcpalnmodbbklaaDoorW.PrintWords Go.Proofs.YtcpalnmodbbklaaDoorW.PrintLast Go.Proofs.YtcpalnmodbbklaaDoorW.PrintMore

/-- may a rune not stand in a string? -/
def badB (s : ByteArray) (pos : Nat) : Bool := oddB s pos || (decide ((Utf8.decode s pos).1 < 32) && decide ((Utf8.decode s pos).1 ≠ 10))
def pieceQ (c : Nat) : List UInt8 := if c = 10 then [92, 110] else if c = 34 ∨ c = 92 then [92] ++ Lib.encodeRune (c : Int) else Lib.encodeRune (c : Int)
def quoteGo (s : ByteArray) : Nat → Nat → List UInt8 → Option (List UInt8)
  | 0, _, _ => none
  | k + 1, pos, acc =>
    if pos < s.size then
      if badB s pos = true then none
      else quoteGo s k (pos + (Utf8.decode s pos).2) (acc ++ pieceQ (Utf8.decode s pos).1)
    else some (acc ++ [34])
def quoteF (s : ByteArray) : ByteArray × Int := match quoteGo s (s.size + 1) 0 [34] with
  | none => (⟨#[]⟩, 4)
  | some l => (⟨l.toArray⟩, 0)
def scan_Quote.f (s : ByteArray) : Option (ByteArray × Int) := if s.size ≤ 17592186044416 then some (quoteF s) else none
theorem quoteGo_end {s : ByteArray} {k pos : Nat} {acc : List UInt8} (h : ¬ pos < s.size) : quoteGo s (k + 1) pos acc = some (acc ++ [34]) := by
  unfold quoteGo
  rw [if_neg h]
theorem quoteGo_bad {s : ByteArray} {k pos : Nat} {acc : List UInt8} (h : pos < s.size) (hb : badB s pos = true) : quoteGo s (k + 1) pos acc = none := by
  unfold quoteGo
  rw [if_pos h, if_pos hb]
theorem quoteGo_on {s : ByteArray} {k pos : Nat} {acc : List UInt8} (h : pos < s.size) (hb : badB s pos = false) : quoteGo s (k + 1) pos acc = quoteGo s k (pos + (Utf8.decode s pos).2) (acc ++ pieceQ (Utf8.decode s pos).1) := by
  conv => lhs; unfold quoteGo
  rw [if_pos h, hb, if_neg (by simp)]
def QPost (w : World) (r : Option (List UInt8)) (e : Ending) (w' : World) : Prop :=
  (e = match r with
    | none => .returned (.tuple #[.string ⟨#[]⟩, .int .i64 4])
    | some l => .returned (.tuple #[.string ⟨l.toArray⟩, .int .i64 0])) ∧ Below w.heap.size w w'
abbrev TB : Nat := 63
theorem batf_below {T e : TypeId} {B b : Nat} {p : Value} {bs : List Value} {w w1 : World} (h : Lib.BuilderAtF T e B b p bs w) (hb : Below w.heap.size w w1) : Lib.BuilderAtF T e B b p bs w1 := by
  have hlt := h.lt
  obtain ⟨hB, v, h1, h2, h3⟩ := h
  refine ⟨hB, v, (hb.block b hlt).trans h1, ⟨h2.1, ?_⟩, h3⟩
  rcases h2.2 with hn | ⟨g, cap, cur, fz, e1, e2, e3, e4⟩
  · exact .inl hn
  · exact .inr ⟨g, cap, cur, fz, e1, e2, (hb.block g (Array.getElem?_eq_some_iff.1 e3).1).trans e3, e4⟩
theorem isb_below {T e : TypeId} {B b : Nat} {bs : List Value} {w w1 : World} (h : Lib.IsBuilderF T e B b bs w) (hb : Below w.heap.size w w1) : Lib.IsBuilderF T e B b bs w1 :=
  h.elim (fun x => .inl (batf_below x hb)) (fun x => .inr (batf_below x hb))
/-- what the loop carries -/
structure QS (w wr : World) (b it : Nat) (s : ByteArray) (pos : Nat) (acc : List UInt8) : Prop where
  ib : Lib.IsBuilderF TB 5 w.heap.size b (Lib.byteCells acc) wr
  hit : wr.heap[it]? = some (.stringIter s pos)
  bl : Below w.heap.size w wr
  lb : w.heap.size ≤ b
  li : w.heap.size ≤ it
  ne : it ≠ b
theorem QS.iter {w wr : World} {b it : Nat} {s : ByteArray} {pos : Nat} {acc : List UInt8} (h : QS w wr b it s pos acc) (q : Nat) : QS w (wr.iterAt it s q) b it s q acc :=
  ⟨h.ib.iterAt h.hit q, Lib.iterAt_heap wr it s pos q h.hit, Lib.below_iterAt h.bl h.li s q, h.lb, h.li, h.ne⟩
theorem QS.below {w wr w1 : World} {b it : Nat} {s : ByteArray} {pos : Nat} {acc : List UInt8} (h : QS w wr b it s pos acc) (hb : Below wr.heap.size wr w1) : QS w w1 b it s pos acc :=
  ⟨isb_below h.ib hb, (hb.block it (by have := (Array.getElem?_eq_some_iff.1 h.hit).1; exact this)).trans h.hit, below_then h.bl h.bl.size hb, h.lb, h.li, h.ne⟩
theorem QS.wrote {w wr w1 : World} {b it : Nat} {s : ByteArray} {pos : Nat} {acc l : List UInt8} (h : QS w wr b it s pos acc) {cs : List Value} (hc : cs = Lib.byteCells l) (h1 : Lib.BuilderAtF TB 5 w.heap.size b (.pointer (some ⟨b, 0, none⟩)) (Lib.byteCells acc ++ cs) w1) (hb : Below w.heap.size wr w1) (hk : Lib.OthersKept 5 (some b) wr w1) : QS w w1 b it s pos (acc ++ l) :=
  ⟨Or.inr (by rw [Lib.byteCells_append, ← hc]; exact h1), hk.iter h.hit h.ne, h.bl.trans hb, h.lb, h.li, h.ne⟩
theorem piece_len (c : Nat) : (pieceQ c).length ≤ 5 := by
  have := Lib.runeCells_le (c : Int)
  rw [Lib.runeCells_length] at this
  unfold pieceQ
  split
  · simp
  split
  · simp; omega
  · omega
theorem cells_enc (r : Int) : Lib.runeCells r = Lib.byteCells (Lib.encodeRune r) := (Lib.byteCells_encodeRune r).symm
theorem enc92 : Lib.encodeRune 92 = [92] := by decide
theorem enc34 : Lib.encodeRune 34 = [34] := by decide
set_option maxRecDepth 100000 in
set_option maxHeartbeats 6400000 in
theorem quote_calls (s : ByteArray) (w : World) (hs : s.size ≤ 17592186044416) :
    Calls Tryd.prog 17 #[.string s] w (QPost w (quoteGo s (s.size + 1) 0 [34])) := by
  have HF := Aside0.mk ((Lib.IsBuilderF.of (Lib.fresh_isBuilder TB 5 w)))
  go_enter Tryd.func17, Tryd.ntmps17
  go_wp2_with fail
  refine (Tryd.Builder_WriteRune_k w.heap.size w.heap.size [] 34 (by omega) (by omega) _ HF.out (by simp) (by simp)).mono ?_
  rintro e W1 ⟨rfl, h1, b1, k1⟩
  have H1 := Aside0.mk h1
  have B1 := Aside0.mk (((Below.refl w.heap.size w).alloc (Nat.le_refl _) _).trans b1)
  clear HF h1 b1 k1
  go_wp2_with fail
  have HS0 : Aside0 (QS w (W1.iter s 0) w.heap.size W1.heap.size s 0 [34]) := ⟨by
    have hlt := H1.out.lt
    have hsz := B1.out.size
    refine ⟨(Lib.IsBuilderF.alloc (Or.inr (by have := H1.out; rw [cells_enc, enc34] at this; simpa using this)) _), World.iter_heap W1 s 0, B1.out.alloc hsz _, Nat.le_refl _, hsz, by omega⟩⟩
  obtain ⟨b, hb⟩ : ∃ b, w.heap.size = b := ⟨_, rfl⟩
  obtain ⟨it, hit⟩ : ∃ it, W1.heap.size = it := ⟨_, rfl⟩
  rw [hb, hit] at HS0 ⊢
  generalize W1.iter s 0 = W0 at *
  clear H1 B1 hit
  have HG := Aside0.mk hb
  clear hb
  go_loopw [] (fun wr => ∃ pos n acc, n ≤ pos ∧ pos ≤ s.size ∧ acc.length ≤ 5 * n + 1 ∧ Aside0 (QS w wr b it s pos acc) ∧ Aside0 (quoteGo s (s.size + 1) 0 [34] = quoteGo s (s.size - n + 1) pos acc)) (fun wr => s.size - wr.iterPos it)
  case atStart => exact ⟨0, 0, [34], Nat.le_refl _, Nat.zero_le _, by simp, HS0, ⟨rfl⟩⟩
  case round =>
    obtain ⟨pos, n, acc, hnp, hps, hacc, HS, HE⟩ := hrel
    clear HS0
    have hib := HS.out.hit
    have hbl := HS.out.bl.size
    have hlen : (Lib.byteCells acc).length ≤ 5 * n + 1 := by rw [Lib.byteCells_length]; exact hacc
    have HIB := Aside0.mk hib
    by_cases hlt : pos < s.size
    · have hnx := Lib.run_next_any_at (P := Tryd.prog) wr it s pos 0 hib hlt
      have HD := Aside0.mk (decode_range s pos)
      have HO := odd_f s pos hlt
      have H1 := Aside0.mk (HS.out.iter (pos + (Utf8.decode s pos).2))
      have HL := Aside0.mk (decode_in s pos hlt)
      have hc1 : (Utf8.decode s pos).1 ≤ 1114111 := HD.out.1
      have HEb := Aside0.mk (fun h => HE.out.trans (quoteGo_bad (s := s) (k := s.size - n) (pos := pos) (acc := acc) hlt h))
      have HEn := Aside0.mk (fun h => HE.out.trans (quoteGo_on (s := s) (k := s.size - n) (pos := pos) (acc := acc) hlt h))
      have HPL := Aside0.mk (piece_len (Utf8.decode s pos).1)
      have HQQ := HD.out.2
      have HBAD : Aside0 (badB s pos = (oddB s pos || (decide ((Utf8.decode s pos).1 < 32) && decide ((Utf8.decode s pos).1 ≠ 10)))) := ⟨rfl⟩
      obtain ⟨c, hc⟩ : ∃ c : Nat, (Utf8.decode s pos).1 = c := ⟨_, rfl⟩
      obtain ⟨q, hq⟩ : ∃ q : Nat, (Utf8.decode s pos).2 = q := ⟨_, rfl⟩
      rw [hc] at hnx HO hc1 HEn HPL HBAD
      rw [hq] at hnx H1 HEn HL HQQ
      obtain ⟨hq1, hq2⟩ := HQQ
      clear hc hq HD hib HE HS
      have HOD := Aside0.mk HO
      have HC1 := Aside0.mk hc1
      clear HO hbl
      go_wp2_with fail
      refine (scan_odd.calls s (pos : Int) (c : Int) _ _ HOD.out).mono ?_
      rintro e W2 ⟨rfl, hd⟩
      have H2 := Aside0.mk (H1.out.below hd.below)
      clear H1 hd hnx
      by_cases hbad : badB s pos = true
      · have HX := Aside0.mk (HEb.out hbad)
        have HBB := Aside0.mk hbad
        clear HEb HEn hbad
        cases ho : oddB s pos with
        | true =>
          clear ho
          go_wp2_with fail
          rw [HX.out]
          go_ret2
          exact ⟨rfl, H2.out.bl⟩
        | false =>
          have h3 : c < 32 ∧ c ≠ 10 := by have := HBB.out; rw [HBAD.out, ho] at this; simpa using this
          have h4 : ((c : Int) < 32) := by omega
          have h5 : decide ((c : Int) < 32) = true := decide_eq_true h4
          have h6 : ((c : Int) != 10) = true := by rw [bne_iff_ne]; omega
          clear ho h3
          go_wp2_with fail
          rw [HX.out]
          go_ret2
          exact ⟨rfl, H2.out.bl⟩
      · have hbad : badB s pos = false := by simpa using hbad
        have HX := Aside0.mk (HEn.out hbad)
        rw [HBAD.out, Bool.or_eq_false_iff] at hbad
        obtain ⟨ho, hb2⟩ := hbad
        rw [ho] 
        have hc2 : c < 32 → c = 10 := by simpa using hb2
        clear HEb HEn HBAD hb2 ho
        have hn1 : n + 1 ≤ pos + q := by omega
        have hsn : s.size - n = s.size - (n + 1) + 1 := by omega
        rw [hsn] at HX
        have hlen2 : (Lib.byteCells acc).length + 8 ≤ 140737488355328 := by omega
        have hW2 : w.heap.size ≤ W2.heap.size := H2.out.bl.size
        have hW2b := Aside0.mk hW2
        by_cases h10 : c = 10
        · subst h10
          go_wp2_with fail
          refine (Tryd.Builder_WriteString_k w.heap.size b (Lib.byteCells acc) ⟨#[92, 110]⟩ _ H2.out.ib (by show _ + 2 ≤ _; omega) hW2b.out).mono ?_
          rintro e W3 ⟨rfl, h3, b3, k3⟩
          have H3 := Aside0.mk (H2.out.wrote (l := [92, 110]) rfl h3 b3 k3)
          clear h3 b3 k3 H2
          go_wp2_with fail
          go_roundw
          case rel => exact ⟨pos + q, n + 1, acc ++ [92, 110], by omega, HL.out, by simp; omega, H3, HX⟩
          case measure =>
            have hf2 := H3.out.hit
            have := HIB.out
            unfold World.iterPos
            rw [hf2, this]
            dsimp only
            omega
        · have hd1 : ¬ ((c : Int) < 32) := by omega
          have hd2 : ((c : Int) == 10) = false := by rw [beq_eq_false_iff_ne]; omega
          by_cases hE : c = 34 ∨ c = 92
          · have HP : Aside0 (pieceQ c = [92] ++ Lib.encodeRune (c : Int)) := ⟨by unfold pieceQ; rw [if_neg h10, if_pos hE]⟩
            rw [HP.out] at HX HPL
            have tailc : True := trivial
            rcases hE with rfl | rfl
            all_goals
              go_wp2_with fail
              refine (Tryd.Builder_WriteRune_k w.heap.size b (Lib.byteCells acc) 92 (by omega) (by omega) _ H2.out.ib (by omega) hW2b.out).mono ?_
              rintro e W3 ⟨rfl, h3, b3, k3⟩
              have H3 := Aside0.mk (H2.out.wrote (l := [92]) (by rw [cells_enc, enc92]) h3 b3 k3)
              have hW3 := Aside0.mk (H3.out.bl.size)
              have hl3 : (Lib.byteCells (acc ++ [92])).length + 4 ≤ 140737488355328 := by rw [Lib.byteCells_length] at hlen2 ⊢; simp; omega
              clear h3 b3 k3 H2
              go_wp2_with fail
              refine (Tryd.Builder_WriteRune_k w.heap.size b (Lib.byteCells (acc ++ [92])) _ (by omega) (by omega) _ H3.out.ib hl3 hW3.out).mono ?_
              rintro e W4 ⟨rfl, h4, b4, k4⟩
              have H4 := Aside0.mk (H3.out.wrote (cells_enc _) h4 b4 k4)
              clear h4 b4 k4
              go_wp2_with fail
              go_roundw
              case rel => exact ⟨pos + q, n + 1, _, by omega, HL.out, by have := HPL.out; simp at this ⊢; omega, H4, ⟨by rw [HX.out, List.append_assoc]; rfl⟩⟩
              case measure =>
                have hf2 := H4.out.hit
                have := HIB.out
                unfold World.iterPos
                rw [hf2, this]
                dsimp only
                omega
          · have HP : Aside0 (pieceQ c = Lib.encodeRune (c : Int)) := ⟨by unfold pieceQ; rw [if_neg h10, if_neg hE]⟩
            rw [HP.out] at HX HPL
            have hd3 : ((c : Int) == 34) = false := by rw [beq_eq_false_iff_ne]; omega
            have hd4 : ((c : Int) == 92) = false := by rw [beq_eq_false_iff_ne]; omega
            have hcc : (0 : Int) ≤ (c : Int) := by omega
            have hcd : (c : Int) ≤ 1114111 := by omega
            clear hE h10 hc2
            go_wp2_with fail
            refine (Tryd.Builder_WriteRune_k w.heap.size b (Lib.byteCells acc) (c : Int) (by omega) (by omega) _ H2.out.ib (by omega) hW2b.out).mono ?_
            rintro e W4 ⟨rfl, h4, b4, k4⟩
            have H4 := Aside0.mk (H2.out.wrote (cells_enc _) h4 b4 k4)
            clear h4 b4 k4
            go_wp2_with fail
            go_roundw
            case rel => exact ⟨pos + q, n + 1, _, by omega, HL.out, by have := HPL.out; simp only [List.length_append] at this ⊢; omega, H4, HX⟩
            case measure =>
              have hf2 := H4.out.hit
              have := HIB.out
              unfold World.iterPos
              rw [hf2, this]
              dsimp only
              omega
    · have hnx := Lib.run_next_end_at (P := Tryd.prog) wr it s pos 0 hib hlt
      have HX := Aside0.mk (HE.out.trans (quoteGo_end (s := s) (k := s.size - n) (pos := pos) (acc := acc) hlt))
      have hW2b := Aside0.mk hbl
      have hlen2 : (Lib.byteCells acc).length + 8 ≤ 140737488355328 := by omega
      clear HE hib hbl
      go_wp2_with fail
      refine (Tryd.Builder_WriteRune_k w.heap.size b (Lib.byteCells acc) 34 (by omega) (by omega) _ HS.out.ib (by omega) hW2b.out).mono ?_
      rintro e W3 ⟨rfl, h3, b3, k3⟩
      have H3 := Aside0.mk (HS.out.wrote (l := [34]) (by rw [cells_enc, enc34]) h3 b3 k3)
      have hW3 := Aside0.mk (H3.out.bl.size)
      clear h3 b3 k3 HS
      go_wp2_with fail
      refine (Tryd.Builder_String_any_k w.heap.size b (acc ++ [34]) _ H3.out.ib hW3.out).mono ?_
      rintro e W4 ⟨rfl, _, b4, _⟩
      have H4 := Aside0.mk (H3.out.bl.trans b4)
      clear b4
      go_wp2_with fail
      rw [HX.out]
      go_ret2
      exact ⟨rfl, H4.out⟩
theorem scan_Quote.calls (a0 : ByteArray) (r1 : ByteArray) (r2 : Int) (w : World) (h : scan_Quote.f a0 = some (r1, r2)) :
    Calls Tryd.prog 17 #[.string a0] w fun e w' => e = .returned (.tuple #[.string r1, .int .i64 r2]) ∧ Below w.heap.size w w' := by
  unfold scan_Quote.f at h
  split at h
  · rename_i hs
    have h := Option.some.inj h
    unfold quoteF at h
    refine (quote_calls a0 w hs).mono ?_
    rintro e w' ⟨he, hb⟩
    refine ⟨?_, hb⟩
    rw [he]
    clear he
    split at h
    · rename_i hq
      simp only [Prod.mk.injEq] at h
      rw [← h.1, ← h.2]
    · rename_i l hq
      simp only [Prod.mk.injEq] at h
      rw [← h.1, ← h.2]
  · cases h
end Go.Proofs.YtcpalnmodbbklaaDoor.P
