import Derived.Test.YtagkgddkpnbfoaaHrfirst2
namespace Go.Proofs.Ytagkgddkpnbfoaa.P
set_option linter.unusedVariables false
set_option linter.unusedSimpArgs false
open Go.RowKit Go.Proofs.YtagkgddkpnbfoaaW.PrintWords Go.Proofs.YtagkgddkpnbfoaaW.PrintLast Go.Proofs.YtagkgddkpnbfoaaW.PrintMore
theorem rfirst_at (A : Option Addr) (n c : Nat) (b : List Int) (w : World) (hn : n = b.length) (hr : Kd.C (Kd.int .u8) w A b.length b) (hc : n ≤ c) (hb : ∀ x ∈ b, isByte x) (hm : b.length ≤ 140737488355328) :
  Calls Try.prog 35 #[.slice A n c] w (FirstOut w b) := by
 subst hn
 exact rfirst_calls A c b w hr hc hb hm
def drayageref20_Read.f (b : List Int) : Option (List S25 × Int) := journal_Read.f b
set_option maxRecDepth 100000 in
set_option maxHeartbeats 3200000 in
theorem rread_calls (A : Option Addr) (c : Nat) (b : List Int) (w : World) (hr : Kd.C (Kd.int .u8) w A b.length b) (hc : b.length ≤ c) (hb : ∀ x ∈ b, isByte x) (hl : b.length ≤ 1099511627776) :
  Calls Try.prog 20 #[.slice A b.length c] w fun e w' => ∃ v0 : Value, e = .returned (.tuple #[v0, .int .i64 ((readAll b).2 : Int)]) ∧ Kd.S k25 25 w' w.heap.size (fun _ => True) v0 (readAll b).1 ∧ Below w.heap.size w w' := by
 have hm := hr.2.1
 have HR := Aside0.mk hr
 have HX := Aside0.mk hb
 clear hr hb
 go_enter Try.func20, Try.ntmps20
 go_wp2_with fail
 go_loopw [4, 5] (fun vL iw W => ∃ (n : Nat) (recs : List S25) (AL : Option Addr) (cL : Nat), n ≤ b.length ∧ vL = .slice AL recs.length cL ∧ iw = .int .i64 n ∧
  Aside0 (Kd.S k25 25 W w.heap.size (fun _ => True) (Value.slice AL recs.length cL) recs) ∧ Aside0 (Below w.heap.size w W) ∧
  Aside0 (recs ++ (readAll (b.drop n)).1 = (readAll b).1 ∧ n + (readAll (b.drop n)).2 = (readAll b).2)) (fun _ iw _ => b.length - (intOf iw).toNat)
 case atStart => exact ⟨0, [], none, 0, Nat.zero_le _, rfl, rfl, ⟨Kd.S_nil _ _ _ _ _⟩, ⟨Below.refl _ _⟩, ⟨by simp⟩⟩
 case round =>
  obtain ⟨n, recs, AL, cL, hn, rfl, rfl, HL, HB, HE⟩ := hrel
  obtain ⟨A', kA, CA, lA⟩ := cut_from A c b n hn hc
  replace CA := Aside0.mk CA
  go_wp2_with fail
  refine (rfirst_at _ _ _ (b.drop n) _ (by rw [List.length_drop]) (CA.out _ (Kd.C_below HR.out HB.out)) (by rw [List.length_drop] at lA; exact lA) (fun x hx => HX.out x (List.mem_of_mem_drop hx)) (by rw [List.length_drop]; omega)).mono ?_
  rintro e W6 ⟨x0, x1, x2, m, v3, v4, rfl, hyes, hb6, ⟨A3, n3, c3, rfl⟩, ⟨A4, n4, c4, rfl⟩⟩
  have HL6 := Aside0.mk (Kd.S_below (Kd.S_mono (Kd.S_bound HL.out) (fun k hk => show k < wr.heap.size from hk.2.2.1)) hb6)
  have HB6 := Aside0.mk (below_then HB.out HB.out.size hb6)
  replace hyes := Aside0.mk hyes
  replace hb6 := Aside0.mk hb6
  cases hok : firstOk (b.drop n) with
  | false =>
   have hE2 : Aside0 (recs = (readAll b).1 ∧ n = (readAll b).2) := ⟨by have := HE.out; rw [readAll_no hok] at this; simpa using this⟩
   go_wp2_with fail
   go_ret2
   refine ⟨.slice AL recs.length cL, ?_, ?_, below_alloc HB6.out _⟩
   ·show Ending.returned (.tuple #[.slice AL recs.length cL, .int .i64 (n : Int)]) = _
    rw [hE2.out.2]
   ·rw [← hE2.out.1]
    exact Kd.S_alloc (Kd.S_mono HL6.out (fun _ _ => trivial)) _
  | true =>
   have hsz := firstOk_size hok
   obtain ⟨e0, e1, e2, e3, e4, e5⟩ := hyes.out hok
   subst e0 e1 e2 e3
   replace e4 := Aside0.mk (Kd.R_mono (Kd.R_bound e4) (fun k hk => show wr.heap.size ≤ k from hk.2.1))
   replace e5 := Aside0.mk (Kd.R_mono (Kd.R_bound e5) (fun k hk => show wr.heap.size ≤ k from hk.2.1))
   obtain ⟨hs1, hs2, hs3, _⟩ := hsz
   rw [List.length_drop] at hs2 hs3
   have hE2 : Aside0 ((recs ++ [recOf (fMid (b.drop n))]) ++ (readAll (b.drop (n + fN (b.drop n)))).1 = (readAll b).1 ∧ (n + fN (b.drop n)) + (readAll (b.drop (n + fN (b.drop n)))).2 = (readAll b).2) := ⟨by
    have := HE.out
    rw [readAll_yes hok, List.drop_drop] at this
    refine ⟨by rw [← this.1]; simp, by rw [← this.2]; simp only; omega⟩⟩
   have hrl : recs.length ≤ b.length := by
    have h1 := congrArg List.length HE.out.1
    have h2 := readAll_count b
    rw [List.length_append] at h1
    omega
   generalize fN (b.drop n) = q at *
   generalize hrec : recOf (fMid (b.drop n)) = rc at *
   clear hok HE hyes
   have hov : Aside0 (∀ k, (Value.slice AL recs.length cL).ownBlock = some k → k < wr.heap.size) := ⟨(Kd.S_R HL6.out).1⟩
   have hzz : wr.heap.size ≤ W6.heap.size := hb6.out.size
   go_wp2_with (first | (at_builtin; refine Kd.S_append k25 (w0 := w) w.heap.size rfl (.tmp 21) (.tmp 23) 37 25 (.agg #[.int .i64 0, .int .i64 0, .int .i64 0, .slice none 0 0, .slice none 0 0]) 72 rfl Try.underlying37 info25x rfl (by decide) (by decide) _ recs rc [.int .i64 rc.f0, .int .i64 rc.f1, .int .i64 rc.f2, .slice A3 n3 c3, .slice A4 n4 c4] (fun _ => True) (fun k => wr.heap.size ≤ k) rfl (by first | rfl | (go_simp; done) | (simp; done)) (k25_mkM _ _ _ _ (Kd.R_alloc (Kd.R_lower e4.out HB.out.size) _) (Kd.R_alloc (Kd.R_lower e5.out HB.out.size) _)) (fun k h => ⟨trivial, fun e => Nat.lt_irrefl _ (Nat.lt_of_lt_of_le (hov.out k e.symm) h)⟩) (fun _ _ => trivial) (Kd.S_mono (Kd.S_alloc HL6.out _) (fun k hk => ⟨trivial, fun h => Nat.lt_irrefl _ (Nat.lt_of_lt_of_le hk h)⟩)) (below_alloc HB6.out _) (below_alloc HB6.out _).size ?hl ?_; (case hl => omega); intro v5 W5 HL5 HB5 hg5 hat5; obtain ⟨AL5, cL5, rfl⟩ := Kd.R_slice (Kd.S_R HL5)) | (go_at_call 35; fail))
   have hw9 : IntKind.i64.wrap ((n : Int) + (q : Int)) = (n : Int) + (q : Int) := IntWalk.i64_in _ (by omega)
   refine ⟨⟨n + q, recs ++ [rc], AL5, cL5, by omega, by simp, ?_, ⟨HL5⟩, ⟨HB5⟩, hE2⟩, ?_⟩
   ·first | rfl | (simp; done) | (rw [hw9]; simp) | (simp [hw9])
   ·simp [intOf, hw9]
    omega
theorem drayageref20_Read.calls (A0 : Option Addr) (c0 : Nat) (l0 : List Int) (r1 : List S25) (r2 : Int) (w : World) (hr0 : Kd.C (Kd.int .u8) w A0 l0.length l0) (hc0 : l0.length ≤ c0) (h : drayageref20_Read.f l0 = some (r1, r2)) :
  Calls Try.prog 20 #[.slice A0 l0.length c0] w fun e w' => ∃ v0_ : Value, e = .returned (.tuple #[v0_, .int .i64 r2]) ∧ Kd.S k25 25 w' w.heap.size (fun _ => True) v0_ r1 ∧ Below w.heap.size w w' := by
 unfold drayageref20_Read.f journal_Read.f at h
 split at h
 ·rename_i hk
  obtain ⟨h1, h2⟩ := bytesOk_byte hk
  cases h
  exact rread_calls A0 c0 l0 w hr0 hc0 h1 h2
 ·cases h
end Go.Proofs.Ytagkgddkpnbfoaa.P
