import Derived.Test.YtagkgddkpnbfoaaHjbytes
import Derived.Test.YtagkgddkpnbfoaaPureJournalReads
namespace Go.Proofs.Ytagkgddkpnbfoaa.P
set_option linter.unusedVariables false
open Go.RowKit Go.Proofs.YtagkgddkpnbfoaaW.PrintWords Go.Proofs.YtagkgddkpnbfoaaW.PrintLast Go.Proofs.YtagkgddkpnbfoaaW.PrintMore

def drayagelaw20_JournalBytes.f (k n m : Int) (l3 : List Int) (l4 : List S49) (b : List Int) : Option Bool := if bytesOk b = true then some true else none
theorem drayagelaw20_JournalBytes.calls (k n m : Int) (A3 : Option Addr) (c3 : Nat) (l3 : List Int) (A4 : Option Addr) (c4 : Nat) (l4 : List S49) (A0 : Option Addr) (c0 : Nat) (b : List Int) (r : Bool) (w : World)
  (hr3 : Kd.C (Kd.int .i64) w A3 l3.length l3) (h3 : l3.length ≤ c3) (hr4 : Kd.C k49 w A4 l4.length l4) (h4 : l4.length ≤ c4) (hrb : Kd.C (Kd.int .u8) w A0 b.length b) (hcb : b.length ≤ c0) (h : drayagelaw20_JournalBytes.f k n m l3 l4 b = some r) :
  Calls Try.prog 3 #[.agg #[.int .i64 k, .int .i64 n, .int .i64 m, .slice A3 l3.length c3, .slice A4 l4.length c4], .slice A0 b.length c0] w fun e w' => e = .returned (.bool r) ∧ Below w.heap.size w w' := by
 unfold drayagelaw20_JournalBytes.f at h
 split at h
 ·rename_i hb
  obtain rfl := Option.some.inj h
  exact JournalBytes_calls k n m A3 c3 l3 A4 c4 l4 A0 c0 b w hr3 h3 hr4 h4 hrb hcb (bytesOk_byte hb).1
 ·cases h
def kn_Reads.f (b : List Int) : Option Bool := if bytesOk b = true then some true else none
theorem kn_Reads.calls (A0 : Option Addr) (c0 : Nat) (b : List Int) (r : Bool) (w : World) (hrb : Kd.C (Kd.int .u8) w A0 b.length b) (hcb : b.length ≤ c0) (h : kn_Reads.f b = some r) :
  Calls Try.prog 4 #[.slice A0 b.length c0] w fun e w' => e = .returned (.bool r) ∧ Below w.heap.size w w' := by
 unfold kn_Reads.f at h
 split at h
 ·rename_i hb
  obtain rfl := Option.some.inj h
  obtain ⟨h1, h2⟩ := bytesOk_byte hb
  obtain ⟨k, hk⟩ := Pure.JournalReads b hrb.2.1 (by omega) (fun x hx => WalkArith.wf_u8 (h1 x hx))
  exact drayagelaw20_JournalReads.calls k A0 c0 b true w hrb hcb hk
 ·cases h
end Go.Proofs.Ytagkgddkpnbfoaa.P
namespace Go.Proofs.Ytagkgddkpnbfoaa.P
set_option linter.unusedVariables false
open Go.RowKit Go.Proofs.YtagkgddkpnbfoaaW.PrintWords Go.Proofs.YtagkgddkpnbfoaaW.PrintLast Go.Proofs.YtagkgddkpnbfoaaW.PrintMore
theorem k25_openF {W : World} {ok : Nat → Prop} {x : S25} {cs : List Value} (h : Kd.FK k25 W ok x cs) : ∃ A3 c3 A4 c4, cs = [.int .i64 x.f0, .int .i64 x.f1, .int .i64 x.f2, .slice A3 x.f3.length c3, .slice A4 x.f4.length c4] ∧ x.f3.length ≤ c3 ∧ Kd.F (Kd.int .i64) W ok A3 x.f3.length x.f3 ∧ x.f4.length ≤ c4 ∧ Kd.F k49 W ok A4 x.f4.length x.f4 := by
 obtain ⟨A3, c3, A4, c4, rfl, l3, _, l4, _⟩ := k25_open (Kd.FK_now h)
 exact ⟨A3, c3, A4, c4, rfl, l3, (fun W' hW => by obtain ⟨A3_, c3_, A4_, c4_, he, l3_, g3_, l4_, g4_⟩ := k25_open (h W' hW); injection (Option.some.inj (show some (Value.slice A3 x.f3.length c3) = some (Value.slice A3_ x.f3.length c3_) from congrArg (fun l => l[3]?) he)) with ha_ _ _; rw [ha_]; exact g3_), l4, (fun W' hW => by obtain ⟨A3_, c3_, A4_, c4_, he, l3_, g3_, l4_, g4_⟩ := k25_open (h W' hW); injection (Option.some.inj (show some (Value.slice A4 x.f4.length c4) = some (Value.slice A4_ x.f4.length c4_) from congrArg (fun l => l[4]?) he)) with ha_ _ _; rw [ha_]; exact g4_)⟩
theorem k25_mkF (W : World) (ok : Nat → Prop) (x : S25) {A3 : Option Addr} {c3 : Nat} (l3 : x.f3.length ≤ c3) (g3 : Kd.F (Kd.int .i64) W ok A3 x.f3.length x.f3) {A4 : Option Addr} {c4 : Nat} (l4 : x.f4.length ≤ c4) (g4 : Kd.F k49 W ok A4 x.f4.length x.f4) : Kd.FK k25 W ok x [.int .i64 x.f0, .int .i64 x.f1, .int .i64 x.f2, .slice A3 x.f3.length c3, .slice A4 x.f4.length c4] := fun W2 hW => k25_mk W2 x l3 (g3 W2 hW) l4 (g4 W2 hW)
theorem kn_not (b : List Int) : kn_Reads.f b ≠ some false := by
 unfold kn_Reads.f
 split <;> simp
theorem step1_C {W : World} {g : Nat} {a b c : Int} (h : W.heap[g]? = some (.cells #[.int .i64 a, .int .i64 b, .int .i64 c] 49 (0, 0))) : Kd.C k49 W (some ⟨g, 0, none⟩) 1 [(⟨a, b, c⟩ : S49)] := by
 refine ⟨rfl, by decide, fun _ => ⟨_, rfl, fun j p hj => ?_⟩⟩
 rcases j with _ | j
 ·simp at hj; subst hj
  refine ⟨_, rfl, k49_mk W ⟨a, b, c⟩, fun i u hu => ?_⟩
  have hi : i < 3 := (List.getElem?_eq_some_iff.1 hu).1
  rw [show (⟨g, 0, none⟩ : Addr).add (0 * k49.sz + i) = ⟨g, i, none⟩ by rw [Nat.zero_mul, Nat.zero_add]; exact add_plain g i, blk_cell h i]
  simpa using hu
 ·simp at hj
theorem recs3_C {W : World} {g : Nat} {A3 A4 : Option Addr} {c3 c4 : Nat} {l3 : List Int} {l4 : List S49}
  (h : W.heap[g]? = some (.cells #[.int .i64 1, .int .i64 0, .int .i64 0, .slice A3 l3.length c3, .slice A4 l4.length c4, .int .i64 1, .int .i64 0, .int .i64 0, .slice none 0 0, .slice none 0 0, .int .i64 1, .int .i64 0, .int .i64 0, .slice A3 l3.length c3, .slice A4 l4.length c4] 25 (0, 0)))
  (h3 : Kd.C (Kd.int .i64) W A3 l3.length l3) (k3 : l3.length ≤ c3) (h4 : Kd.C k49 W A4 l4.length l4) (k4 : l4.length ≤ c4) :
  Kd.C k25 W (some ⟨g, 0, none⟩) [(⟨1, 0, 0, l3, l4⟩ : S25), ⟨1, 0, 0, [], []⟩, ⟨1, 0, 0, l3, l4⟩].length [(⟨1, 0, 0, l3, l4⟩ : S25), ⟨1, 0, 0, [], []⟩, ⟨1, 0, 0, l3, l4⟩] := by
 have e : ∀ i, (⟨g, 0, none⟩ : Addr).add i = ⟨g, i, none⟩ := add_plain g
 refine ⟨rfl, by simp, fun _ => ⟨_, rfl, fun j p hj => ?_⟩⟩
 rcases j with _ | _ | _ | j
 ·simp at hj; subst hj
  refine ⟨_, rfl, k25_mk W ⟨1, 0, 0, l3, l4⟩ k3 h3 k4 h4, fun i u hu => ?_⟩
  have hi : i < 5 := (List.getElem?_eq_some_iff.1 hu).1
  rw [e, blk_cell h]
  rw [show k25.sz = 5 from rfl]
  rcases i with _ | _ | _ | _ | _ | i <;> first | exact hu | omega
 ·simp at hj; subst hj
  refine ⟨_, rfl, k25_mk W ⟨1, 0, 0, [], []⟩ (Nat.le_refl 0) (Kd.C_nil _ _) (Nat.le_refl 0) (Kd.C_nil _ _), fun i u hu => ?_⟩
  have hi : i < 5 := (List.getElem?_eq_some_iff.1 hu).1
  rw [e, blk_cell h]
  rw [show k25.sz = 5 from rfl]
  rcases i with _ | _ | _ | _ | _ | i <;> first | exact hu | omega
 ·simp at hj; subst hj
  refine ⟨_, rfl, k25_mk W ⟨1, 0, 0, l3, l4⟩ k3 h3 k4 h4, fun i u hu => ?_⟩
  have hi : i < 5 := (List.getElem?_eq_some_iff.1 hu).1
  rw [e, blk_cell h]
  rw [show k25.sz = 5 from rfl]
  rcases i with _ | _ | _ | _ | _ | i <;> first | exact hu | omega
 ·simp at hj
theorem zeros_byte {n : Nat} {z : List Int} (h : List.replicate n (0 : Int) = z) : ∀ x ∈ z, isByte x := by
 subst h
 intro x hx
 obtain ⟨_, rfl⟩ := List.mem_replicate.1 hx
 exact ⟨by decide, by decide⟩
theorem info5x : (Try.prog.info? 5).map (fun i => (i.zero, i.size, i.bytes)) = some (some (.int .u8 0), 1, 1) := by kernel_rfl
theorem check25 (l : List Int) (st : List S49) (h : l.length = 25) : journal_Check.f 1 0 0 l st = some 2 := by
 unfold journal_Check.f
 rw [ok_of_plan 1 0 0 l st ⟨rfl, rfl, rfl⟩]
 have : okPlan l st = false := by unfold okPlan; simp [h]
 rw [this]
 rfl
end Go.Proofs.Ytagkgddkpnbfoaa.P
