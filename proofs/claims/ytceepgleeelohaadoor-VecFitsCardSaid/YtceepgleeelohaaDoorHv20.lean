import Derived.Test.YtceepgleeelohaaDoorHv0
import Derived.Test.YtceepgleeelohaaDoorHv8
import Derived.Test.YtceepgleeelohaaDoorHv13
import Derived.Test.YtceepgleeelohaaDoorHv16
import Derived.Test.YtceepgleeelohaaDoorHrow
/- The law VecFits, walked. -/
namespace Go.Proofs.YtceepgleeelohaaDoor.P
set_option linter.unusedVariables false
set_option linter.unusedSimpArgs false
open Go.RowKit Go.Proofs.YtceepgleeelohaaDoorW.PrintWords Go.Proofs.YtceepgleeelohaaDoorW.PrintLast Go.Proofs.YtceepgleeelohaaDoorW.PrintMore
attribute [local go_sem] max2_int min2_int max_two min_two eq23
/-- three rows lie in a block -/
structure Th (W : World) (g : Nat) (a b c d e a' b' c' d' e' a'' b'' c'' d'' e'' : Int) : Prop where mk :: (out : W.heap[g]? = some (.cells #[.int .i64 a, .int .i64 b, .int .i64 c, .int .i64 d, .int .i64 e, .int .i64 a', .int .i64 b', .int .i64 c', .int .i64 d', .int .i64 e', .int .i64 a'', .int .i64 b'', .int .i64 c'', .int .i64 d'', .int .i64 e''] 24 (0, 0)))
theorem Th.lt {W : World} {g : Nat} {a b c d e a' b' c' d' e' a'' b'' c'' d'' e'' : Int} (h : Th W g a b c d e a' b' c' d' e' a'' b'' c'' d'' e'') : g < W.heap.size := blk_lt h.out
theorem Th.below {W W' : World} {g : Nat} {a b c d e a' b' c' d' e' a'' b'' c'' d'' e'' : Int} (h : Th W g a b c d e a' b' c' d' e' a'' b'' c'' d'' e'') (hb : Below W.heap.size W W') : Th W' g a b c d e a' b' c' d' e' a'' b'' c'' d'' e'' := ⟨(hb.block g h.lt).trans h.out⟩
theorem Th.alloc {W : World} {g : Nat} {a b c d e a' b' c' d' e' a'' b'' c'' d'' e'' : Int} (h : Th W g a b c d e a' b' c' d' e' a'' b'' c'' d'' e'') (o : Obj) : Th (W.alloc o) g a b c d e a' b' c' d' e' a'' b'' c'' d'' e'' := ⟨(Below.heap_alloc W o g h.lt).trans h.out⟩
theorem Th.drew {W : World} {g : Nat} {a b c d e a' b' c' d' e' a'' b'' c'' d'' e'' : Int} (h : Th W g a b c d e a' b' c' d' e' a'' b'' c'' d'' e'') : Th W.drew g a b c d e a' b' c' d' e' a'' b'' c'' d'' e'' := ⟨h.out⟩
theorem Th.other {W : World} {g k : Nat} {a b c d e a' b' c' d' e' a'' b'' c'' d'' e'' : Int} (h : Th W g a b c d e a' b' c' d' e' a'' b'' c'' d'' e'') (i : Nat) (x : Value) (hk : g ≠ k) : Th (W.setCell ⟨k, i, none⟩ x) g a b c d e a' b' c' d' e' a'' b'' c'' d'' e'' := ⟨(Below.heap_setCell W _ x g hk).trans h.out⟩
theorem Th.five_other {W : World} {g h : Nat} {a b c d e a' b' c' d' e' a'' b'' c'' d'' e'' : Int} (hA : Th W g a b c d e a' b' c' d' e' a'' b'' c'' d'' e'') (hk : g ≠ h) (x0 x1 x2 x3 x4 : Value) : Th (((((W.setCell ⟨h, 0, none⟩ x0).setCell ⟨h, 1, none⟩ x1).setCell ⟨h, 2, none⟩ x2).setCell ⟨h, 3, none⟩ x3).setCell ⟨h, 4, none⟩ x4) g a b c d e a' b' c' d' e' a'' b'' c'' d'' e'' :=
  ((((hA.other 0 x0 hk).other 1 x1 hk).other 2 x2 hk).other 3 x3 hk).other 4 x4 hk
theorem below_new {H : Nat} {w W : World} (hb : Below H w W) (hH : H ≤ W.heap.size) : Below H w (W.alloc (.cells #[.int .i64 0, .int .i64 0, .int .i64 0, .int .i64 0, .int .i64 0] 23)) := hb.alloc hH _
theorem At.new0 (W : World) : At (W.alloc (.cells #[.int .i64 0, .int .i64 0, .int .i64 0, .int .i64 0, .int .i64 0] 23)) W.heap.size 0 0 0 0 0 := At.new W 0 0 0 0 0
theorem le_new {H : Nat} {W : World} (h : H ≤ W.heap.size) : H ≤ (W.alloc (.cells #[.int .i64 0, .int .i64 0, .int .i64 0, .int .i64 0, .int .i64 0] 23)).heap.size := by rw [show (W.alloc (.cells #[.int .i64 0, .int .i64 0, .int .i64 0, .int .i64 0, .int .i64 0] 23)).heap.size = W.heap.size + 1 by simp]; omega
theorem size_new (W : World) : (W.alloc (.cells #[.int .i64 0, .int .i64 0, .int .i64 0, .int .i64 0, .int .i64 0] 23)).heap.size = W.heap.size + 1 := by simp
theorem Th.cell_0 {W : World} {g : Nat} {a b c d e a' b' c' d' e' a'' b'' c'' d'' e'' : Int} (h : Th W g a b c d e a' b' c' d' e' a'' b'' c'' d'' e'') : W.cell? ⟨g, 0, none⟩ = some (.int .i64 a) := (blk_cell h.out 0).trans rfl
theorem Th.cell_1 {W : World} {g : Nat} {a b c d e a' b' c' d' e' a'' b'' c'' d'' e'' : Int} (h : Th W g a b c d e a' b' c' d' e' a'' b'' c'' d'' e'') : W.cell? ⟨g, 1, none⟩ = some (.int .i64 b) := (blk_cell h.out 1).trans rfl
theorem Th.cell_2 {W : World} {g : Nat} {a b c d e a' b' c' d' e' a'' b'' c'' d'' e'' : Int} (h : Th W g a b c d e a' b' c' d' e' a'' b'' c'' d'' e'') : W.cell? ⟨g, 2, none⟩ = some (.int .i64 c) := (blk_cell h.out 2).trans rfl
theorem Th.cell_3 {W : World} {g : Nat} {a b c d e a' b' c' d' e' a'' b'' c'' d'' e'' : Int} (h : Th W g a b c d e a' b' c' d' e' a'' b'' c'' d'' e'') : W.cell? ⟨g, 3, none⟩ = some (.int .i64 d) := (blk_cell h.out 3).trans rfl
theorem Th.cell_4 {W : World} {g : Nat} {a b c d e a' b' c' d' e' a'' b'' c'' d'' e'' : Int} (h : Th W g a b c d e a' b' c' d' e' a'' b'' c'' d'' e'') : W.cell? ⟨g, 4, none⟩ = some (.int .i64 e) := (blk_cell h.out 4).trans rfl
theorem Th.cell_5 {W : World} {g : Nat} {a b c d e a' b' c' d' e' a'' b'' c'' d'' e'' : Int} (h : Th W g a b c d e a' b' c' d' e' a'' b'' c'' d'' e'') : W.cell? ⟨g, 5, none⟩ = some (.int .i64 a') := (blk_cell h.out 5).trans rfl
theorem Th.cell_6 {W : World} {g : Nat} {a b c d e a' b' c' d' e' a'' b'' c'' d'' e'' : Int} (h : Th W g a b c d e a' b' c' d' e' a'' b'' c'' d'' e'') : W.cell? ⟨g, 6, none⟩ = some (.int .i64 b') := (blk_cell h.out 6).trans rfl
theorem Th.cell_7 {W : World} {g : Nat} {a b c d e a' b' c' d' e' a'' b'' c'' d'' e'' : Int} (h : Th W g a b c d e a' b' c' d' e' a'' b'' c'' d'' e'') : W.cell? ⟨g, 7, none⟩ = some (.int .i64 c') := (blk_cell h.out 7).trans rfl
theorem Th.cell_8 {W : World} {g : Nat} {a b c d e a' b' c' d' e' a'' b'' c'' d'' e'' : Int} (h : Th W g a b c d e a' b' c' d' e' a'' b'' c'' d'' e'') : W.cell? ⟨g, 8, none⟩ = some (.int .i64 d') := (blk_cell h.out 8).trans rfl
theorem Th.cell_9 {W : World} {g : Nat} {a b c d e a' b' c' d' e' a'' b'' c'' d'' e'' : Int} (h : Th W g a b c d e a' b' c' d' e' a'' b'' c'' d'' e'') : W.cell? ⟨g, 9, none⟩ = some (.int .i64 e') := (blk_cell h.out 9).trans rfl
theorem Th.cell_10 {W : World} {g : Nat} {a b c d e a' b' c' d' e' a'' b'' c'' d'' e'' : Int} (h : Th W g a b c d e a' b' c' d' e' a'' b'' c'' d'' e'') : W.cell? ⟨g, 10, none⟩ = some (.int .i64 a'') := (blk_cell h.out 10).trans rfl
theorem Th.cell_11 {W : World} {g : Nat} {a b c d e a' b' c' d' e' a'' b'' c'' d'' e'' : Int} (h : Th W g a b c d e a' b' c' d' e' a'' b'' c'' d'' e'') : W.cell? ⟨g, 11, none⟩ = some (.int .i64 b'') := (blk_cell h.out 11).trans rfl
theorem Th.cell_12 {W : World} {g : Nat} {a b c d e a' b' c' d' e' a'' b'' c'' d'' e'' : Int} (h : Th W g a b c d e a' b' c' d' e' a'' b'' c'' d'' e'') : W.cell? ⟨g, 12, none⟩ = some (.int .i64 c'') := (blk_cell h.out 12).trans rfl
theorem Th.cell_13 {W : World} {g : Nat} {a b c d e a' b' c' d' e' a'' b'' c'' d'' e'' : Int} (h : Th W g a b c d e a' b' c' d' e' a'' b'' c'' d'' e'') : W.cell? ⟨g, 13, none⟩ = some (.int .i64 d'') := (blk_cell h.out 13).trans rfl
theorem Th.cell_14 {W : World} {g : Nat} {a b c d e a' b' c' d' e' a'' b'' c'' d'' e'' : Int} (h : Th W g a b c d e a' b' c' d' e' a'' b'' c'' d'' e'') : W.cell? ⟨g, 14, none⟩ = some (.int .i64 e'') := (blk_cell h.out 14).trans rfl
theorem Th.all {W : World} {g : Nat} {a b c d e a' b' c' d' e' a'' b'' c'' d'' e'' : Int} (h : Th W g a b c d e a' b' c' d' e' a'' b'' c'' d'' e'') : W.cell? ⟨g, 0, none⟩ = some (.int .i64 a) ∧ W.cell? ⟨g, 1, none⟩ = some (.int .i64 b) ∧ W.cell? ⟨g, 2, none⟩ = some (.int .i64 c) ∧ W.cell? ⟨g, 3, none⟩ = some (.int .i64 d) ∧ W.cell? ⟨g, 4, none⟩ = some (.int .i64 e) ∧ W.cell? ⟨g, 5, none⟩ = some (.int .i64 a') ∧ W.cell? ⟨g, 6, none⟩ = some (.int .i64 b') ∧ W.cell? ⟨g, 7, none⟩ = some (.int .i64 c') ∧ W.cell? ⟨g, 8, none⟩ = some (.int .i64 d') ∧ W.cell? ⟨g, 9, none⟩ = some (.int .i64 e') ∧ W.cell? ⟨g, 10, none⟩ = some (.int .i64 a'') ∧ W.cell? ⟨g, 11, none⟩ = some (.int .i64 b'') ∧ W.cell? ⟨g, 12, none⟩ = some (.int .i64 c'') ∧ W.cell? ⟨g, 13, none⟩ = some (.int .i64 d'') ∧ W.cell? ⟨g, 14, none⟩ = some (.int .i64 e'') := ⟨h.cell_0, h.cell_1, h.cell_2, h.cell_3, h.cell_4, h.cell_5, h.cell_6, h.cell_7, h.cell_8, h.cell_9, h.cell_10, h.cell_11, h.cell_12, h.cell_13, h.cell_14⟩
def fits.T1 : Bool × List (List Nat × List Nat) := (true, [([], []), ([0], [0]), ([1], [1]), ([], []), ([3], [3]), ([4, 2], [4]), ([], []), ([6], [6]), ([7, 5], [7]), ([], []), ([], []), ([], []), ([9, 2, 8, 0, 1, 2, 9, 10, 11], [2, 9]), ([10, 5, 12, 0, 1, 2, 3, 4, 5, 9, 10, 11, 12], [5, 10]), ([11, 8, 13, 0, 1, 2, 3, 4, 5, 6, 7, 8, 9, 10, 11, 12, 13], [8, 11])])
def fits.B1 : List Nat := [0, 1, 3, 0, 8, 31, 0, 64, 255, 0, 0, 0, 4095, 8191, 16383]
theorem fits.tab1 : rtab .any (opsOf Tryd.f3 1) = fits.T1 := by kernel_rfl
theorem fits.bits1 : waitsOk fits.T1.2 fits.B1 = true := by kernel_rfl
/-- b and c, row by row -/
def QV (l u v : V) : Nat → V
  | 0 => u
  | k + 1 => if Int.tmod (l.get k) 2 = 0 then (QV l u v k).set k (if (QV l u v k).get k < v.get k then v.get k else (QV l u v k).get k) else QV l u v k
def RV (m u : V) (q : Nat → V) : Nat → V
  | 0 => u
  | k + 1 => if Int.tmod (m.get k) 2 = 0 then (RV m u q k).set k (if (RV m u q k).get k < (q (k + 1)).get k then (q (k + 1)).get k else (RV m u q k).get k) else RV m u q k
abbrev AtW (W : World) (g : Nat) (v : V) : Prop := At W g v.a v.b v.c v.d v.e
theorem AtW.at_ {W : World} {g : Nat} {v : V} (h : AtW W g v) (i : Nat) (hi : i < 5) : W.cell? ⟨g, i, none⟩ = some (.int .i64 (v.get i)) := At.at_ h i hi
theorem AtW.set_ {W : World} {g : Nat} {v : V} (h : AtW W g v) (i : Nat) (hi : i < 5) (x : Int) : AtW (W.setCell ⟨g, i, none⟩ (.int .i64 x)) g (v.set i x) := AtV.set_ h i hi x
/-- what the three rows answer -/
structure FitsP (x y z : V) : Prop where mk ::
  tr : V.fits x y = true → V.fits y z = true → V.fits x z = true
  rf : V.fits x x = true
  ov : (V.overK x y 5 == 0) = V.fits x y
  mi : ((V.minus y x).2 == 0) = V.fits x y
  pl : ∃ s : V, V.plus [x, y] = (s, 0) ∧ V.minus s x = (y, 0)
  bk : (V.minus y x).2 = 0 → V.plus [(V.minus y x).1, x] = (y, 0)
  tw : ∃ t : V, V.times x 2 = (t, 0) ∧ V.plus [x, x] = (t, 0)
theorem Th.at0 {W : World} {g : Nat} {a b c d e a' b' c' d' e' a'' b'' c'' d'' e'' : Int} (h : Th W g a b c d e a' b' c' d' e' a'' b'' c'' d'' e'') (i : Nat) (hi : i < 5) : W.cell? ⟨g, i, none⟩ = some (.int .i64 (V.get ⟨a, b, c, d, e⟩ i)) := by
  have h5 : i = 0 ∨ i = 1 ∨ i = 2 ∨ i = 3 ∨ i = 4 := by omega
  rcases h5 with rfl | rfl | rfl | rfl | rfl
  · exact h.cell_0
  · exact h.cell_1
  · exact h.cell_2
  · exact h.cell_3
  · exact h.cell_4
theorem Th.at1 {W : World} {g : Nat} {a b c d e a' b' c' d' e' a'' b'' c'' d'' e'' : Int} (h : Th W g a b c d e a' b' c' d' e' a'' b'' c'' d'' e'') (i : Nat) (hi : i < 5) : W.cell? ⟨g, 5 + i, none⟩ = some (.int .i64 (V.get ⟨a', b', c', d', e'⟩ i)) := by
  have h5 : i = 0 ∨ i = 1 ∨ i = 2 ∨ i = 3 ∨ i = 4 := by omega
  rcases h5 with rfl | rfl | rfl | rfl | rfl
  · exact h.cell_5
  · exact h.cell_6
  · exact h.cell_7
  · exact h.cell_8
  · exact h.cell_9
theorem At.new_at0 {W : World} {h : Nat} (hs : W.heap.size = h) : At (W.alloc (.cells #[.int .i64 0, .int .i64 0, .int .i64 0, .int .i64 0, .int .i64 0] 23)) h 0 0 0 0 0 := hs ▸ At.new W 0 0 0 0 0
theorem rws2 (W : World) (g : Nat) (a b c d e a' b' c' d' e' : Int) (h : W.heap[g]? = some (.cells #[.int .i64 a, .int .i64 b, .int .i64 c, .int .i64 d, .int .i64 e, .int .i64 a', .int .i64 b', .int .i64 c', .int .i64 d', .int .i64 e'] 23 (0, 0))) : Rws W g 0 [⟨a, b, c, d, e⟩, ⟨a', b', c', d', e'⟩] :=
  ⟨blk_lt h, fun k hk j hj => by
    have hk2 : k = 0 ∨ k = 1 := by simp at hk; omega
    have h5 : j = 0 ∨ j = 1 ∨ j = 2 ∨ j = 3 ∨ j = 4 := by omega
    rcases hk2 with rfl | rfl <;> rcases h5 with rfl | rfl | rfl | rfl | rfl <;> exact (blk_cell h _).trans rfl⟩
theorem plus2_c (a b c d e a' b' c' d' e' : Int) (W : World) : Calls Tryd.prog 12 #[.slice (some ⟨W.heap.size, 0, none⟩) 2 2] (W.alloc (.cells #[.int .i64 a, .int .i64 b, .int .i64 c, .int .i64 d, .int .i64 e, .int .i64 a', .int .i64 b', .int .i64 c', .int .i64 d', .int .i64 e'] 23)) fun e_ w' => e_ = .returned (.tuple #[(V.plus [⟨a, b, c, d, e⟩, ⟨a', b', c', d', e'⟩]).1.val, .int .i64 (V.plus [⟨a, b, c, d, e⟩, ⟨a', b', c', d', e'⟩]).2]) ∧ Below W.heap.size W w' :=
  (plus_c W.heap.size 0 2 (some ⟨W.heap.size, 0, none⟩) [⟨a, b, c, d, e⟩, ⟨a', b', c', d', e'⟩] _ (by simp) (by simp) (fun _ => ⟨rfl, rws2 _ _ a b c d e a' b' c' d' e' (heap_alloc_new W _)⟩)).mono fun e_ w' h => ⟨h.1, bk (below_alloc (Below.refl _ _) _) (by simp) h.2⟩
theorem plus2_cn (a b c d e a' b' c' d' e' : Int) (n : Nat) (W : World) (hn : W.heap.size = n) : Calls Tryd.prog 12 #[.slice (some ⟨n, 0, none⟩) 2 2] (W.alloc (.cells #[.int .i64 a, .int .i64 b, .int .i64 c, .int .i64 d, .int .i64 e, .int .i64 a', .int .i64 b', .int .i64 c', .int .i64 d', .int .i64 e'] 23)) fun e_ w' => e_ = .returned (.tuple #[(V.plus [⟨a, b, c, d, e⟩, ⟨a', b', c', d', e'⟩]).1.val, .int .i64 (V.plus [⟨a, b, c, d, e⟩, ⟨a', b', c', d', e'⟩]).2]) ∧ Below W.heap.size W w' := by
  subst hn
  exact plus2_c a b c d e a' b' c' d' e' W
set_option maxRecDepth 100000 in
set_option maxHeartbeats 60000000 in
theorem vecFits_w (a b c d e a' b' c' d' e' a'' b'' c'' d'' e'' : Int) (w : World) (hT : Tb w) (hN : Nm w) (hP : FitsP ⟨(a % 68719476736), (b % 68719476736), (c % 68719476736), (d % 68719476736), (e % 68719476736)⟩ (QV ⟨a, b, c, d, e⟩ ⟨(a' % 68719476736), (b' % 68719476736), (c' % 68719476736), (d' % 68719476736), (e' % 68719476736)⟩ ⟨(a % 68719476736), (b % 68719476736), (c % 68719476736), (d % 68719476736), (e % 68719476736)⟩ 5) (RV ⟨a', b', c', d', e'⟩ ⟨(a'' % 68719476736), (b'' % 68719476736), (c'' % 68719476736), (d'' % 68719476736), (e'' % 68719476736)⟩ (QV ⟨a, b, c, d, e⟩ ⟨(a' % 68719476736), (b' % 68719476736), (c' % 68719476736), (d' % 68719476736), (e' % 68719476736)⟩ ⟨(a % 68719476736), (b % 68719476736), (c % 68719476736), (d % 68719476736), (e % 68719476736)⟩) 5)) :
    Calls Tryd.prog 3 #[.agg #[.int .i64 a, .int .i64 b, .int .i64 c, .int .i64 d, .int .i64 e, .int .i64 a', .int .i64 b', .int .i64 c', .int .i64 d', .int .i64 e', .int .i64 a'', .int .i64 b'', .int .i64 c'', .int .i64 d'', .int .i64 e'']] w fun e_ w' => e_ = .returned (.bool true) ∧ Below w.heap.size w w' := by
  obtain ⟨g, hg⟩ : ∃ g, w.heap.size = g := ⟨_, rfl⟩
  obtain ⟨W0, hW0⟩ : ∃ W, w.alloc (.cells #[.int .i64 a, .int .i64 b, .int .i64 c, .int .i64 d, .int .i64 e, .int .i64 a', .int .i64 b', .int .i64 c', .int .i64 d', .int .i64 e', .int .i64 a'', .int .i64 b'', .int .i64 c'', .int .i64 d'', .int .i64 e''] 24) = W := ⟨_, rfl⟩
  have t_ : Th W0 g a b c d e a' b' c' d' e' a'' b'' c'' d'' e'' := by rw [← hW0, ← hg]; exact ⟨heap_alloc_new w _⟩
  have b0_ : Below g w W0 := by rw [← hW0, ← hg]; exact below_alloc (Below.refl _ _) _
  have t0_ := t_.drew
  obtain ⟨H, hH⟩ : ∃ H, W0.heap.size = H := ⟨_, rfl⟩
  have hH2 : W0.drew.heap.size = H := hH
  have hgH0 : g < H := by have := t_.lt; omega
  have hTh := t0_
  have hB : Below H W0.drew W0.drew := Below.refl _ _
  have hHs : H ≤ W0.drew.heap.size := Nat.le_of_eq hH2.symm
  have HT := Aside0.mk (And.intro hT hN)
  have HP0 := Aside0.mk hP
  have fB_ := Aside0.mk hB
  have fT_ := Aside0.mk hTh
  have fS_ := Aside0.mk hHs
  clear hP hT hN t_ hB hTh hHs
  go_enter Tryd.func3, Tryd.ntmps3
  go_wp2_with fail
  refine start_ (n := 15) (S := fun w' => True) (ds := []) #[false, false, false, false, false, false, false, false, false, false, false, false, false, false, false] (by kernel_rfl) rfl rfl trivial (fun hHeld => ?_)
  refine with_tabW fits.tab1 fits.bits1 (fun HT_ HW_ => ?_)
  refine pure_ (i := 0) (N := some 19) (v := ?_) (a' := ?_) #[true, false, false, false, false, false, false, false, false, false, false, false, false, false, false] rfl rfl (any_of HT_.out (by kernel_rfl)) (fun _ _ _ h => h) (Or.inl ⟨by rfl, ?_⟩) ?_ ?_
  rotate_left
  · intro w'
    go_simp
    with_reducible rfl
  rotate_left
  · simp only [Act.put, List.setIfInBounds_toArray, List.set_cons_zero, List.set_cons_succ, i64_w, i32_w]
    rfl
  refine pure_ (i := 3) (N := some 22) (v := ?_) (a' := ?_) #[true, false, false, true, false, false, false, false, false, false, false, false, false, false, false] rfl rfl (any_of HT_.out (by kernel_rfl)) (fun _ _ _ h => h) (Or.inl ⟨by rfl, ?_⟩) ?_ ?_
  rotate_left
  · intro w'
    go_simp
    with_reducible rfl
  rotate_left
  · simp only [Act.put, List.setIfInBounds_toArray, List.set_cons_zero, List.set_cons_succ, i64_w, i32_w]
    rfl
  refine pure_ (i := 6) (N := some 25) (v := ?_) (a' := ?_) #[true, false, false, true, false, false, true, false, false, false, false, false, false, false, false] rfl rfl (any_of HT_.out (by kernel_rfl)) (fun _ _ _ h => h) (Or.inl ⟨by rfl, ?_⟩) ?_ ?_
  rotate_left
  · intro w'
    go_simp
    with_reducible rfl
  rotate_left
  · simp only [Act.put, List.setIfInBounds_toArray, List.set_cons_zero, List.set_cons_succ, i64_w, i32_w]
    rfl
  refine inv_at [1, 2, 4, 5, 7, 8, 9, 10, 11, 12, 13, 14] (fun a0_ ls_ fr_ w' => ∃ (p : Nat) (q : Nat) (r : Nat) (m9_ : Value) (m10_ : Value) (m11_ : Value), fr_ = putSel a0_ ls_ [(1, 20, .agg #[.int .i64 a, .int .i64 b, .int .i64 c, .int .i64 d, .int .i64 e]), (2, 21, .agg #[.int .i64 (a % 68719476736), .int .i64 (b % 68719476736), .int .i64 (c % 68719476736), .int .i64 (d % 68719476736), .int .i64 (e % 68719476736)]), (4, 23, .agg #[.int .i64 a', .int .i64 b', .int .i64 c', .int .i64 d', .int .i64 e']), (5, 24, .agg #[.int .i64 (a' % 68719476736), .int .i64 (b' % 68719476736), .int .i64 (c' % 68719476736), .int .i64 (d' % 68719476736), .int .i64 (e' % 68719476736)]), (7, 26, .agg #[.int .i64 a'', .int .i64 b'', .int .i64 c'', .int .i64 d'', .int .i64 e'']), (8, 27, .agg #[.int .i64 (a'' % 68719476736), .int .i64 (b'' % 68719476736), .int .i64 (c'' % 68719476736), .int .i64 (d'' % 68719476736), .int .i64 (e'' % 68719476736)]), (9, 3, m9_), (10, 4, m10_), (11, 5, m11_)] ∧ (Below H W0.drew w') ∧ (Th w' g a b c d e a' b' c' d' e' a'' b'' c'' d'' e'') ∧ (ls_ 12 = false → H ≤ w'.heap.size) ∧ (ls_ 9 = true → ls_ 12 = false → At w' p 0 0 0 0 0) ∧ (ls_ 12 = true → At w' p (a % 68719476736) (b % 68719476736) (c % 68719476736) (d % 68719476736) (e % 68719476736)) ∧ (ls_ 9 = true → H ≤ p) ∧ (ls_ 10 = true → ls_ 13 = false → At w' q 0 0 0 0 0) ∧ (ls_ 13 = true → At w' q (a' % 68719476736) (b' % 68719476736) (c' % 68719476736) (d' % 68719476736) (e' % 68719476736)) ∧ (ls_ 10 = true → H ≤ q) ∧ (ls_ 11 = true → ls_ 14 = false → At w' r 0 0 0 0 0) ∧ (ls_ 14 = true → At w' r (a'' % 68719476736) (b'' % 68719476736) (c'' % 68719476736) (d'' % 68719476736) (e'' % 68719476736)) ∧ (ls_ 11 = true → H ≤ r) ∧ (ls_ 9 = true → ls_ 10 = true → p ≠ q) ∧ (ls_ 9 = true → ls_ 11 = true → p ≠ r) ∧ (ls_ 10 = true → ls_ 11 = true → q ≠ r) ∧ (ls_ 9 = true → (m9_ : Value) = .pointer (some ⟨p, 0, none⟩)) ∧ (ls_ 10 = true → (m10_ : Value) = .pointer (some ⟨q, 0, none⟩)) ∧ (ls_ 11 = true → (m11_ : Value) = .pointer (some ⟨r, 0, none⟩))) HT_.out HW_.out (by kernel_rfl) (by kernel_rfl) ?_ ?_ ?_
  · exact ⟨0, 0, 0, .bool false, .bool false, .bool false, by simp only [putSel, Bool.false_eq_true, if_false], fB_.out, fT_.out, fun _ => fS_.out, fun h_ => absurd h_ (by decide), fun h_ => absurd h_ (by decide), fun h_ => absurd h_ (by decide), fun h_ => absurd h_ (by decide), fun h_ => absurd h_ (by decide), fun h_ => absurd h_ (by decide), fun h_ => absurd h_ (by decide), fun h_ => absurd h_ (by decide), fun h_ => absurd h_ (by decide), fun h_ => absurd h_ (by decide), fun h_ => absurd h_ (by decide), fun h_ => absurd h_ (by decide), fun h_ => absurd h_ (by decide), fun h_ => absurd h_ (by decide), fun h_ => absurd h_ (by decide)⟩
  · skip
    clear fB_ fS_ fT_
    refine steps_cons ?_ ?_
    · rintro ls_ fr_ w' ⟨p, q, r, m9_, m10_, m11_, ha, Q_fB_, Q_fT_, Q_fS_, Q_fZ9_, Q_fA9_, Q_fH9_, Q_fZ10_, Q_fA10_, Q_fH10_, Q_fZ11_, Q_fA11_, Q_fH11_, Q_fn9_10, Q_fn9_11, Q_fn10_11, Q_X9_, Q_X10_, Q_X11_⟩ hb_ hon hoff
      refine ⟨_, rfl, fun K hK => ?_⟩
      have e19 : fr_.tmps[19]? = some (.pointer (some ⟨g, 0, none⟩)) := by rw [ha]; exact (putSel_off rfl).trans rfl
      replace ha := Aside0.mk ha
      have fB_ := Aside0.mk Q_fB_
      have fT_ := Aside0.mk Q_fT_
      have fS_ := Aside0.mk (Q_fS_ (hoff 12 (by kernel_rfl)))
      have s0_ := fT_.out.cell_0
      have s1_ := fT_.out.cell_1
      have s2_ := fT_.out.cell_2
      have s3_ := fT_.out.cell_3
      have s4_ := fT_.out.cell_4
      refine value_ (w1 := w') (v := .agg #[.int .i64 a, .int .i64 b, .int .i64 c, .int .i64 d, .int .i64 e]) (by rfl) rfl ?_ ?_
      · go_simp
        (try simp only [i64_w])
        try rfl
      refine hK.out _ _ ⟨p, q, r, m9_, m10_, m11_, (by rw [ha.out]; exact putSel_upk 0 hb_ rfl rfl rfl), Q_fB_, Q_fT_, Q_fS_, Q_fZ9_, fun h0_ => absurd ((hoff 12 (by kernel_rfl)).symm.trans h0_) (by decide), Q_fH9_, Q_fZ10_, fun h0_ => absurd ((hoff 13 (by kernel_rfl)).symm.trans h0_) (by decide), Q_fH10_, Q_fZ11_, fun h0_ => absurd ((hoff 14 (by kernel_rfl)).symm.trans h0_) (by decide), Q_fH11_, Q_fn9_10, Q_fn9_11, Q_fn10_11, Q_X9_, Q_X10_, Q_X11_⟩
    refine steps_cons ?_ ?_
    · rintro ls_ fr_ w' ⟨p, q, r, m9_, m10_, m11_, ha, Q_fB_, Q_fT_, Q_fS_, Q_fZ9_, Q_fA9_, Q_fH9_, Q_fZ10_, Q_fA10_, Q_fH10_, Q_fZ11_, Q_fA11_, Q_fH11_, Q_fn9_10, Q_fn9_11, Q_fn10_11, Q_X9_, Q_X10_, Q_X11_⟩ hb_ hon hoff
      refine ⟨_, rfl, fun K hK => ?_⟩
      have e20 : fr_.tmps[20]? = some (.agg #[.int .i64 a, .int .i64 b, .int .i64 c, .int .i64 d, .int .i64 e]) := by rw [ha]; exact putSel_on (e := (1, 20, .agg #[.int .i64 a, .int .i64 b, .int .i64 c, .int .i64 d, .int .i64 e])) 0 rfl rfl (hon 1 (by kernel_rfl)) rfl
      replace ha := Aside0.mk ha
      have fB_ := Aside0.mk Q_fB_
      have fT_ := Aside0.mk Q_fT_
      have fS_ := Aside0.mk (Q_fS_ (hoff 12 (by kernel_rfl)))
      refine goes_ Tryd.func8 (by kernel_rfl) rfl #[.agg #[.int .i64 a, .int .i64 b, .int .i64 c, .int .i64 d, .int .i64 e]] (by rfl) rfl rfl (by first | (simp only [List.map_toArray, List.map_cons, List.map_nil, Act.eval, Array.getD_eq_getD_getElem?, Option.getD_some, e20]; done) | (simp only [List.map_toArray, List.map_cons, List.map_nil, Act.eval, Array.getD_eq_getD_getElem?, Option.getD_some, e20]; rfl)) ?_
      with_reducible refine (made_c a b c d e _).mono ?_
      rintro e_ w_ ⟨rfl, hb⟩
      refine ⟨_, rfl, ?_⟩
      refine hK.out _ _ ⟨p, q, r, m9_, m10_, m11_, (by rw [ha.out]; exact putSel_upk 1 hb_ rfl rfl rfl), bk fB_.out fS_.out hb, fT_.out.below hb, fun _ => Nat.le_trans fS_.out hb.size, fun h0_ h1_ => (Q_fZ9_ h0_ h1_).below hb, fun h0_ => absurd ((hoff 12 (by kernel_rfl)).symm.trans h0_) (by decide), Q_fH9_, fun h0_ h1_ => (Q_fZ10_ h0_ h1_).below hb, fun h0_ => absurd ((hoff 13 (by kernel_rfl)).symm.trans h0_) (by decide), Q_fH10_, fun h0_ h1_ => (Q_fZ11_ h0_ h1_).below hb, fun h0_ => absurd ((hoff 14 (by kernel_rfl)).symm.trans h0_) (by decide), Q_fH11_, Q_fn9_10, Q_fn9_11, Q_fn10_11, Q_X9_, Q_X10_, Q_X11_⟩
    refine steps_cons ?_ ?_
    · rintro ls_ fr_ w' ⟨p, q, r, m9_, m10_, m11_, ha, Q_fB_, Q_fT_, Q_fS_, Q_fZ9_, Q_fA9_, Q_fH9_, Q_fZ10_, Q_fA10_, Q_fH10_, Q_fZ11_, Q_fA11_, Q_fH11_, Q_fn9_10, Q_fn9_11, Q_fn10_11, Q_X9_, Q_X10_, Q_X11_⟩ hb_ hon hoff
      refine ⟨_, rfl, fun K hK => ?_⟩
      have e22 : fr_.tmps[22]? = some (.pointer (some ⟨g, 5, none⟩)) := by rw [ha]; exact (putSel_off rfl).trans rfl
      replace ha := Aside0.mk ha
      have fB_ := Aside0.mk Q_fB_
      have fT_ := Aside0.mk Q_fT_
      have fS_ := Aside0.mk (Q_fS_ (hoff 12 (by kernel_rfl)))
      have s0_ := fT_.out.cell_5
      have s1_ := fT_.out.cell_6
      have s2_ := fT_.out.cell_7
      have s3_ := fT_.out.cell_8
      have s4_ := fT_.out.cell_9
      refine value_ (w1 := w') (v := .agg #[.int .i64 a', .int .i64 b', .int .i64 c', .int .i64 d', .int .i64 e']) (by rfl) rfl ?_ ?_
      · go_simp
        (try simp only [i64_w])
        try rfl
      refine hK.out _ _ ⟨p, q, r, m9_, m10_, m11_, (by rw [ha.out]; exact putSel_upk 2 hb_ rfl rfl rfl), Q_fB_, Q_fT_, Q_fS_, Q_fZ9_, fun h0_ => absurd ((hoff 12 (by kernel_rfl)).symm.trans h0_) (by decide), Q_fH9_, Q_fZ10_, fun h0_ => absurd ((hoff 13 (by kernel_rfl)).symm.trans h0_) (by decide), Q_fH10_, Q_fZ11_, fun h0_ => absurd ((hoff 14 (by kernel_rfl)).symm.trans h0_) (by decide), Q_fH11_, Q_fn9_10, Q_fn9_11, Q_fn10_11, Q_X9_, Q_X10_, Q_X11_⟩
    refine steps_cons ?_ ?_
    · rintro ls_ fr_ w' ⟨p, q, r, m9_, m10_, m11_, ha, Q_fB_, Q_fT_, Q_fS_, Q_fZ9_, Q_fA9_, Q_fH9_, Q_fZ10_, Q_fA10_, Q_fH10_, Q_fZ11_, Q_fA11_, Q_fH11_, Q_fn9_10, Q_fn9_11, Q_fn10_11, Q_X9_, Q_X10_, Q_X11_⟩ hb_ hon hoff
      refine ⟨_, rfl, fun K hK => ?_⟩
      have e23 : fr_.tmps[23]? = some (.agg #[.int .i64 a', .int .i64 b', .int .i64 c', .int .i64 d', .int .i64 e']) := by rw [ha]; exact putSel_on (e := (4, 23, .agg #[.int .i64 a', .int .i64 b', .int .i64 c', .int .i64 d', .int .i64 e'])) 2 rfl rfl (hon 4 (by kernel_rfl)) rfl
      replace ha := Aside0.mk ha
      have fB_ := Aside0.mk Q_fB_
      have fT_ := Aside0.mk Q_fT_
      have fS_ := Aside0.mk (Q_fS_ (hoff 12 (by kernel_rfl)))
      refine goes_ Tryd.func8 (by kernel_rfl) rfl #[.agg #[.int .i64 a', .int .i64 b', .int .i64 c', .int .i64 d', .int .i64 e']] (by rfl) rfl rfl (by first | (simp only [List.map_toArray, List.map_cons, List.map_nil, Act.eval, Array.getD_eq_getD_getElem?, Option.getD_some, e23]; done) | (simp only [List.map_toArray, List.map_cons, List.map_nil, Act.eval, Array.getD_eq_getD_getElem?, Option.getD_some, e23]; rfl)) ?_
      with_reducible refine (made_c a' b' c' d' e' _).mono ?_
      rintro e_ w_ ⟨rfl, hb⟩
      refine ⟨_, rfl, ?_⟩
      refine hK.out _ _ ⟨p, q, r, m9_, m10_, m11_, (by rw [ha.out]; exact putSel_upk 3 hb_ rfl rfl rfl), bk fB_.out fS_.out hb, fT_.out.below hb, fun _ => Nat.le_trans fS_.out hb.size, fun h0_ h1_ => (Q_fZ9_ h0_ h1_).below hb, fun h0_ => absurd ((hoff 12 (by kernel_rfl)).symm.trans h0_) (by decide), Q_fH9_, fun h0_ h1_ => (Q_fZ10_ h0_ h1_).below hb, fun h0_ => absurd ((hoff 13 (by kernel_rfl)).symm.trans h0_) (by decide), Q_fH10_, fun h0_ h1_ => (Q_fZ11_ h0_ h1_).below hb, fun h0_ => absurd ((hoff 14 (by kernel_rfl)).symm.trans h0_) (by decide), Q_fH11_, Q_fn9_10, Q_fn9_11, Q_fn10_11, Q_X9_, Q_X10_, Q_X11_⟩
    refine steps_cons ?_ ?_
    · rintro ls_ fr_ w' ⟨p, q, r, m9_, m10_, m11_, ha, Q_fB_, Q_fT_, Q_fS_, Q_fZ9_, Q_fA9_, Q_fH9_, Q_fZ10_, Q_fA10_, Q_fH10_, Q_fZ11_, Q_fA11_, Q_fH11_, Q_fn9_10, Q_fn9_11, Q_fn10_11, Q_X9_, Q_X10_, Q_X11_⟩ hb_ hon hoff
      refine ⟨_, rfl, fun K hK => ?_⟩
      have e25 : fr_.tmps[25]? = some (.pointer (some ⟨g, 10, none⟩)) := by rw [ha]; exact (putSel_off rfl).trans rfl
      replace ha := Aside0.mk ha
      have fB_ := Aside0.mk Q_fB_
      have fT_ := Aside0.mk Q_fT_
      have fS_ := Aside0.mk (Q_fS_ (hoff 12 (by kernel_rfl)))
      have s0_ := fT_.out.cell_10
      have s1_ := fT_.out.cell_11
      have s2_ := fT_.out.cell_12
      have s3_ := fT_.out.cell_13
      have s4_ := fT_.out.cell_14
      refine value_ (w1 := w') (v := .agg #[.int .i64 a'', .int .i64 b'', .int .i64 c'', .int .i64 d'', .int .i64 e'']) (by rfl) rfl ?_ ?_
      · go_simp
        (try simp only [i64_w])
        try rfl
      refine hK.out _ _ ⟨p, q, r, m9_, m10_, m11_, (by rw [ha.out]; exact putSel_upk 4 hb_ rfl rfl rfl), Q_fB_, Q_fT_, Q_fS_, Q_fZ9_, fun h0_ => absurd ((hoff 12 (by kernel_rfl)).symm.trans h0_) (by decide), Q_fH9_, Q_fZ10_, fun h0_ => absurd ((hoff 13 (by kernel_rfl)).symm.trans h0_) (by decide), Q_fH10_, Q_fZ11_, fun h0_ => absurd ((hoff 14 (by kernel_rfl)).symm.trans h0_) (by decide), Q_fH11_, Q_fn9_10, Q_fn9_11, Q_fn10_11, Q_X9_, Q_X10_, Q_X11_⟩
    refine steps_cons ?_ ?_
    · rintro ls_ fr_ w' ⟨p, q, r, m9_, m10_, m11_, ha, Q_fB_, Q_fT_, Q_fS_, Q_fZ9_, Q_fA9_, Q_fH9_, Q_fZ10_, Q_fA10_, Q_fH10_, Q_fZ11_, Q_fA11_, Q_fH11_, Q_fn9_10, Q_fn9_11, Q_fn10_11, Q_X9_, Q_X10_, Q_X11_⟩ hb_ hon hoff
      refine ⟨_, rfl, fun K hK => ?_⟩
      have e26 : fr_.tmps[26]? = some (.agg #[.int .i64 a'', .int .i64 b'', .int .i64 c'', .int .i64 d'', .int .i64 e'']) := by rw [ha]; exact putSel_on (e := (7, 26, .agg #[.int .i64 a'', .int .i64 b'', .int .i64 c'', .int .i64 d'', .int .i64 e''])) 4 rfl rfl (hon 7 (by kernel_rfl)) rfl
      replace ha := Aside0.mk ha
      have fB_ := Aside0.mk Q_fB_
      have fT_ := Aside0.mk Q_fT_
      have fS_ := Aside0.mk (Q_fS_ (hoff 12 (by kernel_rfl)))
      refine goes_ Tryd.func8 (by kernel_rfl) rfl #[.agg #[.int .i64 a'', .int .i64 b'', .int .i64 c'', .int .i64 d'', .int .i64 e'']] (by rfl) rfl rfl (by first | (simp only [List.map_toArray, List.map_cons, List.map_nil, Act.eval, Array.getD_eq_getD_getElem?, Option.getD_some, e26]; done) | (simp only [List.map_toArray, List.map_cons, List.map_nil, Act.eval, Array.getD_eq_getD_getElem?, Option.getD_some, e26]; rfl)) ?_
      with_reducible refine (made_c a'' b'' c'' d'' e'' _).mono ?_
      rintro e_ w_ ⟨rfl, hb⟩
      refine ⟨_, rfl, ?_⟩
      refine hK.out _ _ ⟨p, q, r, m9_, m10_, m11_, (by rw [ha.out]; exact putSel_upk 5 hb_ rfl rfl rfl), bk fB_.out fS_.out hb, fT_.out.below hb, fun _ => Nat.le_trans fS_.out hb.size, fun h0_ h1_ => (Q_fZ9_ h0_ h1_).below hb, fun h0_ => absurd ((hoff 12 (by kernel_rfl)).symm.trans h0_) (by decide), Q_fH9_, fun h0_ h1_ => (Q_fZ10_ h0_ h1_).below hb, fun h0_ => absurd ((hoff 13 (by kernel_rfl)).symm.trans h0_) (by decide), Q_fH10_, fun h0_ h1_ => (Q_fZ11_ h0_ h1_).below hb, fun h0_ => absurd ((hoff 14 (by kernel_rfl)).symm.trans h0_) (by decide), Q_fH11_, Q_fn9_10, Q_fn9_11, Q_fn10_11, Q_X9_, Q_X10_, Q_X11_⟩
    refine steps_cons ?_ ?_
    · rintro ls_ fr_ w' ⟨p, q, r, m9_, m10_, m11_, ha, Q_fB_, Q_fT_, Q_fS_, Q_fZ9_, Q_fA9_, Q_fH9_, Q_fZ10_, Q_fA10_, Q_fH10_, Q_fZ11_, Q_fA11_, Q_fH11_, Q_fn9_10, Q_fn9_11, Q_fn10_11, Q_X9_, Q_X10_, Q_X11_⟩ hb_ hon hoff
      refine ⟨_, rfl, fun K hK => ?_⟩
      replace ha := Aside0.mk ha
      have fB_ := Aside0.mk Q_fB_
      have fT_ := Aside0.mk Q_fT_
      have fS_ := Aside0.mk (Q_fS_ (hoff 12 (by kernel_rfl)))
      refine value_ (w1 := ?_) (v := ?_) (by rfl) rfl ?_ ?_
      rotate_left 2
      · go_simp
        constructor
        · rfl
        · rfl
      refine hK.out _ _ ⟨w'.heap.size, q, r, (.pointer (some ⟨w'.heap.size, 0, none⟩)), m10_, m11_, (by rw [ha.out]; exact putSel_upk 6 hb_ rfl rfl rfl), below_new fB_.out fS_.out, fT_.out.alloc _, fun _ => le_new fS_.out, fun _ _ => At.new0 _, fun h0_ => absurd ((hoff 12 (by kernel_rfl)).symm.trans h0_) (by decide), fun _ => fS_.out, fun h0_ h1_ => (Q_fZ10_ h0_ h1_).alloc _, fun h0_ => absurd ((hoff 13 (by kernel_rfl)).symm.trans h0_) (by decide), Q_fH10_, fun h0_ h1_ => (Q_fZ11_ h0_ h1_).alloc _, fun h0_ => absurd ((hoff 14 (by kernel_rfl)).symm.trans h0_) (by decide), Q_fH11_, fun _ _ => (by rename_i u0_ u1_; exact Nat.ne_of_gt (Q_fZ10_ u1_ (hoff 13 (by kernel_rfl))).lt), fun _ _ => (by rename_i u0_ u1_; exact Nat.ne_of_gt (Q_fZ11_ u1_ (hoff 14 (by kernel_rfl))).lt), Q_fn10_11, fun _ => rfl, Q_X10_, Q_X11_⟩
    refine steps_cons ?_ ?_
    · rintro ls_ fr_ w' ⟨p, q, r, m9_, m10_, m11_, ha, Q_fB_, Q_fT_, Q_fS_, Q_fZ9_, Q_fA9_, Q_fH9_, Q_fZ10_, Q_fA10_, Q_fH10_, Q_fZ11_, Q_fA11_, Q_fH11_, Q_fn9_10, Q_fn9_11, Q_fn10_11, Q_X9_, Q_X10_, Q_X11_⟩ hb_ hon hoff
      refine ⟨_, rfl, fun K hK => ?_⟩
      replace ha := Aside0.mk ha
      have fB_ := Aside0.mk Q_fB_
      have fT_ := Aside0.mk Q_fT_
      have fS_ := Aside0.mk (Q_fS_ (hoff 12 (by kernel_rfl)))
      refine value_ (w1 := ?_) (v := ?_) (by rfl) rfl ?_ ?_
      rotate_left 2
      · go_simp
        constructor
        · rfl
        · rfl
      refine hK.out _ _ ⟨p, w'.heap.size, r, m9_, (.pointer (some ⟨w'.heap.size, 0, none⟩)), m11_, (by rw [ha.out]; exact putSel_upk 7 hb_ rfl rfl rfl), below_new fB_.out fS_.out, fT_.out.alloc _, fun _ => le_new fS_.out, fun h0_ h1_ => (Q_fZ9_ h0_ h1_).alloc _, fun h0_ => absurd ((hoff 12 (by kernel_rfl)).symm.trans h0_) (by decide), Q_fH9_, fun _ _ => At.new0 _, fun h0_ => absurd ((hoff 13 (by kernel_rfl)).symm.trans h0_) (by decide), fun _ => fS_.out, fun h0_ h1_ => (Q_fZ11_ h0_ h1_).alloc _, fun h0_ => absurd ((hoff 14 (by kernel_rfl)).symm.trans h0_) (by decide), Q_fH11_, fun _ _ => (by rename_i u0_ u1_; exact Nat.ne_of_lt (Q_fZ9_ u0_ (hoff 12 (by kernel_rfl))).lt), Q_fn9_11, fun _ _ => (by rename_i u0_ u1_; exact Nat.ne_of_gt (Q_fZ11_ u1_ (hoff 14 (by kernel_rfl))).lt), Q_X9_, fun _ => rfl, Q_X11_⟩
    refine steps_cons ?_ ?_
    · rintro ls_ fr_ w' ⟨p, q, r, m9_, m10_, m11_, ha, Q_fB_, Q_fT_, Q_fS_, Q_fZ9_, Q_fA9_, Q_fH9_, Q_fZ10_, Q_fA10_, Q_fH10_, Q_fZ11_, Q_fA11_, Q_fH11_, Q_fn9_10, Q_fn9_11, Q_fn10_11, Q_X9_, Q_X10_, Q_X11_⟩ hb_ hon hoff
      refine ⟨_, rfl, fun K hK => ?_⟩
      replace ha := Aside0.mk ha
      have fB_ := Aside0.mk Q_fB_
      have fT_ := Aside0.mk Q_fT_
      have fS_ := Aside0.mk (Q_fS_ (hoff 12 (by kernel_rfl)))
      refine value_ (w1 := ?_) (v := ?_) (by rfl) rfl ?_ ?_
      rotate_left 2
      · go_simp
        constructor
        · rfl
        · rfl
      refine hK.out _ _ ⟨p, q, w'.heap.size, m9_, m10_, (.pointer (some ⟨w'.heap.size, 0, none⟩)), (by rw [ha.out]; exact putSel_upk 8 hb_ rfl rfl rfl), below_new fB_.out fS_.out, fT_.out.alloc _, fun _ => le_new fS_.out, fun h0_ h1_ => (Q_fZ9_ h0_ h1_).alloc _, fun h0_ => absurd ((hoff 12 (by kernel_rfl)).symm.trans h0_) (by decide), Q_fH9_, fun h0_ h1_ => (Q_fZ10_ h0_ h1_).alloc _, fun h0_ => absurd ((hoff 13 (by kernel_rfl)).symm.trans h0_) (by decide), Q_fH10_, fun _ _ => At.new0 _, fun h0_ => absurd ((hoff 14 (by kernel_rfl)).symm.trans h0_) (by decide), fun _ => fS_.out, Q_fn9_10, fun _ _ => (by rename_i u0_ u1_; exact Nat.ne_of_lt (Q_fZ9_ u0_ (hoff 12 (by kernel_rfl))).lt), fun _ _ => (by rename_i u0_ u1_; exact Nat.ne_of_lt (Q_fZ10_ u0_ (hoff 13 (by kernel_rfl))).lt), Q_X9_, Q_X10_, fun _ => rfl⟩
    refine steps_cons ?_ ?_
    · rintro ls_ fr_ w' ⟨p, q, r, m9_, m10_, m11_, ha, Q_fB_, Q_fT_, Q_fS_, Q_fZ9_, Q_fA9_, Q_fH9_, Q_fZ10_, Q_fA10_, Q_fH10_, Q_fZ11_, Q_fA11_, Q_fH11_, Q_fn9_10, Q_fn9_11, Q_fn10_11, Q_X9_, Q_X10_, Q_X11_⟩ hb_ hon hoff
      refine ⟨_, rfl, fun K hK => ?_⟩
      have e3 : fr_.tmps[3]? = some (m9_) := by rw [ha]; exact putSel_on (e := (9, 3, m9_)) 6 rfl rfl (hon 9 (by kernel_rfl)) rfl
      rw [Q_X9_ (hon 9 (by kernel_rfl))] at e3
      have e21 : fr_.tmps[21]? = some (.agg #[.int .i64 (a % 68719476736), .int .i64 (b % 68719476736), .int .i64 (c % 68719476736), .int .i64 (d % 68719476736), .int .i64 (e % 68719476736)]) := by rw [ha]; exact putSel_on (e := (2, 21, .agg #[.int .i64 (a % 68719476736), .int .i64 (b % 68719476736), .int .i64 (c % 68719476736), .int .i64 (d % 68719476736), .int .i64 (e % 68719476736)])) 1 rfl rfl (hon 2 (by kernel_rfl)) rfl
      replace ha := Aside0.mk ha
      have fB_ := Aside0.mk Q_fB_
      have fT_ := Aside0.mk Q_fT_
      have fS_ := Aside0.mk (Q_fS_ hb_)
      have fZ9_ := Aside0.mk (Q_fZ9_ (hon 9 (by kernel_rfl)) hb_)
      have fH9_ := Aside0.mk (Q_fH9_ (hon 9 (by kernel_rfl)))
      have fZ10_ := Aside0.mk (Q_fZ10_ (hon 10 (by kernel_rfl)) (hoff 13 (by kernel_rfl)))
      have fH10_ := Aside0.mk (Q_fH10_ (hon 10 (by kernel_rfl)))
      have fZ11_ := Aside0.mk (Q_fZ11_ (hon 11 (by kernel_rfl)) (hoff 14 (by kernel_rfl)))
      have fH11_ := Aside0.mk (Q_fH11_ (hon 11 (by kernel_rfl)))
      have fn9_10 := Aside0.mk (Q_fn9_10 (hon 9 (by kernel_rfl)) (hon 10 (by kernel_rfl)))
      have fn9_11 := Aside0.mk (Q_fn9_11 (hon 9 (by kernel_rfl)) (hon 11 (by kernel_rfl)))
      have fn10_11 := Aside0.mk (Q_fn10_11 (hon 10 (by kernel_rfl)) (hon 11 (by kernel_rfl)))
      have f0_ := fZ9_.out.fz 0
      have f1_ := fZ9_.out.fz 1
      have f2_ := fZ9_.out.fz 2
      have f3_ := fZ9_.out.fz 3
      have f4_ := fZ9_.out.fz 4
      have k0_ := fZ9_.out.cell_0
      have k1_ := fZ9_.out.cell_1
      have k2_ := fZ9_.out.cell_2
      have k3_ := fZ9_.out.cell_3
      have k4_ := fZ9_.out.cell_4
      refine skip_ (w1 := ?_) (by rfl) rfl ?_ ?_
      rotate_left
      · go_simp
        rfl
      refine hK.out _ _ ⟨p, q, r, m9_, m10_, m11_, (by rw [ha.out]; exact putSel_none (v := undef) rfl), below_five fB_.out fH9_.out (.int .i64 (a % 68719476736)) (.int .i64 (b % 68719476736)) (.int .i64 (c % 68719476736)) (.int .i64 (d % 68719476736)) (.int .i64 (e % 68719476736)), fT_.out.five_other (Nat.ne_of_lt (Nat.lt_of_lt_of_le hgH0 fH9_.out)) (.int .i64 (a % 68719476736)) (.int .i64 (b % 68719476736)) (.int .i64 (c % 68719476736)) (.int .i64 (d % 68719476736)) (.int .i64 (e % 68719476736)), fun h0_ => absurd ((up_self ls_ 12).symm.trans h0_) (by decide), fun _ h1_ => absurd ((up_self ls_ 12).symm.trans h1_) (by decide), fun _ => fZ9_.out.five (a % 68719476736) (b % 68719476736) (c % 68719476736) (d % 68719476736) (e % 68719476736), Q_fH9_, fun _ _ => fZ10_.out.five_other (Ne.symm fn9_10.out) (.int .i64 (a % 68719476736)) (.int .i64 (b % 68719476736)) (.int .i64 (c % 68719476736)) (.int .i64 (d % 68719476736)) (.int .i64 (e % 68719476736)), fun h0_ => absurd ((hoff 13 (by kernel_rfl)).symm.trans h0_) (by decide), Q_fH10_, fun _ _ => fZ11_.out.five_other (Ne.symm fn9_11.out) (.int .i64 (a % 68719476736)) (.int .i64 (b % 68719476736)) (.int .i64 (c % 68719476736)) (.int .i64 (d % 68719476736)) (.int .i64 (e % 68719476736)), fun h0_ => absurd ((hoff 14 (by kernel_rfl)).symm.trans h0_) (by decide), Q_fH11_, Q_fn9_10, Q_fn9_11, Q_fn10_11, Q_X9_, Q_X10_, Q_X11_⟩
    refine steps_cons ?_ ?_
    · rintro ls_ fr_ w' ⟨p, q, r, m9_, m10_, m11_, ha, Q_fB_, Q_fT_, Q_fS_, Q_fZ9_, Q_fA9_, Q_fH9_, Q_fZ10_, Q_fA10_, Q_fH10_, Q_fZ11_, Q_fA11_, Q_fH11_, Q_fn9_10, Q_fn9_11, Q_fn10_11, Q_X9_, Q_X10_, Q_X11_⟩ hb_ hon hoff
      refine ⟨_, rfl, fun K hK => ?_⟩
      have e4 : fr_.tmps[4]? = some (m10_) := by rw [ha]; exact putSel_on (e := (10, 4, m10_)) 7 rfl rfl (hon 10 (by kernel_rfl)) rfl
      rw [Q_X10_ (hon 10 (by kernel_rfl))] at e4
      have e24 : fr_.tmps[24]? = some (.agg #[.int .i64 (a' % 68719476736), .int .i64 (b' % 68719476736), .int .i64 (c' % 68719476736), .int .i64 (d' % 68719476736), .int .i64 (e' % 68719476736)]) := by rw [ha]; exact putSel_on (e := (5, 24, .agg #[.int .i64 (a' % 68719476736), .int .i64 (b' % 68719476736), .int .i64 (c' % 68719476736), .int .i64 (d' % 68719476736), .int .i64 (e' % 68719476736)])) 3 rfl rfl (hon 5 (by kernel_rfl)) rfl
      replace ha := Aside0.mk ha
      have fB_ := Aside0.mk Q_fB_
      have fT_ := Aside0.mk Q_fT_
      have fA9_ := Aside0.mk (Q_fA9_ (hon 12 (by kernel_rfl)))
      have fH9_ := Aside0.mk (Q_fH9_ (hon 9 (by kernel_rfl)))
      have fZ10_ := Aside0.mk (Q_fZ10_ (hon 10 (by kernel_rfl)) hb_)
      have fH10_ := Aside0.mk (Q_fH10_ (hon 10 (by kernel_rfl)))
      have fZ11_ := Aside0.mk (Q_fZ11_ (hon 11 (by kernel_rfl)) (hoff 14 (by kernel_rfl)))
      have fH11_ := Aside0.mk (Q_fH11_ (hon 11 (by kernel_rfl)))
      have fn9_10 := Aside0.mk (Q_fn9_10 (hon 9 (by kernel_rfl)) (hon 10 (by kernel_rfl)))
      have fn9_11 := Aside0.mk (Q_fn9_11 (hon 9 (by kernel_rfl)) (hon 11 (by kernel_rfl)))
      have fn10_11 := Aside0.mk (Q_fn10_11 (hon 10 (by kernel_rfl)) (hon 11 (by kernel_rfl)))
      have f0_ := fZ10_.out.fz 0
      have f1_ := fZ10_.out.fz 1
      have f2_ := fZ10_.out.fz 2
      have f3_ := fZ10_.out.fz 3
      have f4_ := fZ10_.out.fz 4
      have k0_ := fZ10_.out.cell_0
      have k1_ := fZ10_.out.cell_1
      have k2_ := fZ10_.out.cell_2
      have k3_ := fZ10_.out.cell_3
      have k4_ := fZ10_.out.cell_4
      refine skip_ (w1 := ?_) (by rfl) rfl ?_ ?_
      rotate_left
      · go_simp
        rfl
      refine hK.out _ _ ⟨p, q, r, m9_, m10_, m11_, (by rw [ha.out]; exact putSel_none (v := undef) rfl), below_five fB_.out fH10_.out (.int .i64 (a' % 68719476736)) (.int .i64 (b' % 68719476736)) (.int .i64 (c' % 68719476736)) (.int .i64 (d' % 68719476736)) (.int .i64 (e' % 68719476736)), fT_.out.five_other (Nat.ne_of_lt (Nat.lt_of_lt_of_le hgH0 fH10_.out)) (.int .i64 (a' % 68719476736)) (.int .i64 (b' % 68719476736)) (.int .i64 (c' % 68719476736)) (.int .i64 (d' % 68719476736)) (.int .i64 (e' % 68719476736)), fun h0_ => absurd ((hon 12 (by kernel_rfl)).symm.trans h0_) (by decide), fun _ h1_ => absurd ((hon 12 (by kernel_rfl)).symm.trans h1_) (by decide), fun _ => fA9_.out.five_other fn9_10.out (.int .i64 (a' % 68719476736)) (.int .i64 (b' % 68719476736)) (.int .i64 (c' % 68719476736)) (.int .i64 (d' % 68719476736)) (.int .i64 (e' % 68719476736)), Q_fH9_, fun _ h1_ => absurd ((up_self ls_ 13).symm.trans h1_) (by decide), fun _ => fZ10_.out.five (a' % 68719476736) (b' % 68719476736) (c' % 68719476736) (d' % 68719476736) (e' % 68719476736), Q_fH10_, fun _ _ => fZ11_.out.five_other (Ne.symm fn10_11.out) (.int .i64 (a' % 68719476736)) (.int .i64 (b' % 68719476736)) (.int .i64 (c' % 68719476736)) (.int .i64 (d' % 68719476736)) (.int .i64 (e' % 68719476736)), fun h0_ => absurd ((hoff 14 (by kernel_rfl)).symm.trans h0_) (by decide), Q_fH11_, Q_fn9_10, Q_fn9_11, Q_fn10_11, Q_X9_, Q_X10_, Q_X11_⟩
    refine steps_cons ?_ ?_
    · rintro ls_ fr_ w' ⟨p, q, r, m9_, m10_, m11_, ha, Q_fB_, Q_fT_, Q_fS_, Q_fZ9_, Q_fA9_, Q_fH9_, Q_fZ10_, Q_fA10_, Q_fH10_, Q_fZ11_, Q_fA11_, Q_fH11_, Q_fn9_10, Q_fn9_11, Q_fn10_11, Q_X9_, Q_X10_, Q_X11_⟩ hb_ hon hoff
      refine ⟨_, rfl, fun K hK => ?_⟩
      have e5 : fr_.tmps[5]? = some (m11_) := by rw [ha]; exact putSel_on (e := (11, 5, m11_)) 8 rfl rfl (hon 11 (by kernel_rfl)) rfl
      rw [Q_X11_ (hon 11 (by kernel_rfl))] at e5
      have e27 : fr_.tmps[27]? = some (.agg #[.int .i64 (a'' % 68719476736), .int .i64 (b'' % 68719476736), .int .i64 (c'' % 68719476736), .int .i64 (d'' % 68719476736), .int .i64 (e'' % 68719476736)]) := by rw [ha]; exact putSel_on (e := (8, 27, .agg #[.int .i64 (a'' % 68719476736), .int .i64 (b'' % 68719476736), .int .i64 (c'' % 68719476736), .int .i64 (d'' % 68719476736), .int .i64 (e'' % 68719476736)])) 5 rfl rfl (hon 8 (by kernel_rfl)) rfl
      replace ha := Aside0.mk ha
      have fB_ := Aside0.mk Q_fB_
      have fT_ := Aside0.mk Q_fT_
      have fA9_ := Aside0.mk (Q_fA9_ (hon 12 (by kernel_rfl)))
      have fH9_ := Aside0.mk (Q_fH9_ (hon 9 (by kernel_rfl)))
      have fA10_ := Aside0.mk (Q_fA10_ (hon 13 (by kernel_rfl)))
      have fH10_ := Aside0.mk (Q_fH10_ (hon 10 (by kernel_rfl)))
      have fZ11_ := Aside0.mk (Q_fZ11_ (hon 11 (by kernel_rfl)) hb_)
      have fH11_ := Aside0.mk (Q_fH11_ (hon 11 (by kernel_rfl)))
      have fn9_10 := Aside0.mk (Q_fn9_10 (hon 9 (by kernel_rfl)) (hon 10 (by kernel_rfl)))
      have fn9_11 := Aside0.mk (Q_fn9_11 (hon 9 (by kernel_rfl)) (hon 11 (by kernel_rfl)))
      have fn10_11 := Aside0.mk (Q_fn10_11 (hon 10 (by kernel_rfl)) (hon 11 (by kernel_rfl)))
      have f0_ := fZ11_.out.fz 0
      have f1_ := fZ11_.out.fz 1
      have f2_ := fZ11_.out.fz 2
      have f3_ := fZ11_.out.fz 3
      have f4_ := fZ11_.out.fz 4
      have k0_ := fZ11_.out.cell_0
      have k1_ := fZ11_.out.cell_1
      have k2_ := fZ11_.out.cell_2
      have k3_ := fZ11_.out.cell_3
      have k4_ := fZ11_.out.cell_4
      refine skip_ (w1 := ?_) (by rfl) rfl ?_ ?_
      rotate_left
      · go_simp
        rfl
      refine hK.out _ _ ⟨p, q, r, m9_, m10_, m11_, (by rw [ha.out]; exact putSel_none (v := undef) rfl), below_five fB_.out fH11_.out (.int .i64 (a'' % 68719476736)) (.int .i64 (b'' % 68719476736)) (.int .i64 (c'' % 68719476736)) (.int .i64 (d'' % 68719476736)) (.int .i64 (e'' % 68719476736)), fT_.out.five_other (Nat.ne_of_lt (Nat.lt_of_lt_of_le hgH0 fH11_.out)) (.int .i64 (a'' % 68719476736)) (.int .i64 (b'' % 68719476736)) (.int .i64 (c'' % 68719476736)) (.int .i64 (d'' % 68719476736)) (.int .i64 (e'' % 68719476736)), fun h0_ => absurd ((hon 12 (by kernel_rfl)).symm.trans h0_) (by decide), fun _ h1_ => absurd ((hon 12 (by kernel_rfl)).symm.trans h1_) (by decide), fun _ => fA9_.out.five_other fn9_11.out (.int .i64 (a'' % 68719476736)) (.int .i64 (b'' % 68719476736)) (.int .i64 (c'' % 68719476736)) (.int .i64 (d'' % 68719476736)) (.int .i64 (e'' % 68719476736)), Q_fH9_, fun _ h1_ => absurd ((hon 13 (by kernel_rfl)).symm.trans h1_) (by decide), fun _ => fA10_.out.five_other fn10_11.out (.int .i64 (a'' % 68719476736)) (.int .i64 (b'' % 68719476736)) (.int .i64 (c'' % 68719476736)) (.int .i64 (d'' % 68719476736)) (.int .i64 (e'' % 68719476736)), Q_fH10_, fun _ h1_ => absurd ((up_self ls_ 14).symm.trans h1_) (by decide), fun _ => fZ11_.out.five (a'' % 68719476736) (b'' % 68719476736) (c'' % 68719476736) (d'' % 68719476736) (e'' % 68719476736), Q_fH11_, Q_fn9_10, Q_fn9_11, Q_fn10_11, Q_X9_, Q_X10_, Q_X11_⟩
    exact steps_nil
  rintro ls_ fr_ w' hall ⟨p, q, r, m9_, m10_, m11_, ha, Q_fB_, Q_fT_, Q_fS_, Q_fZ9_, Q_fA9_, Q_fH9_, Q_fZ10_, Q_fA10_, Q_fH10_, Q_fZ11_, Q_fA11_, Q_fH11_, Q_fn9_10, Q_fn9_11, Q_fn10_11, Q_X9_, Q_X10_, Q_X11_⟩
  clear fB_ fS_ fT_
  have hb1_ := hall 1 (by kernel_rfl)
  have hb2_ := hall 2 (by kernel_rfl)
  have hb4_ := hall 4 (by kernel_rfl)
  have hb5_ := hall 5 (by kernel_rfl)
  have hb7_ := hall 7 (by kernel_rfl)
  have hb8_ := hall 8 (by kernel_rfl)
  have hb9_ := hall 9 (by kernel_rfl)
  have hb10_ := hall 10 (by kernel_rfl)
  have hb11_ := hall 11 (by kernel_rfl)
  have hb12_ := hall 12 (by kernel_rfl)
  have hb13_ := hall 13 (by kernel_rfl)
  have hb14_ := hall 14 (by kernel_rfl)
  subst ha
  obtain rfl := Q_X9_ hb9_
  obtain rfl := Q_X10_ hb10_
  obtain rfl := Q_X11_ hb11_
  simp only [putSel, hb1_, hb2_, hb4_, hb5_, hb7_, hb8_, hb9_, hb10_, hb11_, hb12_, hb13_, hb14_, if_true, Act.put, List.setIfInBounds_toArray, List.set_cons_zero, List.set_cons_succ]
  have fB_ := Aside0.mk Q_fB_
  clear Q_fB_
  have fT_ := Aside0.mk Q_fT_
  clear Q_fT_
  clear Q_fS_
  clear Q_fZ9_
  have fA9_ := Aside0.mk (Q_fA9_ hb12_)
  clear Q_fA9_
  have fH9_ := Aside0.mk (Q_fH9_ hb9_)
  clear Q_fH9_
  clear Q_fZ10_
  have fA10_ := Aside0.mk (Q_fA10_ hb13_)
  clear Q_fA10_
  have fH10_ := Aside0.mk (Q_fH10_ hb10_)
  clear Q_fH10_
  clear Q_fZ11_
  have fA11_ := Aside0.mk (Q_fA11_ hb14_)
  clear Q_fA11_
  have fH11_ := Aside0.mk (Q_fH11_ hb11_)
  clear Q_fH11_
  have fn9_10 := Aside0.mk (Q_fn9_10 hb9_ hb10_)
  clear Q_fn9_10
  have fn9_11 := Aside0.mk (Q_fn9_11 hb9_ hb11_)
  clear Q_fn9_11
  have fn10_11 := Aside0.mk (Q_fn10_11 hb10_ hb11_)
  clear Q_fn10_11
  clear hall hb1_ hb2_ hb4_ hb5_ hb7_ hb8_ hb9_ hb10_ hb11_ hb12_ hb13_ hb14_
  clear Q_X9_ Q_X10_ Q_X11_ ls_
  have bb_ : Below g w w' := (below_drew1 b0_).trans (fB_.out.mono (Nat.le_of_lt hgH0))
  have gp0 : g ≤ p := Nat.le_trans (Nat.le_of_lt hgH0) fH9_.out
  have gq0 : g ≤ q := Nat.le_trans (Nat.le_of_lt hgH0) fH10_.out
  have gr0 : g ≤ r := Nat.le_trans (Nat.le_of_lt hgH0) fH11_.out
  have hgp : g ≠ p := Nat.ne_of_lt (Nat.lt_of_lt_of_le hgH0 fH9_.out)
  have hgq : g ≠ q := Nat.ne_of_lt (Nat.lt_of_lt_of_le hgH0 fH10_.out)
  have hgr : g ≠ r := Nat.ne_of_lt (Nat.lt_of_lt_of_le hgH0 fH11_.out)
  have hn9_10 := fn9_10.out
  have hn9_11 := fn9_11.out
  have hn10_11 := fn10_11.out
  have th_ := fT_.out
  have p3_ := fA9_.out
  have q3_ := fA10_.out
  have r3_ := fA11_.out
  generalize w' = X1 at th_ p3_ q3_ r3_ bb_ ⊢
  clear fB_ fT_ fA9_ fA10_ fA11_ fH9_ fH10_ fH11_ fn9_10 fn9_11 fn10_11 HT_ HW_ hHeld t0_ hW0 hH hH2 hgH0
  obtain ⟨la, hla⟩ : ∃ v : V, ⟨a, b, c, d, e⟩ = v := ⟨_, rfl⟩
  obtain ⟨lb, hlb⟩ : ∃ v : V, ⟨a', b', c', d', e'⟩ = v := ⟨_, rfl⟩
  obtain ⟨ma, hma⟩ : ∃ v : V, ⟨(a % 68719476736), (b % 68719476736), (c % 68719476736), (d % 68719476736), (e % 68719476736)⟩ = v := ⟨_, rfl⟩
  obtain ⟨mb, hmb⟩ : ∃ v : V, ⟨(a' % 68719476736), (b' % 68719476736), (c' % 68719476736), (d' % 68719476736), (e' % 68719476736)⟩ = v := ⟨_, rfl⟩
  obtain ⟨mc, hmc⟩ : ∃ v : V, ⟨(a'' % 68719476736), (b'' % 68719476736), (c'' % 68719476736), (d'' % 68719476736), (e'' % 68719476736)⟩ = v := ⟨_, rfl⟩
  have HL := Aside0.mk (And.intro hla hlb)
  have HF := Aside0.mk (And.intro (And.intro th_ (And.intro (show AtW X1 p ma from hma ▸ p3_) (And.intro (show AtW X1 q (QV la mb ma 0) from hmb ▸ q3_) (show AtW X1 r (RV lb mc (QV la mb ma) 0) from hmc ▸ r3_)))) bb_)
  have HP : Aside0 (FitsP ma (QV la mb ma 5) (RV lb mc (QV la mb ma) 5)) := ⟨by subst hla hlb hma hmb hmc; exact HP0.out⟩
  have HM := Aside0.mk (And.intro hma (And.intro hmb hmc))
  clear HP0 th_ p3_ q3_ r3_ bb_ hla hlb hma hmb hmc
  go_wp2_with fail
  go_loopw [6] (fun u wr => ∃ k : Nat, k ≤ 5 ∧ u = .int .i64 k ∧ Aside0 ((Th wr g a b c d e a' b' c' d' e' a'' b'' c'' d'' e'' ∧ AtW wr p ma ∧ AtW wr q (QV la mb ma k) ∧ AtW wr r (RV lb mc (QV la mb ma) k)) ∧ Below g w wr)) (fun u _ => 5 - (intOf u).toNat)
  case atStart => exact ⟨0, Nat.zero_le _, rfl, HF⟩
  clear HF
  obtain ⟨k, hk, rfl, HF⟩ := hrel
  by_cases hlt : k < 5
  · have hx_ := HF.out.1.1.at0 k hlt
    rw [HL.out.1] at hx_
    have i0 : (0 : Int) ≤ (k : Int) := by omega
    have i5 : (k : Int) < 5 := by omega
    obtain ⟨qk, hqk⟩ : ∃ v, QV la mb ma k = v := ⟨_, rfl⟩
    obtain ⟨rk, hrk⟩ : ∃ v, RV lb mc (QV la mb ma) k = v := ⟨_, rfl⟩
    have hqs : QV la mb ma (k + 1) = if Int.tmod (la.get k) 2 = 0 then qk.set k (if qk.get k < ma.get k then ma.get k else qk.get k) else qk := by rw [← hqk]; rfl
    obtain ⟨q2, hq2⟩ : ∃ v, QV la mb ma (k + 1) = v := ⟨_, rfl⟩
    have hrs : RV lb mc (QV la mb ma) (k + 1) = if Int.tmod (lb.get k) 2 = 0 then rk.set k (if rk.get k < q2.get k then q2.get k else rk.get k) else rk := by rw [← hrk, ← hq2]; rfl
    have hf := HF.out
    rw [hqk, hrk] at hf
    rw [hq2] at hqs
    obtain ⟨⟨ht_, hp_, hq_, hr_⟩, hb_⟩ := hf
    obtain ⟨x, hx⟩ : ∃ x, la.get k = x := ⟨_, rfl⟩
    rw [hx] at hx_ hqs
    have HQ2 := Aside0.mk hq2
    have HRS := Aside0.mk hrs
    clear hrs HF hqk hrk hx hq2
    by_cases c1 : Int.tmod x 2 = 0
    · rw [if_pos c1] at hqs
      have c1b : (Int.tmod x 2 == 0) = true := by rw [c1]; rfl
      have h1_ := hq_.at_ k hlt
      have h2_ := hp_.at_ k hlt
      obtain ⟨y, hy⟩ : ∃ x, qk.get k = x := ⟨_, rfl⟩
      obtain ⟨z, hz⟩ : ∃ x, ma.get k = x := ⟨_, rfl⟩
      rw [hy] at h1_ hqs
      rw [hz] at h2_ hqs
      obtain ⟨mx, hmx⟩ : ∃ m, (if y < z then z else y) = m := ⟨_, rfl⟩
      rw [hmx] at hqs
      have HQS := Aside0.mk hqs
      clear hqs c1 hy hz
      go_wp2_with fail
      refine start_ (n := 10) (S := fun w' => w'.cell? ⟨q, k, none⟩ = some (.int .i64 y) ∧ w'.cell? ⟨p, k, none⟩ = some (.int .i64 z)) (ds := [9]) #[false, false, false, false, false, false, false, false, false, false] (by kernel_rfl) rfl rfl ⟨h1_, h2_⟩ (fun hHeld => ?_)
      refine pure_ (i := 0) (N := some 38) (v := ?_) (a' := ?_) #[true, false, false, false, false, false, false, false, false, false] rfl rfl (by kernel_rfl) (fun _ _ _ h => h) (Or.inl ⟨by rfl, ?_⟩) ?_ ?_
      rotate_left
      · intro w'
        go_simp
        with_reducible rfl
      rotate_left
      · simp only [Act.put, List.setIfInBounds_toArray, List.set_cons_zero, List.set_cons_succ, i64_w, i32_w]
        rfl
      refine pure_ (i := 1) (N := some 39) (v := ?_) (a' := ?_) #[true, true, false, false, false, false, false, false, false, false] rfl rfl (by kernel_rfl) (fun _ _ _ h => h) (Or.inl ⟨by rfl, ?_⟩) ?_ ?_
      rotate_left
      · intro w'
        go_simp
        with_reducible rfl
      rotate_left
      · simp only [Act.put, List.setIfInBounds_toArray, List.set_cons_zero, List.set_cons_succ, i64_w, i32_w]
        rfl
      refine pure_ (i := 2) (N := some 40) (v := ?_) (a' := ?_) #[true, true, true, false, false, false, false, false, false, false] rfl rfl (by kernel_rfl) (fun _ _ _ h => h) (Or.inl ⟨by rfl, ?_⟩) ?_ ?_
      rotate_left
      · intro w'
        go_simp
        with_reducible rfl
      rotate_left
      · simp only [Act.put, List.setIfInBounds_toArray, List.set_cons_zero, List.set_cons_succ, i64_w, i32_w]
        rfl
      refine pure_ (i := 4) (N := some 42) (v := ?_) (a' := ?_) #[true, true, true, false, true, false, false, false, false, false] rfl rfl (by kernel_rfl) (fun _ _ _ h => h) (Or.inl ⟨by rfl, ?_⟩) ?_ ?_
      rotate_left
      · intro w'
        go_simp
        with_reducible rfl
      rotate_left
      · simp only [Act.put, List.setIfInBounds_toArray, List.set_cons_zero, List.set_cons_succ, i64_w, i32_w]
        rfl
      refine pure_ (i := 5) (N := some 43) (v := ?_) (a' := ?_) #[true, true, true, false, true, true, false, false, false, false] rfl rfl (by kernel_rfl) (fun _ _ _ h => h) (Or.inl ⟨by rfl, ?_⟩) ?_ ?_
      rotate_left
      · intro w'
        go_simp
        with_reducible rfl
      rotate_left
      · simp only [Act.put, List.setIfInBounds_toArray, List.set_cons_zero, List.set_cons_succ, i64_w, i32_w]
        rfl
      refine take_ (i := 3) (N := some 41) (v := ?_) (a' := ?_) #[true, true, true, true, true, true, false, false, false, false] rfl rfl (by kernel_rfl) (fun _ _ _ h => h) (Or.inl ⟨by rfl, ?_⟩) hHeld ?_ ?_
      rotate_left
      · rintro w' ⟨s0, s1⟩
        go_simp
        with_reducible rfl
      rotate_left
      · simp only [Act.put, List.setIfInBounds_toArray, List.set_cons_zero, List.set_cons_succ, i64_w, i32_w]
        rfl
      refine take_ (i := 6) (N := some 44) (v := ?_) (a' := ?_) #[true, true, true, true, true, true, true, false, false, false] rfl rfl (by kernel_rfl) (fun _ _ _ h => h) (Or.inl ⟨by rfl, ?_⟩) hHeld ?_ ?_
      rotate_left
      · rintro w' ⟨s0, s1⟩
        go_simp
        with_reducible rfl
      rotate_left
      · simp only [Act.put, List.setIfInBounds_toArray, List.set_cons_zero, List.set_cons_succ, i64_w, i32_w]
        rfl
      refine pure_ (i := 7) (N := some 45) (v := ?_) (a' := ?_) #[true, true, true, true, true, true, true, true, false, false] rfl rfl (by kernel_rfl) (fun _ _ _ h => h) (Or.inl ⟨by rfl, ?_⟩) ?_ ?_
      rotate_left
      · intro w'
        go_simp
        with_reducible rfl
      rotate_left
      · simp only [Act.put, List.setIfInBounds_toArray, List.set_cons_zero, List.set_cons_succ, i64_w, i32_w]
        rfl
      refine pure_ (i := 8) (N := some 46) (v := ?_) (a' := ?_) #[true, true, true, true, true, true, true, true, true, false] rfl rfl (by kernel_rfl) (fun _ _ _ h => h) (Or.inl ⟨by rfl, ?_⟩) ?_ ?_
      rotate_left
      · intro w'
        go_simp
        with_reducible rfl
      rotate_left
      · simp only [Act.put, List.setIfInBounds_toArray, List.set_cons_zero, List.set_cons_succ, i64_w, i32_w]
        rfl
      refine last_ (i := 9) (N := none) #[true, true, true, true, true, true, true, true, true, true] rfl rfl (by kernel_rfl) (by decide) (fun K hK => ?_)
      have hfr_ := hq_.fz k
      refine skip_ (w1 := ?_) (by rfl) rfl ?_ ?_
      rotate_left
      · go_simp
        rfl
      refine hK.out _ _ ?_
      clear hK K
      refine done_ (by kernel_rfl) ?_
      clear hHeld h1_ h2_ hfr_ hmx c1b
      replace ht_ := (ht_.other k (.int .i64 mx) hgq).drew
      replace hp_ := (hp_.other k (.int .i64 mx) hn9_10).drew
      replace hr_ := (hr_.other k (.int .i64 mx) (Ne.symm hn10_11)).drew
      have hq3_ : AtW _ q q2 := HQS.out ▸ AtW.set_ hq_ k hlt mx
      have hq2_ := hq3_.drew
      clear hq3_
      replace hb_ := below_drew1 (hb_.setCell gq0 (p := ⟨q, k, none⟩) (.int .i64 mx))
      generalize (wr.setCell ⟨q, k, none⟩ (.int .i64 mx)).drew = W2 at ht_ hp_ hr_ hq2_ hb_ ⊢
      clear hq_ HQS
      obtain ⟨x2, hxx2⟩ : ∃ x, lb.get k = x := ⟨_, rfl⟩
      have hx2_ := ht_.at1 k hlt
      rw [HL.out.2, hxx2] at hx2_
      have hrs := HRS.out
      rw [hxx2] at hrs
      clear HRS hxx2
      by_cases c2 : Int.tmod x2 2 = 0
      · rw [if_pos c2] at hrs
        have c2b : (Int.tmod x2 2 == 0) = true := by rw [c2]; rfl
        have h1_ := hr_.at_ k hlt
        have h2_ := hq2_.at_ k hlt
        obtain ⟨y2, hy⟩ : ∃ x, rk.get k = x := ⟨_, rfl⟩
        obtain ⟨z2, hz⟩ : ∃ x, q2.get k = x := ⟨_, rfl⟩
        rw [hy] at h1_ hrs
        rw [hz] at h2_ hrs
        obtain ⟨mx2, hmx⟩ : ∃ m, (if y2 < z2 then z2 else y2) = m := ⟨_, rfl⟩
        rw [hmx] at hrs
        have HRS := Aside0.mk hrs
        clear hrs c2 hy hz
        go_wp2_with fail
        refine start_ (n := 10) (S := fun w' => w'.cell? ⟨r, k, none⟩ = some (.int .i64 y2) ∧ w'.cell? ⟨q, k, none⟩ = some (.int .i64 z2)) (ds := [9]) #[false, false, false, false, false, false, false, false, false, false] (by kernel_rfl) rfl rfl ⟨h1_, h2_⟩ (fun hHeld => ?_)
        refine pure_ (i := 0) (N := some 53) (v := ?_) (a' := ?_) #[true, false, false, false, false, false, false, false, false, false] rfl rfl (by kernel_rfl) (fun _ _ _ h => h) (Or.inl ⟨by rfl, ?_⟩) ?_ ?_
        rotate_left
        · intro w'
          go_simp
          with_reducible rfl
        rotate_left
        · simp only [Act.put, List.setIfInBounds_toArray, List.set_cons_zero, List.set_cons_succ, i64_w, i32_w]
          rfl
        refine pure_ (i := 1) (N := some 54) (v := ?_) (a' := ?_) #[true, true, false, false, false, false, false, false, false, false] rfl rfl (by kernel_rfl) (fun _ _ _ h => h) (Or.inl ⟨by rfl, ?_⟩) ?_ ?_
        rotate_left
        · intro w'
          go_simp
          with_reducible rfl
        rotate_left
        · simp only [Act.put, List.setIfInBounds_toArray, List.set_cons_zero, List.set_cons_succ, i64_w, i32_w]
          rfl
        refine pure_ (i := 2) (N := some 55) (v := ?_) (a' := ?_) #[true, true, true, false, false, false, false, false, false, false] rfl rfl (by kernel_rfl) (fun _ _ _ h => h) (Or.inl ⟨by rfl, ?_⟩) ?_ ?_
        rotate_left
        · intro w'
          go_simp
          with_reducible rfl
        rotate_left
        · simp only [Act.put, List.setIfInBounds_toArray, List.set_cons_zero, List.set_cons_succ, i64_w, i32_w]
          rfl
        refine pure_ (i := 4) (N := some 57) (v := ?_) (a' := ?_) #[true, true, true, false, true, false, false, false, false, false] rfl rfl (by kernel_rfl) (fun _ _ _ h => h) (Or.inl ⟨by rfl, ?_⟩) ?_ ?_
        rotate_left
        · intro w'
          go_simp
          with_reducible rfl
        rotate_left
        · simp only [Act.put, List.setIfInBounds_toArray, List.set_cons_zero, List.set_cons_succ, i64_w, i32_w]
          rfl
        refine pure_ (i := 5) (N := some 58) (v := ?_) (a' := ?_) #[true, true, true, false, true, true, false, false, false, false] rfl rfl (by kernel_rfl) (fun _ _ _ h => h) (Or.inl ⟨by rfl, ?_⟩) ?_ ?_
        rotate_left
        · intro w'
          go_simp
          with_reducible rfl
        rotate_left
        · simp only [Act.put, List.setIfInBounds_toArray, List.set_cons_zero, List.set_cons_succ, i64_w, i32_w]
          rfl
        refine take_ (i := 3) (N := some 56) (v := ?_) (a' := ?_) #[true, true, true, true, true, true, false, false, false, false] rfl rfl (by kernel_rfl) (fun _ _ _ h => h) (Or.inl ⟨by rfl, ?_⟩) hHeld ?_ ?_
        rotate_left
        · rintro w' ⟨s0, s1⟩
          go_simp
          with_reducible rfl
        rotate_left
        · simp only [Act.put, List.setIfInBounds_toArray, List.set_cons_zero, List.set_cons_succ, i64_w, i32_w]
          rfl
        refine take_ (i := 6) (N := some 59) (v := ?_) (a' := ?_) #[true, true, true, true, true, true, true, false, false, false] rfl rfl (by kernel_rfl) (fun _ _ _ h => h) (Or.inl ⟨by rfl, ?_⟩) hHeld ?_ ?_
        rotate_left
        · rintro w' ⟨s0, s1⟩
          go_simp
          with_reducible rfl
        rotate_left
        · simp only [Act.put, List.setIfInBounds_toArray, List.set_cons_zero, List.set_cons_succ, i64_w, i32_w]
          rfl
        refine pure_ (i := 7) (N := some 60) (v := ?_) (a' := ?_) #[true, true, true, true, true, true, true, true, false, false] rfl rfl (by kernel_rfl) (fun _ _ _ h => h) (Or.inl ⟨by rfl, ?_⟩) ?_ ?_
        rotate_left
        · intro w'
          go_simp
          with_reducible rfl
        rotate_left
        · simp only [Act.put, List.setIfInBounds_toArray, List.set_cons_zero, List.set_cons_succ, i64_w, i32_w]
          rfl
        refine pure_ (i := 8) (N := some 61) (v := ?_) (a' := ?_) #[true, true, true, true, true, true, true, true, true, false] rfl rfl (by kernel_rfl) (fun _ _ _ h => h) (Or.inl ⟨by rfl, ?_⟩) ?_ ?_
        rotate_left
        · intro w'
          go_simp
          with_reducible rfl
        rotate_left
        · simp only [Act.put, List.setIfInBounds_toArray, List.set_cons_zero, List.set_cons_succ, i64_w, i32_w]
          rfl
        refine last_ (i := 9) (N := none) #[true, true, true, true, true, true, true, true, true, true] rfl rfl (by kernel_rfl) (by decide) (fun K hK => ?_)
        have hfr_ := hr_.fz k
        refine skip_ (w1 := ?_) (by rfl) rfl ?_ ?_
        rotate_left
        · go_simp
          rfl
        refine hK.out _ _ ?_
        clear hK K
        refine done_ (by kernel_rfl) ?_
        clear hHeld h1_ h2_ hfr_ hmx c2b
        replace ht_ := (ht_.other k (.int .i64 mx2) hgr).drew
        replace hp_ := (hp_.other k (.int .i64 mx2) hn9_11).drew
        replace hq2_ := (hq2_.other k (.int .i64 mx2) hn10_11).drew
        have hr3_ : AtW _ r (RV lb mc (QV la mb ma) (k + 1)) := HRS.out ▸ AtW.set_ hr_ k hlt mx2
        have hr2_ := hr3_.drew
        clear hr3_
        replace hb_ := below_drew1 (hb_.setCell gr0 (p := ⟨r, k, none⟩) (.int .i64 mx2))
        generalize (W2.setCell ⟨r, k, none⟩ (.int .i64 mx2)).drew = W3 at ht_ hp_ hq2_ hr2_ hb_ ⊢
        have HZ : Aside0 ((Th W3 g a b c d e a' b' c' d' e' a'' b'' c'' d'' e'' ∧ AtW W3 p ma ∧ AtW W3 q (QV la mb ma (k + 1)) ∧ AtW W3 r (RV lb mc (QV la mb ma) (k + 1))) ∧ Below g w W3) := ⟨⟨⟨ht_, hp_, HQ2.out ▸ hq2_, hr2_⟩, hb_⟩⟩
        clear ht_ hp_ hq2_ hr2_ hr_ hb_ hx2_ HRS
        go_wp2_with fail
        go_roundw
        case rel => exact ⟨k + 1, by omega, by go_num, HZ⟩
        case measure => simp [intOf]; omega
      · rw [if_neg c2] at hrs
        have c2b : (Int.tmod x2 2 == 0) = false := beq_eq_false_iff_ne.2 c2
        have HZ : Aside0 ((Th W2 g a b c d e a' b' c' d' e' a'' b'' c'' d'' e'' ∧ AtW W2 p ma ∧ AtW W2 q (QV la mb ma (k + 1)) ∧ AtW W2 r (RV lb mc (QV la mb ma) (k + 1))) ∧ Below g w W2) := ⟨⟨⟨ht_, hp_, HQ2.out ▸ hq2_, hrs ▸ hr_⟩, hb_⟩⟩
        clear hrs c2 ht_ hp_ hq2_ hr_ hb_
        go_wp2_with fail
        go_roundw
        case rel => exact ⟨k + 1, by omega, by go_num, HZ⟩
        case measure => simp [intOf]; omega
    · rw [if_neg c1] at hqs
      have c1b : (Int.tmod x 2 == 0) = false := beq_eq_false_iff_ne.2 c1
      have hq2_ : AtW wr q q2 := hqs ▸ hq_
      clear hqs c1 hq_
      obtain ⟨x2, hxx2⟩ : ∃ x, lb.get k = x := ⟨_, rfl⟩
      have hx2_ := ht_.at1 k hlt
      rw [HL.out.2, hxx2] at hx2_
      have hrs := HRS.out
      rw [hxx2] at hrs
      clear HRS hxx2
      by_cases c2 : Int.tmod x2 2 = 0
      · rw [if_pos c2] at hrs
        have c2b : (Int.tmod x2 2 == 0) = true := by rw [c2]; rfl
        have h1_ := hr_.at_ k hlt
        have h2_ := hq2_.at_ k hlt
        obtain ⟨y2, hy⟩ : ∃ x, rk.get k = x := ⟨_, rfl⟩
        obtain ⟨z2, hz⟩ : ∃ x, q2.get k = x := ⟨_, rfl⟩
        rw [hy] at h1_ hrs
        rw [hz] at h2_ hrs
        obtain ⟨mx2, hmx⟩ : ∃ m, (if y2 < z2 then z2 else y2) = m := ⟨_, rfl⟩
        rw [hmx] at hrs
        have HRS := Aside0.mk hrs
        clear hrs c2 hy hz
        go_wp2_with fail
        refine start_ (n := 10) (S := fun w' => w'.cell? ⟨r, k, none⟩ = some (.int .i64 y2) ∧ w'.cell? ⟨q, k, none⟩ = some (.int .i64 z2)) (ds := [9]) #[false, false, false, false, false, false, false, false, false, false] (by kernel_rfl) rfl rfl ⟨h1_, h2_⟩ (fun hHeld => ?_)
        refine pure_ (i := 0) (N := some 53) (v := ?_) (a' := ?_) #[true, false, false, false, false, false, false, false, false, false] rfl rfl (by kernel_rfl) (fun _ _ _ h => h) (Or.inl ⟨by rfl, ?_⟩) ?_ ?_
        rotate_left
        · intro w'
          go_simp
          with_reducible rfl
        rotate_left
        · simp only [Act.put, List.setIfInBounds_toArray, List.set_cons_zero, List.set_cons_succ, i64_w, i32_w]
          rfl
        refine pure_ (i := 1) (N := some 54) (v := ?_) (a' := ?_) #[true, true, false, false, false, false, false, false, false, false] rfl rfl (by kernel_rfl) (fun _ _ _ h => h) (Or.inl ⟨by rfl, ?_⟩) ?_ ?_
        rotate_left
        · intro w'
          go_simp
          with_reducible rfl
        rotate_left
        · simp only [Act.put, List.setIfInBounds_toArray, List.set_cons_zero, List.set_cons_succ, i64_w, i32_w]
          rfl
        refine pure_ (i := 2) (N := some 55) (v := ?_) (a' := ?_) #[true, true, true, false, false, false, false, false, false, false] rfl rfl (by kernel_rfl) (fun _ _ _ h => h) (Or.inl ⟨by rfl, ?_⟩) ?_ ?_
        rotate_left
        · intro w'
          go_simp
          with_reducible rfl
        rotate_left
        · simp only [Act.put, List.setIfInBounds_toArray, List.set_cons_zero, List.set_cons_succ, i64_w, i32_w]
          rfl
        refine pure_ (i := 4) (N := some 57) (v := ?_) (a' := ?_) #[true, true, true, false, true, false, false, false, false, false] rfl rfl (by kernel_rfl) (fun _ _ _ h => h) (Or.inl ⟨by rfl, ?_⟩) ?_ ?_
        rotate_left
        · intro w'
          go_simp
          with_reducible rfl
        rotate_left
        · simp only [Act.put, List.setIfInBounds_toArray, List.set_cons_zero, List.set_cons_succ, i64_w, i32_w]
          rfl
        refine pure_ (i := 5) (N := some 58) (v := ?_) (a' := ?_) #[true, true, true, false, true, true, false, false, false, false] rfl rfl (by kernel_rfl) (fun _ _ _ h => h) (Or.inl ⟨by rfl, ?_⟩) ?_ ?_
        rotate_left
        · intro w'
          go_simp
          with_reducible rfl
        rotate_left
        · simp only [Act.put, List.setIfInBounds_toArray, List.set_cons_zero, List.set_cons_succ, i64_w, i32_w]
          rfl
        refine take_ (i := 3) (N := some 56) (v := ?_) (a' := ?_) #[true, true, true, true, true, true, false, false, false, false] rfl rfl (by kernel_rfl) (fun _ _ _ h => h) (Or.inl ⟨by rfl, ?_⟩) hHeld ?_ ?_
        rotate_left
        · rintro w' ⟨s0, s1⟩
          go_simp
          with_reducible rfl
        rotate_left
        · simp only [Act.put, List.setIfInBounds_toArray, List.set_cons_zero, List.set_cons_succ, i64_w, i32_w]
          rfl
        refine take_ (i := 6) (N := some 59) (v := ?_) (a' := ?_) #[true, true, true, true, true, true, true, false, false, false] rfl rfl (by kernel_rfl) (fun _ _ _ h => h) (Or.inl ⟨by rfl, ?_⟩) hHeld ?_ ?_
        rotate_left
        · rintro w' ⟨s0, s1⟩
          go_simp
          with_reducible rfl
        rotate_left
        · simp only [Act.put, List.setIfInBounds_toArray, List.set_cons_zero, List.set_cons_succ, i64_w, i32_w]
          rfl
        refine pure_ (i := 7) (N := some 60) (v := ?_) (a' := ?_) #[true, true, true, true, true, true, true, true, false, false] rfl rfl (by kernel_rfl) (fun _ _ _ h => h) (Or.inl ⟨by rfl, ?_⟩) ?_ ?_
        rotate_left
        · intro w'
          go_simp
          with_reducible rfl
        rotate_left
        · simp only [Act.put, List.setIfInBounds_toArray, List.set_cons_zero, List.set_cons_succ, i64_w, i32_w]
          rfl
        refine pure_ (i := 8) (N := some 61) (v := ?_) (a' := ?_) #[true, true, true, true, true, true, true, true, true, false] rfl rfl (by kernel_rfl) (fun _ _ _ h => h) (Or.inl ⟨by rfl, ?_⟩) ?_ ?_
        rotate_left
        · intro w'
          go_simp
          with_reducible rfl
        rotate_left
        · simp only [Act.put, List.setIfInBounds_toArray, List.set_cons_zero, List.set_cons_succ, i64_w, i32_w]
          rfl
        refine last_ (i := 9) (N := none) #[true, true, true, true, true, true, true, true, true, true] rfl rfl (by kernel_rfl) (by decide) (fun K hK => ?_)
        have hfr_ := hr_.fz k
        refine skip_ (w1 := ?_) (by rfl) rfl ?_ ?_
        rotate_left
        · go_simp
          rfl
        refine hK.out _ _ ?_
        clear hK K
        refine done_ (by kernel_rfl) ?_
        clear hHeld h1_ h2_ hfr_ hmx c2b
        replace ht_ := (ht_.other k (.int .i64 mx2) hgr).drew
        replace hp_ := (hp_.other k (.int .i64 mx2) hn9_11).drew
        replace hq2_ := (hq2_.other k (.int .i64 mx2) hn10_11).drew
        have hr3_ : AtW _ r (RV lb mc (QV la mb ma) (k + 1)) := HRS.out ▸ AtW.set_ hr_ k hlt mx2
        have hr2_ := hr3_.drew
        clear hr3_
        replace hb_ := below_drew1 (hb_.setCell gr0 (p := ⟨r, k, none⟩) (.int .i64 mx2))
        generalize (wr.setCell ⟨r, k, none⟩ (.int .i64 mx2)).drew = W3 at ht_ hp_ hq2_ hr2_ hb_ ⊢
        have HZ : Aside0 ((Th W3 g a b c d e a' b' c' d' e' a'' b'' c'' d'' e'' ∧ AtW W3 p ma ∧ AtW W3 q (QV la mb ma (k + 1)) ∧ AtW W3 r (RV lb mc (QV la mb ma) (k + 1))) ∧ Below g w W3) := ⟨⟨⟨ht_, hp_, HQ2.out ▸ hq2_, hr2_⟩, hb_⟩⟩
        clear ht_ hp_ hq2_ hr2_ hr_ hb_ hx2_ HRS
        go_wp2_with fail
        go_roundw
        case rel => exact ⟨k + 1, by omega, by go_num, HZ⟩
        case measure => simp [intOf]; omega
      · rw [if_neg c2] at hrs
        have c2b : (Int.tmod x2 2 == 0) = false := beq_eq_false_iff_ne.2 c2
        have HZ : Aside0 ((Th wr g a b c d e a' b' c' d' e' a'' b'' c'' d'' e'' ∧ AtW wr p ma ∧ AtW wr q (QV la mb ma (k + 1)) ∧ AtW wr r (RV lb mc (QV la mb ma) (k + 1))) ∧ Below g w wr) := ⟨⟨⟨ht_, hp_, HQ2.out ▸ hq2_, hrs ▸ hr_⟩, hb_⟩⟩
        clear hrs c2 ht_ hp_ hq2_ hr_ hb_
        go_wp2_with fail
        go_roundw
        case rel => exact ⟨k + 1, by omega, by go_num, HZ⟩
        case measure => simp [intOf]; omega
  · obtain rfl : k = 5 := by omega
    obtain ⟨vb, hvb⟩ : ∃ v, QV la mb ma 5 = v := ⟨_, rfl⟩
    obtain ⟨vc, hvc⟩ : ∃ v, RV lb mc (QV la mb ma) 5 = v := ⟨_, rfl⟩
    have hP := HP.out
    have hF := HF.out
    rw [hvb, hvc] at hP hF
    obtain ⟨⟨ht_, p_, q_, r_⟩, bb_⟩ := hF
    clear HF HM HL HP hvb hvc ht_ hk hlt
    obtain ⟨x0, x1, x2, x3, x4⟩ := ma
    obtain ⟨y0, y1, y2, y3, y4⟩ := vb
    obtain ⟨z0, z1, z2, z3, z4⟩ := vc
    replace p_ : At wr p x0 x1 x2 x3 x4 := p_
    replace q_ : At wr q y0 y1 y2 y3 y4 := q_
    replace r_ : At wr r z0 z1 z2 z3 z4 := r_
    obtain ⟨f1, hf1⟩ : ∃ r, V.fits ⟨x0, x1, x2, x3, x4⟩ ⟨y0, y1, y2, y3, y4⟩ = r := ⟨_, rfl⟩
    obtain ⟨f2, hf2⟩ : ∃ r, V.fits ⟨y0, y1, y2, y3, y4⟩ ⟨z0, z1, z2, z3, z4⟩ = r := ⟨_, rfl⟩
    obtain ⟨ov, hov⟩ : ∃ r, V.overK ⟨x0, x1, x2, x3, x4⟩ ⟨y0, y1, y2, y3, y4⟩ 5 = r := ⟨_, rfl⟩
    obtain ⟨hp1, hp2, hp3, hp4, ⟨⟨S0, S1, S2, S3, S4⟩, hp5, hp6⟩, hp7, ⟨⟨T0, T1, T2, T3, T4⟩, hp8, hp9⟩⟩ := hP
    obtain ⟨⟨⟨D0, D1, D2, D3, D4⟩, De⟩, hD⟩ : ∃ r, V.minus ⟨y0, y1, y2, y3, y4⟩ ⟨x0, x1, x2, x3, x4⟩ = r := ⟨_, rfl⟩
    rw [hD] at hp4 hp7
    dsimp only at hp4 hp7
    rw [hf1, hf2] at hp1
    rw [hov, hf1] at hp3
    rw [hf1] at hp4
    have C1 := fun W => fits_c x0 x1 x2 x3 x4 y0 y1 y2 y3 y4 W
    have C2 := fun W => fits_c y0 y1 y2 y3 y4 z0 z1 z2 z3 z4 W
    have C3 := fun W => fits_c x0 x1 x2 x3 x4 z0 z1 z2 z3 z4 W
    have C4 := fun W => fits_c x0 x1 x2 x3 x4 x0 x1 x2 x3 x4 W
    have C5 := fun W => over_c x0 x1 x2 x3 x4 y0 y1 y2 y3 y4 W
    have C6 := fun W => minus_c y0 y1 y2 y3 y4 x0 x1 x2 x3 x4 W
    have C7 := fun n W h => plus2_cn x0 x1 x2 x3 x4 y0 y1 y2 y3 y4 n W h
    have C8 := fun W => minus_c S0 S1 S2 S3 S4 x0 x1 x2 x3 x4 W
    have C9 := fun n W h => plus2_cn D0 D1 D2 D3 D4 x0 x1 x2 x3 x4 n W h
    have C10 := fun W => times_c x0 x1 x2 x3 x4 2 W
    have C11 := fun n W h => plus2_cn x0 x1 x2 x3 x4 x0 x1 x2 x3 x4 n W h
    rw [hf1] at C1
    rw [hf2] at C2
    rw [hp2] at C4
    rw [hov] at C5
    rw [hD] at C6
    rw [hp5] at C7
    rw [hp6] at C8
    rw [hp8] at C10
    rw [hp9] at C11
    dsimp only at C6 C7 C8 C10 C11
    have E1 := Aside0.mk C1
    have E2 := Aside0.mk C2
    have E4 := Aside0.mk C4
    have E5 := Aside0.mk C5
    have E6 := Aside0.mk C6
    have E7 := Aside0.mk C7
    have E8 := Aside0.mk C8
    have E10 := Aside0.mk C10
    have E11 := Aside0.mk C11
    have p0_ := p_.drew
    have q0_ := q_.drew
    have r0_ := r_.drew
    have b0_ := below_drew1 bb_
    clear p_ q_ r_ bb_ C1 C2 C4 C5 C6 C7 C8 C10 C11 hf1 hf2 hov hD hp2 hp5 hp6 hp8 hp9
    have hc : (f1 = true ∧ f2 = true) ∨ (f1 = true ∧ f2 = false) ∨ f1 = false := by cases f1 <;> cases f2 <;> simp
    rcases hc with ⟨rfl, rfl⟩ | ⟨rfl, rfl⟩ | rfl
    focus
      have hz := hp1 rfl rfl
      rw [hz] at C3
      have E3 := Aside0.mk C3
      clear C3 hp1 hz
      go_wp2_with fail
      refine start_ (n := 30) (S := fun w' => w'.cell? ⟨p, 0, none⟩ = some (.int .i64 x0) ∧ w'.cell? ⟨p, 1, none⟩ = some (.int .i64 x1) ∧ w'.cell? ⟨p, 2, none⟩ = some (.int .i64 x2) ∧ w'.cell? ⟨p, 3, none⟩ = some (.int .i64 x3) ∧ w'.cell? ⟨p, 4, none⟩ = some (.int .i64 x4) ∧ w'.cell? ⟨q, 0, none⟩ = some (.int .i64 y0) ∧ w'.cell? ⟨q, 1, none⟩ = some (.int .i64 y1) ∧ w'.cell? ⟨q, 2, none⟩ = some (.int .i64 y2) ∧ w'.cell? ⟨q, 3, none⟩ = some (.int .i64 y3) ∧ w'.cell? ⟨q, 4, none⟩ = some (.int .i64 y4) ∧ w'.cell? ⟨r, 0, none⟩ = some (.int .i64 z0) ∧ w'.cell? ⟨r, 1, none⟩ = some (.int .i64 z1) ∧ w'.cell? ⟨r, 2, none⟩ = some (.int .i64 z2) ∧ w'.cell? ⟨r, 3, none⟩ = some (.int .i64 z3) ∧ w'.cell? ⟨r, 4, none⟩ = some (.int .i64 z4)) (ds := []) #[false, false, false, false, false, false, false, false, false, false, false, false, false, false, false, false, false, false, false, false, false, false, false, false, false, false, false, false, false, false] (by kernel_rfl) rfl rfl ⟨p0_.cell_0, p0_.cell_1, p0_.cell_2, p0_.cell_3, p0_.cell_4, q0_.cell_0, q0_.cell_1, q0_.cell_2, q0_.cell_3, q0_.cell_4, r0_.cell_0, r0_.cell_1, r0_.cell_2, r0_.cell_3, r0_.cell_4⟩ (fun hHeld => ?_)
      refine take_ (i := 0) (N := some 62) (v := ?_) (a' := ?_) #[true, false, false, false, false, false, false, false, false, false, false, false, false, false, false, false, false, false, false, false, false, false, false, false, false, false, false, false, false, false] rfl rfl (by kernel_rfl) (fun _ _ _ h => h) (Or.inl ⟨by rfl, ?_⟩) hHeld ?_ ?_
      rotate_left
      · rintro w' ⟨s0, s1, s2, s3, s4, s5, s6, s7, s8, s9, s10, s11, s12, s13, s14⟩
        go_simp
        with_reducible rfl
      rotate_left
      · simp only [Act.put, List.setIfInBounds_toArray, List.set_cons_zero, List.set_cons_succ, i64_w, i32_w]
        rfl
      refine take_ (i := 1) (N := some 63) (v := ?_) (a' := ?_) #[true, true, false, false, false, false, false, false, false, false, false, false, false, false, false, false, false, false, false, false, false, false, false, false, false, false, false, false, false, false] rfl rfl (by kernel_rfl) (fun _ _ _ h => h) (Or.inl ⟨by rfl, ?_⟩) hHeld ?_ ?_
      rotate_left
      · rintro w' ⟨s0, s1, s2, s3, s4, s5, s6, s7, s8, s9, s10, s11, s12, s13, s14⟩
        go_simp
        with_reducible rfl
      rotate_left
      · simp only [Act.put, List.setIfInBounds_toArray, List.set_cons_zero, List.set_cons_succ, i64_w, i32_w]
        rfl
      refine one_ (i := 2) (N := some 64) #[true, true, true, false, false, false, false, false, false, false, false, false, false, false, false, false, false, false, false, false, false, false, false, false, false, false, false, false, false, false] rfl rfl (by kernel_rfl) (by decide) (fun K hK => ?_)
      refine goes_ Tryd.func9 (by kernel_rfl) rfl #[.agg #[.int .i64 x0, .int .i64 x1, .int .i64 x2, .int .i64 x3, .int .i64 x4], .agg #[.int .i64 y0, .int .i64 y1, .int .i64 y2, .int .i64 y3, .int .i64 y4]] (by rfl) rfl rfl (by simp only [List.map_toArray, List.map_cons, List.map_nil]; rfl) ?_
      with_reducible refine (E1.out _).mono ?_
      rintro e_ Y0 ⟨rfl, hb⟩
      refine ⟨_, rfl, ?_⟩
      have p1_ := p0_.below hb
      have q1_ := q0_.below hb
      have r1_ := r0_.below hb
      have b1_ := bk b0_ (hg ▸ b0_.size) hb
      clear hHeld hb p0_ q0_ r0_ b0_
      refine hK.out _ _ ⟨p1_.cell_0, p1_.cell_1, p1_.cell_2, p1_.cell_3, p1_.cell_4, q1_.cell_0, q1_.cell_1, q1_.cell_2, q1_.cell_3, q1_.cell_4, r1_.cell_0, r1_.cell_1, r1_.cell_2, r1_.cell_3, r1_.cell_4⟩ (fun hHeld => ?_)
      clear hK K
      refine norm_ (a' := ?_) ?_ ?_
      rotate_left
      · show Act.put _ (some 64) _ = _
        simp only [Act.put, List.setIfInBounds_toArray, List.set_cons_zero, List.set_cons_succ, i64_w, i32_w]
        rfl
      refine pure_ (i := 3) (N := some 65) (v := ?_) (a' := ?_) #[true, true, true, true, false, false, false, false, false, false, false, false, false, false, false, false, false, false, false, false, false, false, false, false, false, false, false, false, false, false] rfl rfl (by kernel_rfl) (fun _ _ _ h => h) (Or.inl ⟨by rfl, ?_⟩) ?_ ?_
      rotate_left
      · intro w'
        go_simp
        with_reducible rfl
      rotate_left
      · simp only [Act.put, List.setIfInBounds_toArray, List.set_cons_zero, List.set_cons_succ, i64_w, i32_w]
        rfl
      refine take_ (i := 4) (N := some 66) (v := ?_) (a' := ?_) #[true, true, true, true, true, false, false, false, false, false, false, false, false, false, false, false, false, false, false, false, false, false, false, false, false, false, false, false, false, false] rfl rfl (by kernel_rfl) (fun _ _ _ h => h) (Or.inl ⟨by rfl, ?_⟩) hHeld ?_ ?_
      rotate_left
      · rintro w' ⟨s0, s1, s2, s3, s4, s5, s6, s7, s8, s9, s10, s11, s12, s13, s14⟩
        go_simp
        with_reducible rfl
      rotate_left
      · simp only [Act.put, List.setIfInBounds_toArray, List.set_cons_zero, List.set_cons_succ, i64_w, i32_w]
        rfl
      refine take_ (i := 5) (N := some 67) (v := ?_) (a' := ?_) #[true, true, true, true, true, true, false, false, false, false, false, false, false, false, false, false, false, false, false, false, false, false, false, false, false, false, false, false, false, false] rfl rfl (by kernel_rfl) (fun _ _ _ h => h) (Or.inl ⟨by rfl, ?_⟩) hHeld ?_ ?_
      rotate_left
      · rintro w' ⟨s0, s1, s2, s3, s4, s5, s6, s7, s8, s9, s10, s11, s12, s13, s14⟩
        go_simp
        with_reducible rfl
      rotate_left
      · simp only [Act.put, List.setIfInBounds_toArray, List.set_cons_zero, List.set_cons_succ, i64_w, i32_w]
        rfl
      refine one_ (i := 6) (N := some 68) #[true, true, true, true, true, true, true, false, false, false, false, false, false, false, false, false, false, false, false, false, false, false, false, false, false, false, false, false, false, false] rfl rfl (by kernel_rfl) (by decide) (fun K hK => ?_)
      refine goes_ Tryd.func9 (by kernel_rfl) rfl #[.agg #[.int .i64 y0, .int .i64 y1, .int .i64 y2, .int .i64 y3, .int .i64 y4], .agg #[.int .i64 z0, .int .i64 z1, .int .i64 z2, .int .i64 z3, .int .i64 z4]] (by rfl) rfl rfl (by simp only [List.map_toArray, List.map_cons, List.map_nil]; rfl) ?_
      with_reducible refine (E2.out _).mono ?_
      rintro e_ Y1 ⟨rfl, hb⟩
      refine ⟨_, rfl, ?_⟩
      have p2_ := p1_.below hb
      have q2_ := q1_.below hb
      have r2_ := r1_.below hb
      have b2_ := bk b1_ (hg ▸ b1_.size) hb
      clear hHeld hb p1_ q1_ r1_ b1_
      refine hK.out _ _ ⟨p2_.cell_0, p2_.cell_1, p2_.cell_2, p2_.cell_3, p2_.cell_4, q2_.cell_0, q2_.cell_1, q2_.cell_2, q2_.cell_3, q2_.cell_4, r2_.cell_0, r2_.cell_1, r2_.cell_2, r2_.cell_3, r2_.cell_4⟩ (fun hHeld => ?_)
      clear hK K
      refine norm_ (a' := ?_) ?_ ?_
      rotate_left
      · show Act.put _ (some 68) _ = _
        simp only [Act.put, List.setIfInBounds_toArray, List.set_cons_zero, List.set_cons_succ, i64_w, i32_w]
        rfl
      refine pure_ (i := 7) (N := some 69) (v := ?_) (a' := ?_) #[true, true, true, true, true, true, true, true, false, false, false, false, false, false, false, false, false, false, false, false, false, false, false, false, false, false, false, false, false, false] rfl rfl (by kernel_rfl) (fun _ _ _ h => h) (Or.inl ⟨by rfl, ?_⟩) ?_ ?_
      rotate_left
      · intro w'
        go_simp
        with_reducible rfl
      rotate_left
      · simp only [Act.put, List.setIfInBounds_toArray, List.set_cons_zero, List.set_cons_succ, i64_w, i32_w]
        rfl
      refine pure_ (i := 8) (N := some 70) (v := ?_) (a' := ?_) #[true, true, true, true, true, true, true, true, true, false, false, false, false, false, false, false, false, false, false, false, false, false, false, false, false, false, false, false, false, false] rfl rfl (by kernel_rfl) (fun _ _ _ h => h) (Or.inl ⟨by rfl, ?_⟩) ?_ ?_
      rotate_left
      · intro w'
        go_simp
        with_reducible rfl
      rotate_left
      · simp only [Act.put, List.setIfInBounds_toArray, List.set_cons_zero, List.set_cons_succ, i64_w, i32_w]
        rfl
      refine take_ (i := 9) (N := some 71) (v := ?_) (a' := ?_) #[true, true, true, true, true, true, true, true, true, true, false, false, false, false, false, false, false, false, false, false, false, false, false, false, false, false, false, false, false, false] rfl rfl (by kernel_rfl) (fun _ _ _ h => h) (Or.inl ⟨by rfl, ?_⟩) hHeld ?_ ?_
      rotate_left
      · rintro w' ⟨s0, s1, s2, s3, s4, s5, s6, s7, s8, s9, s10, s11, s12, s13, s14⟩
        go_simp
        with_reducible rfl
      rotate_left
      · simp only [Act.put, List.setIfInBounds_toArray, List.set_cons_zero, List.set_cons_succ, i64_w, i32_w]
        rfl
      refine take_ (i := 10) (N := some 72) (v := ?_) (a' := ?_) #[true, true, true, true, true, true, true, true, true, true, true, false, false, false, false, false, false, false, false, false, false, false, false, false, false, false, false, false, false, false] rfl rfl (by kernel_rfl) (fun _ _ _ h => h) (Or.inl ⟨by rfl, ?_⟩) hHeld ?_ ?_
      rotate_left
      · rintro w' ⟨s0, s1, s2, s3, s4, s5, s6, s7, s8, s9, s10, s11, s12, s13, s14⟩
        go_simp
        with_reducible rfl
      rotate_left
      · simp only [Act.put, List.setIfInBounds_toArray, List.set_cons_zero, List.set_cons_succ, i64_w, i32_w]
        rfl
      refine one_ (i := 11) (N := some 73) #[true, true, true, true, true, true, true, true, true, true, true, true, false, false, false, false, false, false, false, false, false, false, false, false, false, false, false, false, false, false] rfl rfl (by kernel_rfl) (by decide) (fun K hK => ?_)
      refine goes_ Tryd.func9 (by kernel_rfl) rfl #[.agg #[.int .i64 x0, .int .i64 x1, .int .i64 x2, .int .i64 x3, .int .i64 x4], .agg #[.int .i64 z0, .int .i64 z1, .int .i64 z2, .int .i64 z3, .int .i64 z4]] (by rfl) rfl rfl (by simp only [List.map_toArray, List.map_cons, List.map_nil]; rfl) ?_
      with_reducible refine (E3.out _).mono ?_
      rintro e_ Y2 ⟨rfl, hb⟩
      refine ⟨_, rfl, ?_⟩
      have p3_ := p2_.below hb
      have q3_ := q2_.below hb
      have r3_ := r2_.below hb
      have b3_ := bk b2_ (hg ▸ b2_.size) hb
      clear hHeld hb p2_ q2_ r2_ b2_
      refine hK.out _ _ ⟨p3_.cell_0, p3_.cell_1, p3_.cell_2, p3_.cell_3, p3_.cell_4, q3_.cell_0, q3_.cell_1, q3_.cell_2, q3_.cell_3, q3_.cell_4, r3_.cell_0, r3_.cell_1, r3_.cell_2, r3_.cell_3, r3_.cell_4⟩ (fun hHeld => ?_)
      clear hK K
      refine norm_ (a' := ?_) ?_ ?_
      rotate_left
      · show Act.put _ (some 73) _ = _
        simp only [Act.put, List.setIfInBounds_toArray, List.set_cons_zero, List.set_cons_succ, i64_w, i32_w]
        rfl
      refine pure_ (i := 12) (N := some 74) (v := ?_) (a' := ?_) #[true, true, true, true, true, true, true, true, true, true, true, true, true, false, false, false, false, false, false, false, false, false, false, false, false, false, false, false, false, false] rfl rfl (by kernel_rfl) (fun _ _ _ h => h) (Or.inl ⟨by rfl, ?_⟩) ?_ ?_
      rotate_left
      · intro w'
        go_simp
        with_reducible rfl
      rotate_left
      · simp only [Act.put, List.setIfInBounds_toArray, List.set_cons_zero, List.set_cons_succ, i64_w, i32_w]
        rfl
      refine pure_ (i := 13) (N := some 75) (v := ?_) (a' := ?_) #[true, true, true, true, true, true, true, true, true, true, true, true, true, true, false, false, false, false, false, false, false, false, false, false, false, false, false, false, false, false] rfl rfl (by kernel_rfl) (fun _ _ _ h => h) (Or.inl ⟨by rfl, ?_⟩) ?_ ?_
      rotate_left
      · intro w'
        go_simp
        with_reducible rfl
      rotate_left
      · simp only [Act.put, List.setIfInBounds_toArray, List.set_cons_zero, List.set_cons_succ, i64_w, i32_w]
        rfl
      refine pure_ (i := 14) (N := some 76) (v := ?_) (a' := ?_) #[true, true, true, true, true, true, true, true, true, true, true, true, true, true, true, false, false, false, false, false, false, false, false, false, false, false, false, false, false, false] rfl rfl (by kernel_rfl) (fun _ _ _ h => h) (Or.inl ⟨by rfl, ?_⟩) ?_ ?_
      rotate_left
      · intro w'
        go_simp
        with_reducible rfl
      rotate_left
      · simp only [Act.put, List.setIfInBounds_toArray, List.set_cons_zero, List.set_cons_succ, i64_w, i32_w]
        rfl
      refine take_ (i := 15) (N := some 77) (v := ?_) (a' := ?_) #[true, true, true, true, true, true, true, true, true, true, true, true, true, true, true, true, false, false, false, false, false, false, false, false, false, false, false, false, false, false] rfl rfl (by kernel_rfl) (fun _ _ _ h => h) (Or.inl ⟨by rfl, ?_⟩) hHeld ?_ ?_
      rotate_left
      · rintro w' ⟨s0, s1, s2, s3, s4, s5, s6, s7, s8, s9, s10, s11, s12, s13, s14⟩
        go_simp
        with_reducible rfl
      rotate_left
      · simp only [Act.put, List.setIfInBounds_toArray, List.set_cons_zero, List.set_cons_succ, i64_w, i32_w]
        rfl
      refine take_ (i := 16) (N := some 78) (v := ?_) (a' := ?_) #[true, true, true, true, true, true, true, true, true, true, true, true, true, true, true, true, true, false, false, false, false, false, false, false, false, false, false, false, false, false] rfl rfl (by kernel_rfl) (fun _ _ _ h => h) (Or.inl ⟨by rfl, ?_⟩) hHeld ?_ ?_
      rotate_left
      · rintro w' ⟨s0, s1, s2, s3, s4, s5, s6, s7, s8, s9, s10, s11, s12, s13, s14⟩
        go_simp
        with_reducible rfl
      rotate_left
      · simp only [Act.put, List.setIfInBounds_toArray, List.set_cons_zero, List.set_cons_succ, i64_w, i32_w]
        rfl
      refine one_ (i := 17) (N := some 79) #[true, true, true, true, true, true, true, true, true, true, true, true, true, true, true, true, true, true, false, false, false, false, false, false, false, false, false, false, false, false] rfl rfl (by kernel_rfl) (by decide) (fun K hK => ?_)
      refine goes_ Tryd.func9 (by kernel_rfl) rfl #[.agg #[.int .i64 x0, .int .i64 x1, .int .i64 x2, .int .i64 x3, .int .i64 x4], .agg #[.int .i64 x0, .int .i64 x1, .int .i64 x2, .int .i64 x3, .int .i64 x4]] (by rfl) rfl rfl (by simp only [List.map_toArray, List.map_cons, List.map_nil]; rfl) ?_
      with_reducible refine (E4.out _).mono ?_
      rintro e_ Y3 ⟨rfl, hb⟩
      refine ⟨_, rfl, ?_⟩
      have p4_ := p3_.below hb
      have q4_ := q3_.below hb
      have r4_ := r3_.below hb
      have b4_ := bk b3_ (hg ▸ b3_.size) hb
      clear hHeld hb p3_ q3_ r3_ b3_
      refine hK.out _ _ ⟨p4_.cell_0, p4_.cell_1, p4_.cell_2, p4_.cell_3, p4_.cell_4, q4_.cell_0, q4_.cell_1, q4_.cell_2, q4_.cell_3, q4_.cell_4, r4_.cell_0, r4_.cell_1, r4_.cell_2, r4_.cell_3, r4_.cell_4⟩ (fun hHeld => ?_)
      clear hK K
      refine norm_ (a' := ?_) ?_ ?_
      rotate_left
      · show Act.put _ (some 79) _ = _
        simp only [Act.put, List.setIfInBounds_toArray, List.set_cons_zero, List.set_cons_succ, i64_w, i32_w]
        rfl
      refine pure_ (i := 18) (N := some 80) (v := ?_) (a' := ?_) #[true, true, true, true, true, true, true, true, true, true, true, true, true, true, true, true, true, true, true, false, false, false, false, false, false, false, false, false, false, false] rfl rfl (by kernel_rfl) (fun _ _ _ h => h) (Or.inl ⟨by rfl, ?_⟩) ?_ ?_
      rotate_left
      · intro w'
        go_simp
        with_reducible rfl
      rotate_left
      · simp only [Act.put, List.setIfInBounds_toArray, List.set_cons_zero, List.set_cons_succ, i64_w, i32_w]
        rfl
      refine pure_ (i := 19) (N := some 81) (v := ?_) (a' := ?_) #[true, true, true, true, true, true, true, true, true, true, true, true, true, true, true, true, true, true, true, true, false, false, false, false, false, false, false, false, false, false] rfl rfl (by kernel_rfl) (fun _ _ _ h => h) (Or.inl ⟨by rfl, ?_⟩) ?_ ?_
      rotate_left
      · intro w'
        go_simp
        with_reducible rfl
      rotate_left
      · simp only [Act.put, List.setIfInBounds_toArray, List.set_cons_zero, List.set_cons_succ, i64_w, i32_w]
        rfl
      refine pure_ (i := 20) (N := some 82) (v := ?_) (a' := ?_) #[true, true, true, true, true, true, true, true, true, true, true, true, true, true, true, true, true, true, true, true, true, false, false, false, false, false, false, false, false, false] rfl rfl (by kernel_rfl) (fun _ _ _ h => h) (Or.inl ⟨by rfl, ?_⟩) ?_ ?_
      rotate_left
      · intro w'
        go_simp
        with_reducible rfl
      rotate_left
      · simp only [Act.put, List.setIfInBounds_toArray, List.set_cons_zero, List.set_cons_succ, i64_w, i32_w]
        rfl
      refine take_ (i := 21) (N := some 83) (v := ?_) (a' := ?_) #[true, true, true, true, true, true, true, true, true, true, true, true, true, true, true, true, true, true, true, true, true, true, false, false, false, false, false, false, false, false] rfl rfl (by kernel_rfl) (fun _ _ _ h => h) (Or.inl ⟨by rfl, ?_⟩) hHeld ?_ ?_
      rotate_left
      · rintro w' ⟨s0, s1, s2, s3, s4, s5, s6, s7, s8, s9, s10, s11, s12, s13, s14⟩
        go_simp
        with_reducible rfl
      rotate_left
      · simp only [Act.put, List.setIfInBounds_toArray, List.set_cons_zero, List.set_cons_succ, i64_w, i32_w]
        rfl
      refine take_ (i := 22) (N := some 84) (v := ?_) (a' := ?_) #[true, true, true, true, true, true, true, true, true, true, true, true, true, true, true, true, true, true, true, true, true, true, true, false, false, false, false, false, false, false] rfl rfl (by kernel_rfl) (fun _ _ _ h => h) (Or.inl ⟨by rfl, ?_⟩) hHeld ?_ ?_
      rotate_left
      · rintro w' ⟨s0, s1, s2, s3, s4, s5, s6, s7, s8, s9, s10, s11, s12, s13, s14⟩
        go_simp
        with_reducible rfl
      rotate_left
      · simp only [Act.put, List.setIfInBounds_toArray, List.set_cons_zero, List.set_cons_succ, i64_w, i32_w]
        rfl
      refine take_ (i := 24) (N := some 86) (v := ?_) (a' := ?_) #[true, true, true, true, true, true, true, true, true, true, true, true, true, true, true, true, true, true, true, true, true, true, true, false, true, false, false, false, false, false] rfl rfl (by kernel_rfl) (fun _ _ _ h => h) (Or.inl ⟨by rfl, ?_⟩) hHeld ?_ ?_
      rotate_left
      · rintro w' ⟨s0, s1, s2, s3, s4, s5, s6, s7, s8, s9, s10, s11, s12, s13, s14⟩
        go_simp
        with_reducible rfl
      rotate_left
      · simp only [Act.put, List.setIfInBounds_toArray, List.set_cons_zero, List.set_cons_succ, i64_w, i32_w]
        rfl
      refine take_ (i := 25) (N := some 87) (v := ?_) (a' := ?_) #[true, true, true, true, true, true, true, true, true, true, true, true, true, true, true, true, true, true, true, true, true, true, true, false, true, true, false, false, false, false] rfl rfl (by kernel_rfl) (fun _ _ _ h => h) (Or.inl ⟨by rfl, ?_⟩) hHeld ?_ ?_
      rotate_left
      · rintro w' ⟨s0, s1, s2, s3, s4, s5, s6, s7, s8, s9, s10, s11, s12, s13, s14⟩
        go_simp
        with_reducible rfl
      rotate_left
      · simp only [Act.put, List.setIfInBounds_toArray, List.set_cons_zero, List.set_cons_succ, i64_w, i32_w]
        rfl
      refine one_ (i := 23) (N := some 85) #[true, true, true, true, true, true, true, true, true, true, true, true, true, true, true, true, true, true, true, true, true, true, true, true, true, true, false, false, false, false] rfl rfl (by kernel_rfl) (by decide) (fun K hK => ?_)
      refine goes_ Tryd.func9 (by kernel_rfl) rfl #[.agg #[.int .i64 x0, .int .i64 x1, .int .i64 x2, .int .i64 x3, .int .i64 x4], .agg #[.int .i64 y0, .int .i64 y1, .int .i64 y2, .int .i64 y3, .int .i64 y4]] (by rfl) rfl rfl (by simp only [List.map_toArray, List.map_cons, List.map_nil]; rfl) ?_
      with_reducible refine (E1.out _).mono ?_
      rintro e_ Y4 ⟨rfl, hb⟩
      refine ⟨_, rfl, ?_⟩
      have p5_ := p4_.below hb
      have q5_ := q4_.below hb
      have r5_ := r4_.below hb
      have b5_ := bk b4_ (hg ▸ b4_.size) hb
      clear hHeld hb p4_ q4_ r4_ b4_
      refine hK.out _ _ ⟨p5_.cell_0, p5_.cell_1, p5_.cell_2, p5_.cell_3, p5_.cell_4, q5_.cell_0, q5_.cell_1, q5_.cell_2, q5_.cell_3, q5_.cell_4, r5_.cell_0, r5_.cell_1, r5_.cell_2, r5_.cell_3, r5_.cell_4⟩ (fun hHeld => ?_)
      clear hK K
      refine norm_ (a' := ?_) ?_ ?_
      rotate_left
      · show Act.put _ (some 85) _ = _
        simp only [Act.put, List.setIfInBounds_toArray, List.set_cons_zero, List.set_cons_succ, i64_w, i32_w]
        rfl
      refine one_ (i := 26) (N := some 88) #[true, true, true, true, true, true, true, true, true, true, true, true, true, true, true, true, true, true, true, true, true, true, true, true, true, true, true, false, false, false] rfl rfl (by kernel_rfl) (by decide) (fun K hK => ?_)
      refine goes_ Tryd.func10 (by kernel_rfl) rfl #[.agg #[.int .i64 x0, .int .i64 x1, .int .i64 x2, .int .i64 x3, .int .i64 x4], .agg #[.int .i64 y0, .int .i64 y1, .int .i64 y2, .int .i64 y3, .int .i64 y4]] (by rfl) rfl rfl (by simp only [List.map_toArray, List.map_cons, List.map_nil]; rfl) ?_
      with_reducible refine (E5.out _).mono ?_
      rintro e_ Y5 ⟨rfl, hb⟩
      refine ⟨_, rfl, ?_⟩
      have p6_ := p5_.below hb
      have q6_ := q5_.below hb
      have r6_ := r5_.below hb
      have b6_ := bk b5_ (hg ▸ b5_.size) hb
      clear hHeld hb p5_ q5_ r5_ b5_
      refine hK.out _ _ ⟨p6_.cell_0, p6_.cell_1, p6_.cell_2, p6_.cell_3, p6_.cell_4, q6_.cell_0, q6_.cell_1, q6_.cell_2, q6_.cell_3, q6_.cell_4, r6_.cell_0, r6_.cell_1, r6_.cell_2, r6_.cell_3, r6_.cell_4⟩ (fun hHeld => ?_)
      clear hK K
      refine norm_ (a' := ?_) ?_ ?_
      rotate_left
      · show Act.put _ (some 88) _ = _
        simp only [Act.put, List.setIfInBounds_toArray, List.set_cons_zero, List.set_cons_succ, i64_w, i32_w]
        rfl
      refine pure_ (i := 27) (N := some 89) (v := ?_) (a' := ?_) #[true, true, true, true, true, true, true, true, true, true, true, true, true, true, true, true, true, true, true, true, true, true, true, true, true, true, true, true, false, false] rfl rfl (by kernel_rfl) (fun _ _ _ h => h) (Or.inl ⟨by rfl, ?_⟩) ?_ ?_
      rotate_left
      · intro w'
        go_simp
        with_reducible rfl
      rotate_left
      · simp only [Act.put, List.setIfInBounds_toArray, List.set_cons_zero, List.set_cons_succ, i64_w, i32_w]
        rfl
      refine pure_ (i := 28) (N := some 90) (v := ?_) (a' := ?_) #[true, true, true, true, true, true, true, true, true, true, true, true, true, true, true, true, true, true, true, true, true, true, true, true, true, true, true, true, true, false] rfl rfl (by kernel_rfl) (fun _ _ _ h => h) (Or.inl ⟨by rfl, ?_⟩) ?_ ?_
      rotate_left
      · intro w'
        go_simp
        with_reducible rfl
      rotate_left
      · simp only [Act.put, List.setIfInBounds_toArray, List.set_cons_zero, List.set_cons_succ, i64_w, i32_w]
        rfl
      refine pure_ (i := 29) (N := some 91) (v := ?_) (a' := ?_) #[true, true, true, true, true, true, true, true, true, true, true, true, true, true, true, true, true, true, true, true, true, true, true, true, true, true, true, true, true, true] rfl rfl (by kernel_rfl) (fun _ _ _ h => h) (Or.inl ⟨by rfl, ?_⟩) ?_ ?_
      rotate_left
      · intro w'
        go_simp
        with_reducible rfl
      rotate_left
      · simp only [Act.put, List.setIfInBounds_toArray, List.set_cons_zero, List.set_cons_succ, i64_w, i32_w]
        rfl
      refine done_ (by kernel_rfl) ?_
      have p_ := p6_
      have q_ := q6_
      have bb_ := b6_
      clear hHeld p6_ q6_ r6_ b6_ E2 E4 E5 E3
      have hde : De = 0 := by simpa using hp4
      have hz := hp7 hde
      rw [hz] at C9
      dsimp only at C9
      have E9 := Aside0.mk C9
      clear C9 hz hde hp7
    rotate_left
    focus
      clear C3 hp1
      go_wp2_with fail
      refine start_ (n := 30) (S := fun w' => w'.cell? ⟨p, 0, none⟩ = some (.int .i64 x0) ∧ w'.cell? ⟨p, 1, none⟩ = some (.int .i64 x1) ∧ w'.cell? ⟨p, 2, none⟩ = some (.int .i64 x2) ∧ w'.cell? ⟨p, 3, none⟩ = some (.int .i64 x3) ∧ w'.cell? ⟨p, 4, none⟩ = some (.int .i64 x4) ∧ w'.cell? ⟨q, 0, none⟩ = some (.int .i64 y0) ∧ w'.cell? ⟨q, 1, none⟩ = some (.int .i64 y1) ∧ w'.cell? ⟨q, 2, none⟩ = some (.int .i64 y2) ∧ w'.cell? ⟨q, 3, none⟩ = some (.int .i64 y3) ∧ w'.cell? ⟨q, 4, none⟩ = some (.int .i64 y4) ∧ w'.cell? ⟨r, 0, none⟩ = some (.int .i64 z0) ∧ w'.cell? ⟨r, 1, none⟩ = some (.int .i64 z1) ∧ w'.cell? ⟨r, 2, none⟩ = some (.int .i64 z2) ∧ w'.cell? ⟨r, 3, none⟩ = some (.int .i64 z3) ∧ w'.cell? ⟨r, 4, none⟩ = some (.int .i64 z4)) (ds := []) #[false, false, false, false, false, false, false, false, false, false, false, false, false, false, false, false, false, false, false, false, false, false, false, false, false, false, false, false, false, false] (by kernel_rfl) rfl rfl ⟨p0_.cell_0, p0_.cell_1, p0_.cell_2, p0_.cell_3, p0_.cell_4, q0_.cell_0, q0_.cell_1, q0_.cell_2, q0_.cell_3, q0_.cell_4, r0_.cell_0, r0_.cell_1, r0_.cell_2, r0_.cell_3, r0_.cell_4⟩ (fun hHeld => ?_)
      refine take_ (i := 0) (N := some 62) (v := ?_) (a' := ?_) #[true, false, false, false, false, false, false, false, false, false, false, false, false, false, false, false, false, false, false, false, false, false, false, false, false, false, false, false, false, false] rfl rfl (by kernel_rfl) (fun _ _ _ h => h) (Or.inl ⟨by rfl, ?_⟩) hHeld ?_ ?_
      rotate_left
      · rintro w' ⟨s0, s1, s2, s3, s4, s5, s6, s7, s8, s9, s10, s11, s12, s13, s14⟩
        go_simp
        with_reducible rfl
      rotate_left
      · simp only [Act.put, List.setIfInBounds_toArray, List.set_cons_zero, List.set_cons_succ, i64_w, i32_w]
        rfl
      refine take_ (i := 1) (N := some 63) (v := ?_) (a' := ?_) #[true, true, false, false, false, false, false, false, false, false, false, false, false, false, false, false, false, false, false, false, false, false, false, false, false, false, false, false, false, false] rfl rfl (by kernel_rfl) (fun _ _ _ h => h) (Or.inl ⟨by rfl, ?_⟩) hHeld ?_ ?_
      rotate_left
      · rintro w' ⟨s0, s1, s2, s3, s4, s5, s6, s7, s8, s9, s10, s11, s12, s13, s14⟩
        go_simp
        with_reducible rfl
      rotate_left
      · simp only [Act.put, List.setIfInBounds_toArray, List.set_cons_zero, List.set_cons_succ, i64_w, i32_w]
        rfl
      refine one_ (i := 2) (N := some 64) #[true, true, true, false, false, false, false, false, false, false, false, false, false, false, false, false, false, false, false, false, false, false, false, false, false, false, false, false, false, false] rfl rfl (by kernel_rfl) (by decide) (fun K hK => ?_)
      refine goes_ Tryd.func9 (by kernel_rfl) rfl #[.agg #[.int .i64 x0, .int .i64 x1, .int .i64 x2, .int .i64 x3, .int .i64 x4], .agg #[.int .i64 y0, .int .i64 y1, .int .i64 y2, .int .i64 y3, .int .i64 y4]] (by rfl) rfl rfl (by simp only [List.map_toArray, List.map_cons, List.map_nil]; rfl) ?_
      with_reducible refine (E1.out _).mono ?_
      rintro e_ Y0 ⟨rfl, hb⟩
      refine ⟨_, rfl, ?_⟩
      have p1_ := p0_.below hb
      have q1_ := q0_.below hb
      have r1_ := r0_.below hb
      have b1_ := bk b0_ (hg ▸ b0_.size) hb
      clear hHeld hb p0_ q0_ r0_ b0_
      refine hK.out _ _ ⟨p1_.cell_0, p1_.cell_1, p1_.cell_2, p1_.cell_3, p1_.cell_4, q1_.cell_0, q1_.cell_1, q1_.cell_2, q1_.cell_3, q1_.cell_4, r1_.cell_0, r1_.cell_1, r1_.cell_2, r1_.cell_3, r1_.cell_4⟩ (fun hHeld => ?_)
      clear hK K
      refine norm_ (a' := ?_) ?_ ?_
      rotate_left
      · show Act.put _ (some 64) _ = _
        simp only [Act.put, List.setIfInBounds_toArray, List.set_cons_zero, List.set_cons_succ, i64_w, i32_w]
        rfl
      refine pure_ (i := 3) (N := some 65) (v := ?_) (a' := ?_) #[true, true, true, true, false, false, false, false, false, false, false, false, false, false, false, false, false, false, false, false, false, false, false, false, false, false, false, false, false, false] rfl rfl (by kernel_rfl) (fun _ _ _ h => h) (Or.inl ⟨by rfl, ?_⟩) ?_ ?_
      rotate_left
      · intro w'
        go_simp
        with_reducible rfl
      rotate_left
      · simp only [Act.put, List.setIfInBounds_toArray, List.set_cons_zero, List.set_cons_succ, i64_w, i32_w]
        rfl
      refine take_ (i := 4) (N := some 66) (v := ?_) (a' := ?_) #[true, true, true, true, true, false, false, false, false, false, false, false, false, false, false, false, false, false, false, false, false, false, false, false, false, false, false, false, false, false] rfl rfl (by kernel_rfl) (fun _ _ _ h => h) (Or.inl ⟨by rfl, ?_⟩) hHeld ?_ ?_
      rotate_left
      · rintro w' ⟨s0, s1, s2, s3, s4, s5, s6, s7, s8, s9, s10, s11, s12, s13, s14⟩
        go_simp
        with_reducible rfl
      rotate_left
      · simp only [Act.put, List.setIfInBounds_toArray, List.set_cons_zero, List.set_cons_succ, i64_w, i32_w]
        rfl
      refine take_ (i := 5) (N := some 67) (v := ?_) (a' := ?_) #[true, true, true, true, true, true, false, false, false, false, false, false, false, false, false, false, false, false, false, false, false, false, false, false, false, false, false, false, false, false] rfl rfl (by kernel_rfl) (fun _ _ _ h => h) (Or.inl ⟨by rfl, ?_⟩) hHeld ?_ ?_
      rotate_left
      · rintro w' ⟨s0, s1, s2, s3, s4, s5, s6, s7, s8, s9, s10, s11, s12, s13, s14⟩
        go_simp
        with_reducible rfl
      rotate_left
      · simp only [Act.put, List.setIfInBounds_toArray, List.set_cons_zero, List.set_cons_succ, i64_w, i32_w]
        rfl
      refine one_ (i := 6) (N := some 68) #[true, true, true, true, true, true, true, false, false, false, false, false, false, false, false, false, false, false, false, false, false, false, false, false, false, false, false, false, false, false] rfl rfl (by kernel_rfl) (by decide) (fun K hK => ?_)
      refine goes_ Tryd.func9 (by kernel_rfl) rfl #[.agg #[.int .i64 y0, .int .i64 y1, .int .i64 y2, .int .i64 y3, .int .i64 y4], .agg #[.int .i64 z0, .int .i64 z1, .int .i64 z2, .int .i64 z3, .int .i64 z4]] (by rfl) rfl rfl (by simp only [List.map_toArray, List.map_cons, List.map_nil]; rfl) ?_
      with_reducible refine (E2.out _).mono ?_
      rintro e_ Y1 ⟨rfl, hb⟩
      refine ⟨_, rfl, ?_⟩
      have p2_ := p1_.below hb
      have q2_ := q1_.below hb
      have r2_ := r1_.below hb
      have b2_ := bk b1_ (hg ▸ b1_.size) hb
      clear hHeld hb p1_ q1_ r1_ b1_
      refine hK.out _ _ ⟨p2_.cell_0, p2_.cell_1, p2_.cell_2, p2_.cell_3, p2_.cell_4, q2_.cell_0, q2_.cell_1, q2_.cell_2, q2_.cell_3, q2_.cell_4, r2_.cell_0, r2_.cell_1, r2_.cell_2, r2_.cell_3, r2_.cell_4⟩ (fun hHeld => ?_)
      clear hK K
      refine norm_ (a' := ?_) ?_ ?_
      rotate_left
      · show Act.put _ (some 68) _ = _
        simp only [Act.put, List.setIfInBounds_toArray, List.set_cons_zero, List.set_cons_succ, i64_w, i32_w]
        rfl
      refine pure_ (i := 7) (N := some 69) (v := ?_) (a' := ?_) #[true, true, true, true, true, true, true, true, false, false, false, false, false, false, false, false, false, false, false, false, false, false, false, false, false, false, false, false, false, false] rfl rfl (by kernel_rfl) (fun _ _ _ h => h) (Or.inl ⟨by rfl, ?_⟩) ?_ ?_
      rotate_left
      · intro w'
        go_simp
        with_reducible rfl
      rotate_left
      · simp only [Act.put, List.setIfInBounds_toArray, List.set_cons_zero, List.set_cons_succ, i64_w, i32_w]
        rfl
      refine pure_ (i := 8) (N := some 70) (v := ?_) (a' := ?_) #[true, true, true, true, true, true, true, true, true, false, false, false, false, false, false, false, false, false, false, false, false, false, false, false, false, false, false, false, false, false] rfl rfl (by kernel_rfl) (fun _ _ _ h => h) (Or.inl ⟨by rfl, ?_⟩) ?_ ?_
      rotate_left
      · intro w'
        go_simp
        with_reducible rfl
      rotate_left
      · simp only [Act.put, List.setIfInBounds_toArray, List.set_cons_zero, List.set_cons_succ, i64_w, i32_w]
        rfl
      refine pure_ (i := 9) (N := some 71) (v := undef) (a' := ?_) #[true, true, true, true, true, true, true, true, true, true, false, false, false, false, false, false, false, false, false, false, false, false, false, false, false, false, false, false, false, false] rfl rfl (by kernel_rfl) (fun _ _ _ h => h) (Or.inr ⟨by rfl, rfl⟩) ?_ ?_
      rotate_left
      · simp only [Act.put, List.setIfInBounds_toArray, List.set_cons_zero, List.set_cons_succ, i64_w, i32_w]
        rfl
      refine pure_ (i := 10) (N := some 72) (v := undef) (a' := ?_) #[true, true, true, true, true, true, true, true, true, true, true, false, false, false, false, false, false, false, false, false, false, false, false, false, false, false, false, false, false, false] rfl rfl (by kernel_rfl) (fun _ _ _ h => h) (Or.inr ⟨by rfl, rfl⟩) ?_ ?_
      rotate_left
      · simp only [Act.put, List.setIfInBounds_toArray, List.set_cons_zero, List.set_cons_succ, i64_w, i32_w]
        rfl
      refine pure_ (i := 11) (N := some 73) (v := undef) (a' := ?_) #[true, true, true, true, true, true, true, true, true, true, true, true, false, false, false, false, false, false, false, false, false, false, false, false, false, false, false, false, false, false] rfl rfl (by kernel_rfl) (fun _ _ _ h => h) (Or.inr ⟨by rfl, rfl⟩) ?_ ?_
      rotate_left
      · simp only [Act.put, List.setIfInBounds_toArray, List.set_cons_zero, List.set_cons_succ, i64_w, i32_w]
        rfl
      refine pure_ (i := 12) (N := some 74) (v := undef) (a' := ?_) #[true, true, true, true, true, true, true, true, true, true, true, true, true, false, false, false, false, false, false, false, false, false, false, false, false, false, false, false, false, false] rfl rfl (by kernel_rfl) (fun _ _ _ h => h) (Or.inr ⟨by rfl, rfl⟩) ?_ ?_
      rotate_left
      · simp only [Act.put, List.setIfInBounds_toArray, List.set_cons_zero, List.set_cons_succ, i64_w, i32_w]
        rfl
      refine pure_ (i := 13) (N := some 75) (v := ?_) (a' := ?_) #[true, true, true, true, true, true, true, true, true, true, true, true, true, true, false, false, false, false, false, false, false, false, false, false, false, false, false, false, false, false] rfl rfl (by kernel_rfl) (fun _ _ _ h => h) (Or.inl ⟨by rfl, ?_⟩) ?_ ?_
      rotate_left
      · intro w'
        go_simp
        with_reducible rfl
      rotate_left
      · simp only [Act.put, List.setIfInBounds_toArray, List.set_cons_zero, List.set_cons_succ, i64_w, i32_w]
        rfl
      refine pure_ (i := 14) (N := some 76) (v := ?_) (a' := ?_) #[true, true, true, true, true, true, true, true, true, true, true, true, true, true, true, false, false, false, false, false, false, false, false, false, false, false, false, false, false, false] rfl rfl (by kernel_rfl) (fun _ _ _ h => h) (Or.inl ⟨by rfl, ?_⟩) ?_ ?_
      rotate_left
      · intro w'
        go_simp
        with_reducible rfl
      rotate_left
      · simp only [Act.put, List.setIfInBounds_toArray, List.set_cons_zero, List.set_cons_succ, i64_w, i32_w]
        rfl
      refine take_ (i := 15) (N := some 77) (v := ?_) (a' := ?_) #[true, true, true, true, true, true, true, true, true, true, true, true, true, true, true, true, false, false, false, false, false, false, false, false, false, false, false, false, false, false] rfl rfl (by kernel_rfl) (fun _ _ _ h => h) (Or.inl ⟨by rfl, ?_⟩) hHeld ?_ ?_
      rotate_left
      · rintro w' ⟨s0, s1, s2, s3, s4, s5, s6, s7, s8, s9, s10, s11, s12, s13, s14⟩
        go_simp
        with_reducible rfl
      rotate_left
      · simp only [Act.put, List.setIfInBounds_toArray, List.set_cons_zero, List.set_cons_succ, i64_w, i32_w]
        rfl
      refine take_ (i := 16) (N := some 78) (v := ?_) (a' := ?_) #[true, true, true, true, true, true, true, true, true, true, true, true, true, true, true, true, true, false, false, false, false, false, false, false, false, false, false, false, false, false] rfl rfl (by kernel_rfl) (fun _ _ _ h => h) (Or.inl ⟨by rfl, ?_⟩) hHeld ?_ ?_
      rotate_left
      · rintro w' ⟨s0, s1, s2, s3, s4, s5, s6, s7, s8, s9, s10, s11, s12, s13, s14⟩
        go_simp
        with_reducible rfl
      rotate_left
      · simp only [Act.put, List.setIfInBounds_toArray, List.set_cons_zero, List.set_cons_succ, i64_w, i32_w]
        rfl
      refine one_ (i := 17) (N := some 79) #[true, true, true, true, true, true, true, true, true, true, true, true, true, true, true, true, true, true, false, false, false, false, false, false, false, false, false, false, false, false] rfl rfl (by kernel_rfl) (by decide) (fun K hK => ?_)
      refine goes_ Tryd.func9 (by kernel_rfl) rfl #[.agg #[.int .i64 x0, .int .i64 x1, .int .i64 x2, .int .i64 x3, .int .i64 x4], .agg #[.int .i64 x0, .int .i64 x1, .int .i64 x2, .int .i64 x3, .int .i64 x4]] (by rfl) rfl rfl (by simp only [List.map_toArray, List.map_cons, List.map_nil]; rfl) ?_
      with_reducible refine (E4.out _).mono ?_
      rintro e_ Y2 ⟨rfl, hb⟩
      refine ⟨_, rfl, ?_⟩
      have p3_ := p2_.below hb
      have q3_ := q2_.below hb
      have r3_ := r2_.below hb
      have b3_ := bk b2_ (hg ▸ b2_.size) hb
      clear hHeld hb p2_ q2_ r2_ b2_
      refine hK.out _ _ ⟨p3_.cell_0, p3_.cell_1, p3_.cell_2, p3_.cell_3, p3_.cell_4, q3_.cell_0, q3_.cell_1, q3_.cell_2, q3_.cell_3, q3_.cell_4, r3_.cell_0, r3_.cell_1, r3_.cell_2, r3_.cell_3, r3_.cell_4⟩ (fun hHeld => ?_)
      clear hK K
      refine norm_ (a' := ?_) ?_ ?_
      rotate_left
      · show Act.put _ (some 79) _ = _
        simp only [Act.put, List.setIfInBounds_toArray, List.set_cons_zero, List.set_cons_succ, i64_w, i32_w]
        rfl
      refine pure_ (i := 18) (N := some 80) (v := ?_) (a' := ?_) #[true, true, true, true, true, true, true, true, true, true, true, true, true, true, true, true, true, true, true, false, false, false, false, false, false, false, false, false, false, false] rfl rfl (by kernel_rfl) (fun _ _ _ h => h) (Or.inl ⟨by rfl, ?_⟩) ?_ ?_
      rotate_left
      · intro w'
        go_simp
        with_reducible rfl
      rotate_left
      · simp only [Act.put, List.setIfInBounds_toArray, List.set_cons_zero, List.set_cons_succ, i64_w, i32_w]
        rfl
      refine pure_ (i := 19) (N := some 81) (v := ?_) (a' := ?_) #[true, true, true, true, true, true, true, true, true, true, true, true, true, true, true, true, true, true, true, true, false, false, false, false, false, false, false, false, false, false] rfl rfl (by kernel_rfl) (fun _ _ _ h => h) (Or.inl ⟨by rfl, ?_⟩) ?_ ?_
      rotate_left
      · intro w'
        go_simp
        with_reducible rfl
      rotate_left
      · simp only [Act.put, List.setIfInBounds_toArray, List.set_cons_zero, List.set_cons_succ, i64_w, i32_w]
        rfl
      refine pure_ (i := 20) (N := some 82) (v := ?_) (a' := ?_) #[true, true, true, true, true, true, true, true, true, true, true, true, true, true, true, true, true, true, true, true, true, false, false, false, false, false, false, false, false, false] rfl rfl (by kernel_rfl) (fun _ _ _ h => h) (Or.inl ⟨by rfl, ?_⟩) ?_ ?_
      rotate_left
      · intro w'
        go_simp
        with_reducible rfl
      rotate_left
      · simp only [Act.put, List.setIfInBounds_toArray, List.set_cons_zero, List.set_cons_succ, i64_w, i32_w]
        rfl
      refine take_ (i := 21) (N := some 83) (v := ?_) (a' := ?_) #[true, true, true, true, true, true, true, true, true, true, true, true, true, true, true, true, true, true, true, true, true, true, false, false, false, false, false, false, false, false] rfl rfl (by kernel_rfl) (fun _ _ _ h => h) (Or.inl ⟨by rfl, ?_⟩) hHeld ?_ ?_
      rotate_left
      · rintro w' ⟨s0, s1, s2, s3, s4, s5, s6, s7, s8, s9, s10, s11, s12, s13, s14⟩
        go_simp
        with_reducible rfl
      rotate_left
      · simp only [Act.put, List.setIfInBounds_toArray, List.set_cons_zero, List.set_cons_succ, i64_w, i32_w]
        rfl
      refine take_ (i := 22) (N := some 84) (v := ?_) (a' := ?_) #[true, true, true, true, true, true, true, true, true, true, true, true, true, true, true, true, true, true, true, true, true, true, true, false, false, false, false, false, false, false] rfl rfl (by kernel_rfl) (fun _ _ _ h => h) (Or.inl ⟨by rfl, ?_⟩) hHeld ?_ ?_
      rotate_left
      · rintro w' ⟨s0, s1, s2, s3, s4, s5, s6, s7, s8, s9, s10, s11, s12, s13, s14⟩
        go_simp
        with_reducible rfl
      rotate_left
      · simp only [Act.put, List.setIfInBounds_toArray, List.set_cons_zero, List.set_cons_succ, i64_w, i32_w]
        rfl
      refine take_ (i := 24) (N := some 86) (v := ?_) (a' := ?_) #[true, true, true, true, true, true, true, true, true, true, true, true, true, true, true, true, true, true, true, true, true, true, true, false, true, false, false, false, false, false] rfl rfl (by kernel_rfl) (fun _ _ _ h => h) (Or.inl ⟨by rfl, ?_⟩) hHeld ?_ ?_
      rotate_left
      · rintro w' ⟨s0, s1, s2, s3, s4, s5, s6, s7, s8, s9, s10, s11, s12, s13, s14⟩
        go_simp
        with_reducible rfl
      rotate_left
      · simp only [Act.put, List.setIfInBounds_toArray, List.set_cons_zero, List.set_cons_succ, i64_w, i32_w]
        rfl
      refine take_ (i := 25) (N := some 87) (v := ?_) (a' := ?_) #[true, true, true, true, true, true, true, true, true, true, true, true, true, true, true, true, true, true, true, true, true, true, true, false, true, true, false, false, false, false] rfl rfl (by kernel_rfl) (fun _ _ _ h => h) (Or.inl ⟨by rfl, ?_⟩) hHeld ?_ ?_
      rotate_left
      · rintro w' ⟨s0, s1, s2, s3, s4, s5, s6, s7, s8, s9, s10, s11, s12, s13, s14⟩
        go_simp
        with_reducible rfl
      rotate_left
      · simp only [Act.put, List.setIfInBounds_toArray, List.set_cons_zero, List.set_cons_succ, i64_w, i32_w]
        rfl
      refine one_ (i := 23) (N := some 85) #[true, true, true, true, true, true, true, true, true, true, true, true, true, true, true, true, true, true, true, true, true, true, true, true, true, true, false, false, false, false] rfl rfl (by kernel_rfl) (by decide) (fun K hK => ?_)
      refine goes_ Tryd.func9 (by kernel_rfl) rfl #[.agg #[.int .i64 x0, .int .i64 x1, .int .i64 x2, .int .i64 x3, .int .i64 x4], .agg #[.int .i64 y0, .int .i64 y1, .int .i64 y2, .int .i64 y3, .int .i64 y4]] (by rfl) rfl rfl (by simp only [List.map_toArray, List.map_cons, List.map_nil]; rfl) ?_
      with_reducible refine (E1.out _).mono ?_
      rintro e_ Y3 ⟨rfl, hb⟩
      refine ⟨_, rfl, ?_⟩
      have p4_ := p3_.below hb
      have q4_ := q3_.below hb
      have r4_ := r3_.below hb
      have b4_ := bk b3_ (hg ▸ b3_.size) hb
      clear hHeld hb p3_ q3_ r3_ b3_
      refine hK.out _ _ ⟨p4_.cell_0, p4_.cell_1, p4_.cell_2, p4_.cell_3, p4_.cell_4, q4_.cell_0, q4_.cell_1, q4_.cell_2, q4_.cell_3, q4_.cell_4, r4_.cell_0, r4_.cell_1, r4_.cell_2, r4_.cell_3, r4_.cell_4⟩ (fun hHeld => ?_)
      clear hK K
      refine norm_ (a' := ?_) ?_ ?_
      rotate_left
      · show Act.put _ (some 85) _ = _
        simp only [Act.put, List.setIfInBounds_toArray, List.set_cons_zero, List.set_cons_succ, i64_w, i32_w]
        rfl
      refine one_ (i := 26) (N := some 88) #[true, true, true, true, true, true, true, true, true, true, true, true, true, true, true, true, true, true, true, true, true, true, true, true, true, true, true, false, false, false] rfl rfl (by kernel_rfl) (by decide) (fun K hK => ?_)
      refine goes_ Tryd.func10 (by kernel_rfl) rfl #[.agg #[.int .i64 x0, .int .i64 x1, .int .i64 x2, .int .i64 x3, .int .i64 x4], .agg #[.int .i64 y0, .int .i64 y1, .int .i64 y2, .int .i64 y3, .int .i64 y4]] (by rfl) rfl rfl (by simp only [List.map_toArray, List.map_cons, List.map_nil]; rfl) ?_
      with_reducible refine (E5.out _).mono ?_
      rintro e_ Y4 ⟨rfl, hb⟩
      refine ⟨_, rfl, ?_⟩
      have p5_ := p4_.below hb
      have q5_ := q4_.below hb
      have r5_ := r4_.below hb
      have b5_ := bk b4_ (hg ▸ b4_.size) hb
      clear hHeld hb p4_ q4_ r4_ b4_
      refine hK.out _ _ ⟨p5_.cell_0, p5_.cell_1, p5_.cell_2, p5_.cell_3, p5_.cell_4, q5_.cell_0, q5_.cell_1, q5_.cell_2, q5_.cell_3, q5_.cell_4, r5_.cell_0, r5_.cell_1, r5_.cell_2, r5_.cell_3, r5_.cell_4⟩ (fun hHeld => ?_)
      clear hK K
      refine norm_ (a' := ?_) ?_ ?_
      rotate_left
      · show Act.put _ (some 88) _ = _
        simp only [Act.put, List.setIfInBounds_toArray, List.set_cons_zero, List.set_cons_succ, i64_w, i32_w]
        rfl
      refine pure_ (i := 27) (N := some 89) (v := ?_) (a' := ?_) #[true, true, true, true, true, true, true, true, true, true, true, true, true, true, true, true, true, true, true, true, true, true, true, true, true, true, true, true, false, false] rfl rfl (by kernel_rfl) (fun _ _ _ h => h) (Or.inl ⟨by rfl, ?_⟩) ?_ ?_
      rotate_left
      · intro w'
        go_simp
        with_reducible rfl
      rotate_left
      · simp only [Act.put, List.setIfInBounds_toArray, List.set_cons_zero, List.set_cons_succ, i64_w, i32_w]
        rfl
      refine pure_ (i := 28) (N := some 90) (v := ?_) (a' := ?_) #[true, true, true, true, true, true, true, true, true, true, true, true, true, true, true, true, true, true, true, true, true, true, true, true, true, true, true, true, true, false] rfl rfl (by kernel_rfl) (fun _ _ _ h => h) (Or.inl ⟨by rfl, ?_⟩) ?_ ?_
      rotate_left
      · intro w'
        go_simp
        with_reducible rfl
      rotate_left
      · simp only [Act.put, List.setIfInBounds_toArray, List.set_cons_zero, List.set_cons_succ, i64_w, i32_w]
        rfl
      refine pure_ (i := 29) (N := some 91) (v := ?_) (a' := ?_) #[true, true, true, true, true, true, true, true, true, true, true, true, true, true, true, true, true, true, true, true, true, true, true, true, true, true, true, true, true, true] rfl rfl (by kernel_rfl) (fun _ _ _ h => h) (Or.inl ⟨by rfl, ?_⟩) ?_ ?_
      rotate_left
      · intro w'
        go_simp
        with_reducible rfl
      rotate_left
      · simp only [Act.put, List.setIfInBounds_toArray, List.set_cons_zero, List.set_cons_succ, i64_w, i32_w]
        rfl
      refine done_ (by kernel_rfl) ?_
      have p_ := p5_
      have q_ := q5_
      have bb_ := b5_
      clear hHeld p5_ q5_ r5_ b5_ E2 E4 E5
      have hde : De = 0 := by simpa using hp4
      have hz := hp7 hde
      rw [hz] at C9
      dsimp only at C9
      have E9 := Aside0.mk C9
      clear C9 hz hde hp7
    rotate_left
    focus
      clear C3 hp1
      go_wp2_with fail
      refine start_ (n := 30) (S := fun w' => w'.cell? ⟨p, 0, none⟩ = some (.int .i64 x0) ∧ w'.cell? ⟨p, 1, none⟩ = some (.int .i64 x1) ∧ w'.cell? ⟨p, 2, none⟩ = some (.int .i64 x2) ∧ w'.cell? ⟨p, 3, none⟩ = some (.int .i64 x3) ∧ w'.cell? ⟨p, 4, none⟩ = some (.int .i64 x4) ∧ w'.cell? ⟨q, 0, none⟩ = some (.int .i64 y0) ∧ w'.cell? ⟨q, 1, none⟩ = some (.int .i64 y1) ∧ w'.cell? ⟨q, 2, none⟩ = some (.int .i64 y2) ∧ w'.cell? ⟨q, 3, none⟩ = some (.int .i64 y3) ∧ w'.cell? ⟨q, 4, none⟩ = some (.int .i64 y4) ∧ w'.cell? ⟨r, 0, none⟩ = some (.int .i64 z0) ∧ w'.cell? ⟨r, 1, none⟩ = some (.int .i64 z1) ∧ w'.cell? ⟨r, 2, none⟩ = some (.int .i64 z2) ∧ w'.cell? ⟨r, 3, none⟩ = some (.int .i64 z3) ∧ w'.cell? ⟨r, 4, none⟩ = some (.int .i64 z4)) (ds := []) #[false, false, false, false, false, false, false, false, false, false, false, false, false, false, false, false, false, false, false, false, false, false, false, false, false, false, false, false, false, false] (by kernel_rfl) rfl rfl ⟨p0_.cell_0, p0_.cell_1, p0_.cell_2, p0_.cell_3, p0_.cell_4, q0_.cell_0, q0_.cell_1, q0_.cell_2, q0_.cell_3, q0_.cell_4, r0_.cell_0, r0_.cell_1, r0_.cell_2, r0_.cell_3, r0_.cell_4⟩ (fun hHeld => ?_)
      refine take_ (i := 0) (N := some 62) (v := ?_) (a' := ?_) #[true, false, false, false, false, false, false, false, false, false, false, false, false, false, false, false, false, false, false, false, false, false, false, false, false, false, false, false, false, false] rfl rfl (by kernel_rfl) (fun _ _ _ h => h) (Or.inl ⟨by rfl, ?_⟩) hHeld ?_ ?_
      rotate_left
      · rintro w' ⟨s0, s1, s2, s3, s4, s5, s6, s7, s8, s9, s10, s11, s12, s13, s14⟩
        go_simp
        with_reducible rfl
      rotate_left
      · simp only [Act.put, List.setIfInBounds_toArray, List.set_cons_zero, List.set_cons_succ, i64_w, i32_w]
        rfl
      refine take_ (i := 1) (N := some 63) (v := ?_) (a' := ?_) #[true, true, false, false, false, false, false, false, false, false, false, false, false, false, false, false, false, false, false, false, false, false, false, false, false, false, false, false, false, false] rfl rfl (by kernel_rfl) (fun _ _ _ h => h) (Or.inl ⟨by rfl, ?_⟩) hHeld ?_ ?_
      rotate_left
      · rintro w' ⟨s0, s1, s2, s3, s4, s5, s6, s7, s8, s9, s10, s11, s12, s13, s14⟩
        go_simp
        with_reducible rfl
      rotate_left
      · simp only [Act.put, List.setIfInBounds_toArray, List.set_cons_zero, List.set_cons_succ, i64_w, i32_w]
        rfl
      refine one_ (i := 2) (N := some 64) #[true, true, true, false, false, false, false, false, false, false, false, false, false, false, false, false, false, false, false, false, false, false, false, false, false, false, false, false, false, false] rfl rfl (by kernel_rfl) (by decide) (fun K hK => ?_)
      refine goes_ Tryd.func9 (by kernel_rfl) rfl #[.agg #[.int .i64 x0, .int .i64 x1, .int .i64 x2, .int .i64 x3, .int .i64 x4], .agg #[.int .i64 y0, .int .i64 y1, .int .i64 y2, .int .i64 y3, .int .i64 y4]] (by rfl) rfl rfl (by simp only [List.map_toArray, List.map_cons, List.map_nil]; rfl) ?_
      with_reducible refine (E1.out _).mono ?_
      rintro e_ Y0 ⟨rfl, hb⟩
      refine ⟨_, rfl, ?_⟩
      have p1_ := p0_.below hb
      have q1_ := q0_.below hb
      have r1_ := r0_.below hb
      have b1_ := bk b0_ (hg ▸ b0_.size) hb
      clear hHeld hb p0_ q0_ r0_ b0_
      refine hK.out _ _ ⟨p1_.cell_0, p1_.cell_1, p1_.cell_2, p1_.cell_3, p1_.cell_4, q1_.cell_0, q1_.cell_1, q1_.cell_2, q1_.cell_3, q1_.cell_4, r1_.cell_0, r1_.cell_1, r1_.cell_2, r1_.cell_3, r1_.cell_4⟩ (fun hHeld => ?_)
      clear hK K
      refine norm_ (a' := ?_) ?_ ?_
      rotate_left
      · show Act.put _ (some 64) _ = _
        simp only [Act.put, List.setIfInBounds_toArray, List.set_cons_zero, List.set_cons_succ, i64_w, i32_w]
        rfl
      refine pure_ (i := 3) (N := some 65) (v := ?_) (a' := ?_) #[true, true, true, true, false, false, false, false, false, false, false, false, false, false, false, false, false, false, false, false, false, false, false, false, false, false, false, false, false, false] rfl rfl (by kernel_rfl) (fun _ _ _ h => h) (Or.inl ⟨by rfl, ?_⟩) ?_ ?_
      rotate_left
      · intro w'
        go_simp
        with_reducible rfl
      rotate_left
      · simp only [Act.put, List.setIfInBounds_toArray, List.set_cons_zero, List.set_cons_succ, i64_w, i32_w]
        rfl
      refine pure_ (i := 4) (N := some 66) (v := undef) (a' := ?_) #[true, true, true, true, true, false, false, false, false, false, false, false, false, false, false, false, false, false, false, false, false, false, false, false, false, false, false, false, false, false] rfl rfl (by kernel_rfl) (fun _ _ _ h => h) (Or.inr ⟨by rfl, rfl⟩) ?_ ?_
      rotate_left
      · simp only [Act.put, List.setIfInBounds_toArray, List.set_cons_zero, List.set_cons_succ, i64_w, i32_w]
        rfl
      refine pure_ (i := 5) (N := some 67) (v := undef) (a' := ?_) #[true, true, true, true, true, true, false, false, false, false, false, false, false, false, false, false, false, false, false, false, false, false, false, false, false, false, false, false, false, false] rfl rfl (by kernel_rfl) (fun _ _ _ h => h) (Or.inr ⟨by rfl, rfl⟩) ?_ ?_
      rotate_left
      · simp only [Act.put, List.setIfInBounds_toArray, List.set_cons_zero, List.set_cons_succ, i64_w, i32_w]
        rfl
      refine pure_ (i := 6) (N := some 68) (v := undef) (a' := ?_) #[true, true, true, true, true, true, true, false, false, false, false, false, false, false, false, false, false, false, false, false, false, false, false, false, false, false, false, false, false, false] rfl rfl (by kernel_rfl) (fun _ _ _ h => h) (Or.inr ⟨by rfl, rfl⟩) ?_ ?_
      rotate_left
      · simp only [Act.put, List.setIfInBounds_toArray, List.set_cons_zero, List.set_cons_succ, i64_w, i32_w]
        rfl
      refine pure_ (i := 7) (N := some 69) (v := ?_) (a' := ?_) #[true, true, true, true, true, true, true, true, false, false, false, false, false, false, false, false, false, false, false, false, false, false, false, false, false, false, false, false, false, false] rfl rfl (by kernel_rfl) (fun _ _ _ h => h) (Or.inl ⟨by rfl, ?_⟩) ?_ ?_
      rotate_left
      · intro w'
        go_simp
        with_reducible rfl
      rotate_left
      · simp only [Act.put, List.setIfInBounds_toArray, List.set_cons_zero, List.set_cons_succ, i64_w, i32_w]
        rfl
      refine pure_ (i := 8) (N := some 70) (v := ?_) (a' := ?_) #[true, true, true, true, true, true, true, true, true, false, false, false, false, false, false, false, false, false, false, false, false, false, false, false, false, false, false, false, false, false] rfl rfl (by kernel_rfl) (fun _ _ _ h => h) (Or.inl ⟨by rfl, ?_⟩) ?_ ?_
      rotate_left
      · intro w'
        go_simp
        with_reducible rfl
      rotate_left
      · simp only [Act.put, List.setIfInBounds_toArray, List.set_cons_zero, List.set_cons_succ, i64_w, i32_w]
        rfl
      refine pure_ (i := 9) (N := some 71) (v := undef) (a' := ?_) #[true, true, true, true, true, true, true, true, true, true, false, false, false, false, false, false, false, false, false, false, false, false, false, false, false, false, false, false, false, false] rfl rfl (by kernel_rfl) (fun _ _ _ h => h) (Or.inr ⟨by rfl, rfl⟩) ?_ ?_
      rotate_left
      · simp only [Act.put, List.setIfInBounds_toArray, List.set_cons_zero, List.set_cons_succ, i64_w, i32_w]
        rfl
      refine pure_ (i := 10) (N := some 72) (v := undef) (a' := ?_) #[true, true, true, true, true, true, true, true, true, true, true, false, false, false, false, false, false, false, false, false, false, false, false, false, false, false, false, false, false, false] rfl rfl (by kernel_rfl) (fun _ _ _ h => h) (Or.inr ⟨by rfl, rfl⟩) ?_ ?_
      rotate_left
      · simp only [Act.put, List.setIfInBounds_toArray, List.set_cons_zero, List.set_cons_succ, i64_w, i32_w]
        rfl
      refine pure_ (i := 11) (N := some 73) (v := undef) (a' := ?_) #[true, true, true, true, true, true, true, true, true, true, true, true, false, false, false, false, false, false, false, false, false, false, false, false, false, false, false, false, false, false] rfl rfl (by kernel_rfl) (fun _ _ _ h => h) (Or.inr ⟨by rfl, rfl⟩) ?_ ?_
      rotate_left
      · simp only [Act.put, List.setIfInBounds_toArray, List.set_cons_zero, List.set_cons_succ, i64_w, i32_w]
        rfl
      refine pure_ (i := 12) (N := some 74) (v := undef) (a' := ?_) #[true, true, true, true, true, true, true, true, true, true, true, true, true, false, false, false, false, false, false, false, false, false, false, false, false, false, false, false, false, false] rfl rfl (by kernel_rfl) (fun _ _ _ h => h) (Or.inr ⟨by rfl, rfl⟩) ?_ ?_
      rotate_left
      · simp only [Act.put, List.setIfInBounds_toArray, List.set_cons_zero, List.set_cons_succ, i64_w, i32_w]
        rfl
      refine pure_ (i := 13) (N := some 75) (v := ?_) (a' := ?_) #[true, true, true, true, true, true, true, true, true, true, true, true, true, true, false, false, false, false, false, false, false, false, false, false, false, false, false, false, false, false] rfl rfl (by kernel_rfl) (fun _ _ _ h => h) (Or.inl ⟨by rfl, ?_⟩) ?_ ?_
      rotate_left
      · intro w'
        go_simp
        with_reducible rfl
      rotate_left
      · simp only [Act.put, List.setIfInBounds_toArray, List.set_cons_zero, List.set_cons_succ, i64_w, i32_w]
        rfl
      refine pure_ (i := 14) (N := some 76) (v := ?_) (a' := ?_) #[true, true, true, true, true, true, true, true, true, true, true, true, true, true, true, false, false, false, false, false, false, false, false, false, false, false, false, false, false, false] rfl rfl (by kernel_rfl) (fun _ _ _ h => h) (Or.inl ⟨by rfl, ?_⟩) ?_ ?_
      rotate_left
      · intro w'
        go_simp
        with_reducible rfl
      rotate_left
      · simp only [Act.put, List.setIfInBounds_toArray, List.set_cons_zero, List.set_cons_succ, i64_w, i32_w]
        rfl
      refine take_ (i := 15) (N := some 77) (v := ?_) (a' := ?_) #[true, true, true, true, true, true, true, true, true, true, true, true, true, true, true, true, false, false, false, false, false, false, false, false, false, false, false, false, false, false] rfl rfl (by kernel_rfl) (fun _ _ _ h => h) (Or.inl ⟨by rfl, ?_⟩) hHeld ?_ ?_
      rotate_left
      · rintro w' ⟨s0, s1, s2, s3, s4, s5, s6, s7, s8, s9, s10, s11, s12, s13, s14⟩
        go_simp
        with_reducible rfl
      rotate_left
      · simp only [Act.put, List.setIfInBounds_toArray, List.set_cons_zero, List.set_cons_succ, i64_w, i32_w]
        rfl
      refine take_ (i := 16) (N := some 78) (v := ?_) (a' := ?_) #[true, true, true, true, true, true, true, true, true, true, true, true, true, true, true, true, true, false, false, false, false, false, false, false, false, false, false, false, false, false] rfl rfl (by kernel_rfl) (fun _ _ _ h => h) (Or.inl ⟨by rfl, ?_⟩) hHeld ?_ ?_
      rotate_left
      · rintro w' ⟨s0, s1, s2, s3, s4, s5, s6, s7, s8, s9, s10, s11, s12, s13, s14⟩
        go_simp
        with_reducible rfl
      rotate_left
      · simp only [Act.put, List.setIfInBounds_toArray, List.set_cons_zero, List.set_cons_succ, i64_w, i32_w]
        rfl
      refine one_ (i := 17) (N := some 79) #[true, true, true, true, true, true, true, true, true, true, true, true, true, true, true, true, true, true, false, false, false, false, false, false, false, false, false, false, false, false] rfl rfl (by kernel_rfl) (by decide) (fun K hK => ?_)
      refine goes_ Tryd.func9 (by kernel_rfl) rfl #[.agg #[.int .i64 x0, .int .i64 x1, .int .i64 x2, .int .i64 x3, .int .i64 x4], .agg #[.int .i64 x0, .int .i64 x1, .int .i64 x2, .int .i64 x3, .int .i64 x4]] (by rfl) rfl rfl (by simp only [List.map_toArray, List.map_cons, List.map_nil]; rfl) ?_
      with_reducible refine (E4.out _).mono ?_
      rintro e_ Y1 ⟨rfl, hb⟩
      refine ⟨_, rfl, ?_⟩
      have p2_ := p1_.below hb
      have q2_ := q1_.below hb
      have r2_ := r1_.below hb
      have b2_ := bk b1_ (hg ▸ b1_.size) hb
      clear hHeld hb p1_ q1_ r1_ b1_
      refine hK.out _ _ ⟨p2_.cell_0, p2_.cell_1, p2_.cell_2, p2_.cell_3, p2_.cell_4, q2_.cell_0, q2_.cell_1, q2_.cell_2, q2_.cell_3, q2_.cell_4, r2_.cell_0, r2_.cell_1, r2_.cell_2, r2_.cell_3, r2_.cell_4⟩ (fun hHeld => ?_)
      clear hK K
      refine norm_ (a' := ?_) ?_ ?_
      rotate_left
      · show Act.put _ (some 79) _ = _
        simp only [Act.put, List.setIfInBounds_toArray, List.set_cons_zero, List.set_cons_succ, i64_w, i32_w]
        rfl
      refine pure_ (i := 18) (N := some 80) (v := ?_) (a' := ?_) #[true, true, true, true, true, true, true, true, true, true, true, true, true, true, true, true, true, true, true, false, false, false, false, false, false, false, false, false, false, false] rfl rfl (by kernel_rfl) (fun _ _ _ h => h) (Or.inl ⟨by rfl, ?_⟩) ?_ ?_
      rotate_left
      · intro w'
        go_simp
        with_reducible rfl
      rotate_left
      · simp only [Act.put, List.setIfInBounds_toArray, List.set_cons_zero, List.set_cons_succ, i64_w, i32_w]
        rfl
      refine pure_ (i := 19) (N := some 81) (v := ?_) (a' := ?_) #[true, true, true, true, true, true, true, true, true, true, true, true, true, true, true, true, true, true, true, true, false, false, false, false, false, false, false, false, false, false] rfl rfl (by kernel_rfl) (fun _ _ _ h => h) (Or.inl ⟨by rfl, ?_⟩) ?_ ?_
      rotate_left
      · intro w'
        go_simp
        with_reducible rfl
      rotate_left
      · simp only [Act.put, List.setIfInBounds_toArray, List.set_cons_zero, List.set_cons_succ, i64_w, i32_w]
        rfl
      refine pure_ (i := 20) (N := some 82) (v := ?_) (a' := ?_) #[true, true, true, true, true, true, true, true, true, true, true, true, true, true, true, true, true, true, true, true, true, false, false, false, false, false, false, false, false, false] rfl rfl (by kernel_rfl) (fun _ _ _ h => h) (Or.inl ⟨by rfl, ?_⟩) ?_ ?_
      rotate_left
      · intro w'
        go_simp
        with_reducible rfl
      rotate_left
      · simp only [Act.put, List.setIfInBounds_toArray, List.set_cons_zero, List.set_cons_succ, i64_w, i32_w]
        rfl
      refine take_ (i := 21) (N := some 83) (v := ?_) (a' := ?_) #[true, true, true, true, true, true, true, true, true, true, true, true, true, true, true, true, true, true, true, true, true, true, false, false, false, false, false, false, false, false] rfl rfl (by kernel_rfl) (fun _ _ _ h => h) (Or.inl ⟨by rfl, ?_⟩) hHeld ?_ ?_
      rotate_left
      · rintro w' ⟨s0, s1, s2, s3, s4, s5, s6, s7, s8, s9, s10, s11, s12, s13, s14⟩
        go_simp
        with_reducible rfl
      rotate_left
      · simp only [Act.put, List.setIfInBounds_toArray, List.set_cons_zero, List.set_cons_succ, i64_w, i32_w]
        rfl
      refine take_ (i := 22) (N := some 84) (v := ?_) (a' := ?_) #[true, true, true, true, true, true, true, true, true, true, true, true, true, true, true, true, true, true, true, true, true, true, true, false, false, false, false, false, false, false] rfl rfl (by kernel_rfl) (fun _ _ _ h => h) (Or.inl ⟨by rfl, ?_⟩) hHeld ?_ ?_
      rotate_left
      · rintro w' ⟨s0, s1, s2, s3, s4, s5, s6, s7, s8, s9, s10, s11, s12, s13, s14⟩
        go_simp
        with_reducible rfl
      rotate_left
      · simp only [Act.put, List.setIfInBounds_toArray, List.set_cons_zero, List.set_cons_succ, i64_w, i32_w]
        rfl
      refine take_ (i := 24) (N := some 86) (v := ?_) (a' := ?_) #[true, true, true, true, true, true, true, true, true, true, true, true, true, true, true, true, true, true, true, true, true, true, true, false, true, false, false, false, false, false] rfl rfl (by kernel_rfl) (fun _ _ _ h => h) (Or.inl ⟨by rfl, ?_⟩) hHeld ?_ ?_
      rotate_left
      · rintro w' ⟨s0, s1, s2, s3, s4, s5, s6, s7, s8, s9, s10, s11, s12, s13, s14⟩
        go_simp
        with_reducible rfl
      rotate_left
      · simp only [Act.put, List.setIfInBounds_toArray, List.set_cons_zero, List.set_cons_succ, i64_w, i32_w]
        rfl
      refine take_ (i := 25) (N := some 87) (v := ?_) (a' := ?_) #[true, true, true, true, true, true, true, true, true, true, true, true, true, true, true, true, true, true, true, true, true, true, true, false, true, true, false, false, false, false] rfl rfl (by kernel_rfl) (fun _ _ _ h => h) (Or.inl ⟨by rfl, ?_⟩) hHeld ?_ ?_
      rotate_left
      · rintro w' ⟨s0, s1, s2, s3, s4, s5, s6, s7, s8, s9, s10, s11, s12, s13, s14⟩
        go_simp
        with_reducible rfl
      rotate_left
      · simp only [Act.put, List.setIfInBounds_toArray, List.set_cons_zero, List.set_cons_succ, i64_w, i32_w]
        rfl
      refine one_ (i := 23) (N := some 85) #[true, true, true, true, true, true, true, true, true, true, true, true, true, true, true, true, true, true, true, true, true, true, true, true, true, true, false, false, false, false] rfl rfl (by kernel_rfl) (by decide) (fun K hK => ?_)
      refine goes_ Tryd.func9 (by kernel_rfl) rfl #[.agg #[.int .i64 x0, .int .i64 x1, .int .i64 x2, .int .i64 x3, .int .i64 x4], .agg #[.int .i64 y0, .int .i64 y1, .int .i64 y2, .int .i64 y3, .int .i64 y4]] (by rfl) rfl rfl (by simp only [List.map_toArray, List.map_cons, List.map_nil]; rfl) ?_
      with_reducible refine (E1.out _).mono ?_
      rintro e_ Y2 ⟨rfl, hb⟩
      refine ⟨_, rfl, ?_⟩
      have p3_ := p2_.below hb
      have q3_ := q2_.below hb
      have r3_ := r2_.below hb
      have b3_ := bk b2_ (hg ▸ b2_.size) hb
      clear hHeld hb p2_ q2_ r2_ b2_
      refine hK.out _ _ ⟨p3_.cell_0, p3_.cell_1, p3_.cell_2, p3_.cell_3, p3_.cell_4, q3_.cell_0, q3_.cell_1, q3_.cell_2, q3_.cell_3, q3_.cell_4, r3_.cell_0, r3_.cell_1, r3_.cell_2, r3_.cell_3, r3_.cell_4⟩ (fun hHeld => ?_)
      clear hK K
      refine norm_ (a' := ?_) ?_ ?_
      rotate_left
      · show Act.put _ (some 85) _ = _
        simp only [Act.put, List.setIfInBounds_toArray, List.set_cons_zero, List.set_cons_succ, i64_w, i32_w]
        rfl
      refine one_ (i := 26) (N := some 88) #[true, true, true, true, true, true, true, true, true, true, true, true, true, true, true, true, true, true, true, true, true, true, true, true, true, true, true, false, false, false] rfl rfl (by kernel_rfl) (by decide) (fun K hK => ?_)
      refine goes_ Tryd.func10 (by kernel_rfl) rfl #[.agg #[.int .i64 x0, .int .i64 x1, .int .i64 x2, .int .i64 x3, .int .i64 x4], .agg #[.int .i64 y0, .int .i64 y1, .int .i64 y2, .int .i64 y3, .int .i64 y4]] (by rfl) rfl rfl (by simp only [List.map_toArray, List.map_cons, List.map_nil]; rfl) ?_
      with_reducible refine (E5.out _).mono ?_
      rintro e_ Y3 ⟨rfl, hb⟩
      refine ⟨_, rfl, ?_⟩
      have p4_ := p3_.below hb
      have q4_ := q3_.below hb
      have r4_ := r3_.below hb
      have b4_ := bk b3_ (hg ▸ b3_.size) hb
      clear hHeld hb p3_ q3_ r3_ b3_
      refine hK.out _ _ ⟨p4_.cell_0, p4_.cell_1, p4_.cell_2, p4_.cell_3, p4_.cell_4, q4_.cell_0, q4_.cell_1, q4_.cell_2, q4_.cell_3, q4_.cell_4, r4_.cell_0, r4_.cell_1, r4_.cell_2, r4_.cell_3, r4_.cell_4⟩ (fun hHeld => ?_)
      clear hK K
      refine norm_ (a' := ?_) ?_ ?_
      rotate_left
      · show Act.put _ (some 88) _ = _
        simp only [Act.put, List.setIfInBounds_toArray, List.set_cons_zero, List.set_cons_succ, i64_w, i32_w]
        rfl
      refine pure_ (i := 27) (N := some 89) (v := ?_) (a' := ?_) #[true, true, true, true, true, true, true, true, true, true, true, true, true, true, true, true, true, true, true, true, true, true, true, true, true, true, true, true, false, false] rfl rfl (by kernel_rfl) (fun _ _ _ h => h) (Or.inl ⟨by rfl, ?_⟩) ?_ ?_
      rotate_left
      · intro w'
        go_simp
        with_reducible rfl
      rotate_left
      · simp only [Act.put, List.setIfInBounds_toArray, List.set_cons_zero, List.set_cons_succ, i64_w, i32_w]
        rfl
      refine pure_ (i := 28) (N := some 90) (v := ?_) (a' := ?_) #[true, true, true, true, true, true, true, true, true, true, true, true, true, true, true, true, true, true, true, true, true, true, true, true, true, true, true, true, true, false] rfl rfl (by kernel_rfl) (fun _ _ _ h => h) (Or.inl ⟨by rfl, ?_⟩) ?_ ?_
      rotate_left
      · intro w'
        go_simp
        with_reducible rfl
      rotate_left
      · simp only [Act.put, List.setIfInBounds_toArray, List.set_cons_zero, List.set_cons_succ, i64_w, i32_w]
        rfl
      refine pure_ (i := 29) (N := some 91) (v := ?_) (a' := ?_) #[true, true, true, true, true, true, true, true, true, true, true, true, true, true, true, true, true, true, true, true, true, true, true, true, true, true, true, true, true, true] rfl rfl (by kernel_rfl) (fun _ _ _ h => h) (Or.inl ⟨by rfl, ?_⟩) ?_ ?_
      rotate_left
      · intro w'
        go_simp
        with_reducible rfl
      rotate_left
      · simp only [Act.put, List.setIfInBounds_toArray, List.set_cons_zero, List.set_cons_succ, i64_w, i32_w]
        rfl
      refine done_ (by kernel_rfl) ?_
      have p_ := p4_
      have q_ := q4_
      have bb_ := b4_
      clear hHeld p4_ q4_ r4_ b4_ E2 E4 E5
      clear C9 hp7
    rotate_left
    all_goals (
      have kq_0_ := q_.cell_0
      have kq_1_ := q_.cell_1
      have kq_2_ := q_.cell_2
      have kq_3_ := q_.cell_3
      have kq_4_ := q_.cell_4
      have kp_0_ := p_.cell_0
      have kp_1_ := p_.cell_1
      have kp_2_ := p_.cell_2
      have kp_3_ := p_.cell_3
      have kp_4_ := p_.cell_4
      go_wp2_with fail
      clear kq_0_ kq_1_ kq_2_ kq_3_ kq_4_ kp_0_ kp_1_ kp_2_ kp_3_ kp_4_
      refine (E6.out _).mono ?_
      rintro _ V3 ⟨rfl, hb⟩
      replace p_ := p_.below hb
      replace q_ := q_.below hb
      replace bb_ := bk bb_ (hg ▸ bb_.size) hb
      clear hb
      have np_ := p_.lt
      have nq_ := q_.lt
      obtain ⟨h3, hh3⟩ : ∃ h, V3.heap.size = h := ⟨_, rfl⟩
      obtain ⟨W3, hW3⟩ : ∃ W, V3.alloc (.cells #[.int .i64 0, .int .i64 0, .int .i64 0, .int .i64 0, .int .i64 0] 23) = W := ⟨_, rfl⟩
      have z_ : At W3 h3 0 0 0 0 0 := by rw [← hW3, ← hh3]; exact At.new _ _ _ _ _ _
      replace p_ : At W3 p x0 x1 x2 x3 x4 := by rw [← hW3]; exact p_.alloc _
      replace q_ : At W3 q y0 y1 y2 y3 y4 := by rw [← hW3]; exact q_.alloc _
      replace bb_ : Below g w W3 := by rw [← hW3]; exact bb_.alloc (hg ▸ bb_.size) _
      replace p_ := p_.five_other (show p ≠ h3 by omega) (.int .i64 D0) (.int .i64 D1) (.int .i64 D2) (.int .i64 D3) (.int .i64 D4)
      replace q_ := q_.five_other (show q ≠ h3 by omega) (.int .i64 D0) (.int .i64 D1) (.int .i64 D2) (.int .i64 D3) (.int .i64 D4)
      have gh3 : g ≤ h3 := by omega
      have r3_ := z_.five D0 D1 D2 D3 D4
      replace bb_ := below_five bb_ gh3 (.int .i64 D0) (.int .i64 D1) (.int .i64 D2) (.int .i64 D3) (.int .i64 D4)
      have f0_ := z_.fz 0
      have k0_ := z_.cell_0
      have f1_ := z_.fz 1
      have k1_ := z_.cell_1
      have f2_ := z_.fz 2
      have k2_ := z_.cell_2
      have f3_ := z_.fz 3
      have k3_ := z_.cell_3
      have f4_ := z_.fz 4
      have k4_ := z_.cell_4
      clear z_ np_ nq_
      have kp_0_ := p_.cell_0
      have kp_1_ := p_.cell_1
      have kp_2_ := p_.cell_2
      have kp_3_ := p_.cell_3
      have kp_4_ := p_.cell_4
      have kq_0_ := q_.cell_0
      have kq_1_ := q_.cell_1
      have kq_2_ := q_.cell_2
      have kq_3_ := q_.cell_3
      have kq_4_ := q_.cell_4
      go_wp2_with fail
      clear kp_0_ kp_1_ kp_2_ kp_3_ kp_4_ kq_0_ kq_1_ kq_2_ kq_3_ kq_4_ f0_ k0_ f1_ k1_ f2_ k2_ f3_ k3_ f4_ k4_ hW3 hh3
      refine (E1.out _).mono ?_
      rintro _ V4 ⟨rfl, hb⟩
      replace p_ := p_.below hb
      replace q_ := q_.below hb
      replace r3_ := r3_.below hb
      replace bb_ := bk bb_ (hg ▸ bb_.size) hb
      clear hb
      have kp_0_ := p_.cell_0
      have kp_1_ := p_.cell_1
      have kp_2_ := p_.cell_2
      have kp_3_ := p_.cell_3
      have kp_4_ := p_.cell_4
      have kq_0_ := q_.cell_0
      have kq_1_ := q_.cell_1
      have kq_2_ := q_.cell_2
      have kq_3_ := q_.cell_3
      have kq_4_ := q_.cell_4
      go_wp2_with fail
      clear kp_0_ kp_1_ kp_2_ kp_3_ kp_4_ kq_0_ kq_1_ kq_2_ kq_3_ kq_4_
      refine (E7.out _ _ (by simp)).mono ?_
      rintro _ V5 ⟨rfl, hb⟩
      replace p_ := p_.below hb
      replace q_ := q_.below hb
      replace r3_ := r3_.below hb
      replace bb_ := bk bb_ (hg ▸ bb_.size) hb
      clear hb
      have np_ := p_.lt
      have nq_ := q_.lt
      have nr3_ := r3_.lt
      obtain ⟨h5, hh5⟩ : ∃ h, V5.heap.size = h := ⟨_, rfl⟩
      obtain ⟨W5, hW5⟩ : ∃ W, V5.alloc (.cells #[.int .i64 0, .int .i64 0, .int .i64 0, .int .i64 0, .int .i64 0] 23) = W := ⟨_, rfl⟩
      have z_ : At W5 h5 0 0 0 0 0 := by rw [← hW5, ← hh5]; exact At.new _ _ _ _ _ _
      replace p_ : At W5 p x0 x1 x2 x3 x4 := by rw [← hW5]; exact p_.alloc _
      replace q_ : At W5 q y0 y1 y2 y3 y4 := by rw [← hW5]; exact q_.alloc _
      replace r3_ : At W5 h3 D0 D1 D2 D3 D4 := by rw [← hW5]; exact r3_.alloc _
      replace bb_ : Below g w W5 := by rw [← hW5]; exact bb_.alloc (hg ▸ bb_.size) _
      replace p_ := p_.five_other (show p ≠ h5 by omega) (.int .i64 S0) (.int .i64 S1) (.int .i64 S2) (.int .i64 S3) (.int .i64 S4)
      replace q_ := q_.five_other (show q ≠ h5 by omega) (.int .i64 S0) (.int .i64 S1) (.int .i64 S2) (.int .i64 S3) (.int .i64 S4)
      replace r3_ := r3_.five_other (show h3 ≠ h5 by omega) (.int .i64 S0) (.int .i64 S1) (.int .i64 S2) (.int .i64 S3) (.int .i64 S4)
      have gh5 : g ≤ h5 := by omega
      have r5_ := z_.five S0 S1 S2 S3 S4
      replace bb_ := below_five bb_ gh5 (.int .i64 S0) (.int .i64 S1) (.int .i64 S2) (.int .i64 S3) (.int .i64 S4)
      have f0_ := z_.fz 0
      have k0_ := z_.cell_0
      have f1_ := z_.fz 1
      have k1_ := z_.cell_1
      have f2_ := z_.fz 2
      have k2_ := z_.cell_2
      have f3_ := z_.fz 3
      have k3_ := z_.cell_3
      have f4_ := z_.fz 4
      have k4_ := z_.cell_4
      clear z_ np_ nq_ nr3_
      have kr5_0_ := r5_.cell_0
      have kr5_1_ := r5_.cell_1
      have kr5_2_ := r5_.cell_2
      have kr5_3_ := r5_.cell_3
      have kr5_4_ := r5_.cell_4
      have kp_0_ := p_.cell_0
      have kp_1_ := p_.cell_1
      have kp_2_ := p_.cell_2
      have kp_3_ := p_.cell_3
      have kp_4_ := p_.cell_4
      go_wp2_with fail
      clear kr5_0_ kr5_1_ kr5_2_ kr5_3_ kr5_4_ kp_0_ kp_1_ kp_2_ kp_3_ kp_4_ f0_ k0_ f1_ k1_ f2_ k2_ f3_ k3_ f4_ k4_ hW5 hh5
      refine (E8.out _).mono ?_
      rintro _ V6 ⟨rfl, hb⟩
      replace p_ := p_.below hb
      replace q_ := q_.below hb
      replace r3_ := r3_.below hb
      replace bb_ := bk bb_ (hg ▸ bb_.size) hb
      clear hb
      have np_ := p_.lt
      have nq_ := q_.lt
      have nr3_ := r3_.lt
      obtain ⟨h6, hh6⟩ : ∃ h, V6.heap.size = h := ⟨_, rfl⟩
      obtain ⟨W6, hW6⟩ : ∃ W, V6.alloc (.cells #[.int .i64 0, .int .i64 0, .int .i64 0, .int .i64 0, .int .i64 0] 23) = W := ⟨_, rfl⟩
      have z_ : At W6 h6 0 0 0 0 0 := by rw [← hW6, ← hh6]; exact At.new _ _ _ _ _ _
      replace p_ : At W6 p x0 x1 x2 x3 x4 := by rw [← hW6]; exact p_.alloc _
      replace q_ : At W6 q y0 y1 y2 y3 y4 := by rw [← hW6]; exact q_.alloc _
      replace r3_ : At W6 h3 D0 D1 D2 D3 D4 := by rw [← hW6]; exact r3_.alloc _
      replace bb_ : Below g w W6 := by rw [← hW6]; exact bb_.alloc (hg ▸ bb_.size) _
      replace p_ := p_.five_other (show p ≠ h6 by omega) (.int .i64 y0) (.int .i64 y1) (.int .i64 y2) (.int .i64 y3) (.int .i64 y4)
      replace q_ := q_.five_other (show q ≠ h6 by omega) (.int .i64 y0) (.int .i64 y1) (.int .i64 y2) (.int .i64 y3) (.int .i64 y4)
      replace r3_ := r3_.five_other (show h3 ≠ h6 by omega) (.int .i64 y0) (.int .i64 y1) (.int .i64 y2) (.int .i64 y3) (.int .i64 y4)
      have gh6 : g ≤ h6 := by omega
      have r6_ := z_.five y0 y1 y2 y3 y4
      replace bb_ := below_five bb_ gh6 (.int .i64 y0) (.int .i64 y1) (.int .i64 y2) (.int .i64 y3) (.int .i64 y4)
      have f0_ := z_.fz 0
      have k0_ := z_.cell_0
      have f1_ := z_.fz 1
      have k1_ := z_.cell_1
      have f2_ := z_.fz 2
      have k2_ := z_.cell_2
      have f3_ := z_.fz 3
      have k3_ := z_.cell_3
      have f4_ := z_.fz 4
      have k4_ := z_.cell_4
      clear z_ np_ nq_ nr3_)
    iterate 2 (focus (
      have kr6_0_ := r6_.cell_0
      have kr6_1_ := r6_.cell_1
      have kr6_2_ := r6_.cell_2
      have kr6_3_ := r6_.cell_3
      have kr6_4_ := r6_.cell_4
      have kq_0_ := q_.cell_0
      have kq_1_ := q_.cell_1
      have kq_2_ := q_.cell_2
      have kq_3_ := q_.cell_3
      have kq_4_ := q_.cell_4
      have kr3_0_ := r3_.cell_0
      have kr3_1_ := r3_.cell_1
      have kr3_2_ := r3_.cell_2
      have kr3_3_ := r3_.cell_3
      have kr3_4_ := r3_.cell_4
      have kp_0_ := p_.cell_0
      have kp_1_ := p_.cell_1
      have kp_2_ := p_.cell_2
      have kp_3_ := p_.cell_3
      have kp_4_ := p_.cell_4
      go_wp2_with fail
      clear kr6_0_ kr6_1_ kr6_2_ kr6_3_ kr6_4_ kq_0_ kq_1_ kq_2_ kq_3_ kq_4_ kr3_0_ kr3_1_ kr3_2_ kr3_3_ kr3_4_ kp_0_ kp_1_ kp_2_ kp_3_ kp_4_ f0_ k0_ f1_ k1_ f2_ k2_ f3_ k3_ f4_ k4_ hW6 hh6
      refine (E9.out _ _ (by simp)).mono ?_
      rintro _ V7 ⟨rfl, hb⟩
      replace p_ := p_.below hb
      replace q_ := q_.below hb
      replace bb_ := bk bb_ (hg ▸ bb_.size) hb
      clear hb
      have np_ := p_.lt
      have nq_ := q_.lt
      obtain ⟨h7, hh7⟩ : ∃ h, V7.heap.size = h := ⟨_, rfl⟩
      obtain ⟨W7, hW7⟩ : ∃ W, V7.alloc (.cells #[.int .i64 0, .int .i64 0, .int .i64 0, .int .i64 0, .int .i64 0] 23) = W := ⟨_, rfl⟩
      have z_ : At W7 h7 0 0 0 0 0 := by rw [← hW7, ← hh7]; exact At.new _ _ _ _ _ _
      replace p_ : At W7 p x0 x1 x2 x3 x4 := by rw [← hW7]; exact p_.alloc _
      replace q_ : At W7 q y0 y1 y2 y3 y4 := by rw [← hW7]; exact q_.alloc _
      replace bb_ : Below g w W7 := by rw [← hW7]; exact bb_.alloc (hg ▸ bb_.size) _
      replace p_ := p_.five_other (show p ≠ h7 by omega) (.int .i64 y0) (.int .i64 y1) (.int .i64 y2) (.int .i64 y3) (.int .i64 y4)
      replace q_ := q_.five_other (show q ≠ h7 by omega) (.int .i64 y0) (.int .i64 y1) (.int .i64 y2) (.int .i64 y3) (.int .i64 y4)
      have gh7 : g ≤ h7 := by omega
      have r7_ := z_.five y0 y1 y2 y3 y4
      replace bb_ := below_five bb_ gh7 (.int .i64 y0) (.int .i64 y1) (.int .i64 y2) (.int .i64 y3) (.int .i64 y4)
      have f0_ := z_.fz 0
      have k0_ := z_.cell_0
      have f1_ := z_.fz 1
      have k1_ := z_.cell_1
      have f2_ := z_.fz 2
      have k2_ := z_.cell_2
      have f3_ := z_.fz 3
      have k3_ := z_.cell_3
      have f4_ := z_.fz 4
      have k4_ := z_.cell_4
      clear z_ np_ nq_
      have kp_0_ := p_.cell_0
      have kp_1_ := p_.cell_1
      have kp_2_ := p_.cell_2
      have kp_3_ := p_.cell_3
      have kp_4_ := p_.cell_4
      have kr7_0_ := r7_.cell_0
      have kr7_1_ := r7_.cell_1
      have kr7_2_ := r7_.cell_2
      have kr7_3_ := r7_.cell_3
      have kr7_4_ := r7_.cell_4
      have kq_0_ := q_.cell_0
      have kq_1_ := q_.cell_1
      have kq_2_ := q_.cell_2
      have kq_3_ := q_.cell_3
      have kq_4_ := q_.cell_4
      go_wp2_with fail
      clear kp_0_ kp_1_ kp_2_ kp_3_ kp_4_ kr7_0_ kr7_1_ kr7_2_ kr7_3_ kr7_4_ kq_0_ kq_1_ kq_2_ kq_3_ kq_4_ f0_ k0_ f1_ k1_ f2_ k2_ f3_ k3_ f4_ k4_ hW7 hh7
      refine (E10.out _).mono ?_
      rintro _ V8 ⟨rfl, hb⟩
      replace p_ := p_.below hb
      replace bb_ := bk bb_ (hg ▸ bb_.size) hb
      clear hb
      have np_ := p_.lt
      obtain ⟨h8, hh8⟩ : ∃ h, V8.heap.size = h := ⟨_, rfl⟩
      obtain ⟨W8, hW8⟩ : ∃ W, V8.alloc (.cells #[.int .i64 0, .int .i64 0, .int .i64 0, .int .i64 0, .int .i64 0] 23) = W := ⟨_, rfl⟩
      have z_ : At W8 h8 0 0 0 0 0 := by rw [← hW8, ← hh8]; exact At.new _ _ _ _ _ _
      replace p_ : At W8 p x0 x1 x2 x3 x4 := by rw [← hW8]; exact p_.alloc _
      replace bb_ : Below g w W8 := by rw [← hW8]; exact bb_.alloc (hg ▸ bb_.size) _
      replace p_ := p_.five_other (show p ≠ h8 by omega) (.int .i64 T0) (.int .i64 T1) (.int .i64 T2) (.int .i64 T3) (.int .i64 T4)
      have gh8 : g ≤ h8 := by omega
      have r8_ := z_.five T0 T1 T2 T3 T4
      replace bb_ := below_five bb_ gh8 (.int .i64 T0) (.int .i64 T1) (.int .i64 T2) (.int .i64 T3) (.int .i64 T4)
      have f0_ := z_.fz 0
      have k0_ := z_.cell_0
      have f1_ := z_.fz 1
      have k1_ := z_.cell_1
      have f2_ := z_.fz 2
      have k2_ := z_.cell_2
      have f3_ := z_.fz 3
      have k3_ := z_.cell_3
      have f4_ := z_.fz 4
      have k4_ := z_.cell_4
      clear z_ np_
      have kp_0_ := p_.cell_0
      have kp_1_ := p_.cell_1
      have kp_2_ := p_.cell_2
      have kp_3_ := p_.cell_3
      have kp_4_ := p_.cell_4
      go_wp2_with fail
      clear kp_0_ kp_1_ kp_2_ kp_3_ kp_4_ f0_ k0_ f1_ k1_ f2_ k2_ f3_ k3_ f4_ k4_ hW8 hh8
      refine (E11.out _ _ (by simp)).mono ?_
      rintro _ V9 ⟨rfl, hb⟩
      replace r8_ := r8_.below hb
      replace bb_ := bk bb_ (hg ▸ bb_.size) hb
      clear hb
      have nr8_ := r8_.lt
      obtain ⟨h9, hh9⟩ : ∃ h, V9.heap.size = h := ⟨_, rfl⟩
      obtain ⟨W9, hW9⟩ : ∃ W, V9.alloc (.cells #[.int .i64 0, .int .i64 0, .int .i64 0, .int .i64 0, .int .i64 0] 23) = W := ⟨_, rfl⟩
      have z_ : At W9 h9 0 0 0 0 0 := by rw [← hW9, ← hh9]; exact At.new _ _ _ _ _ _
      replace r8_ : At W9 h8 T0 T1 T2 T3 T4 := by rw [← hW9]; exact r8_.alloc _
      replace bb_ : Below g w W9 := by rw [← hW9]; exact bb_.alloc (hg ▸ bb_.size) _
      replace r8_ := r8_.five_other (show h8 ≠ h9 by omega) (.int .i64 T0) (.int .i64 T1) (.int .i64 T2) (.int .i64 T3) (.int .i64 T4)
      have gh9 : g ≤ h9 := by omega
      have r9_ := z_.five T0 T1 T2 T3 T4
      replace bb_ := below_five bb_ gh9 (.int .i64 T0) (.int .i64 T1) (.int .i64 T2) (.int .i64 T3) (.int .i64 T4)
      have f0_ := z_.fz 0
      have k0_ := z_.cell_0
      have f1_ := z_.fz 1
      have k1_ := z_.cell_1
      have f2_ := z_.fz 2
      have k2_ := z_.cell_2
      have f3_ := z_.fz 3
      have k3_ := z_.cell_3
      have f4_ := z_.fz 4
      have k4_ := z_.cell_4
      clear z_ nr8_
      have kr8_0_ := r8_.cell_0
      have kr8_1_ := r8_.cell_1
      have kr8_2_ := r8_.cell_2
      have kr8_3_ := r8_.cell_3
      have kr8_4_ := r8_.cell_4
      have kr9_0_ := r9_.cell_0
      have kr9_1_ := r9_.cell_1
      have kr9_2_ := r9_.cell_2
      have kr9_3_ := r9_.cell_3
      have kr9_4_ := r9_.cell_4
      go_wp2_with fail
      clear kr8_0_ kr8_1_ kr8_2_ kr8_3_ kr8_4_ kr9_0_ kr9_1_ kr9_2_ kr9_3_ kr9_4_ f0_ k0_ f1_ k1_ f2_ k2_ f3_ k3_ f4_ k4_ hW9 hh9
      refine (works_c _ (HT.out.1.up (hg ▸ bb_)) (HT.out.2.up (hg ▸ bb_))).mono ?_
      rintro _ V10 ⟨rfl, hb⟩
      replace bb_ := bk bb_ (hg ▸ bb_.size) hb
      clear hb
      go_wp2_with fail
      go_ret
      exact ⟨rfl, by first | exact bb_ | exact below_is hg bb_⟩))
    have kp_0_ := p_.cell_0
    have kp_1_ := p_.cell_1
    have kp_2_ := p_.cell_2
    have kp_3_ := p_.cell_3
    have kp_4_ := p_.cell_4
    have kr6_0_ := r6_.cell_0
    have kr6_1_ := r6_.cell_1
    have kr6_2_ := r6_.cell_2
    have kr6_3_ := r6_.cell_3
    have kr6_4_ := r6_.cell_4
    have kq_0_ := q_.cell_0
    have kq_1_ := q_.cell_1
    have kq_2_ := q_.cell_2
    have kq_3_ := q_.cell_3
    have kq_4_ := q_.cell_4
    go_wp2_with fail
    clear kp_0_ kp_1_ kp_2_ kp_3_ kp_4_ kr6_0_ kr6_1_ kr6_2_ kr6_3_ kr6_4_ kq_0_ kq_1_ kq_2_ kq_3_ kq_4_ f0_ k0_ f1_ k1_ f2_ k2_ f3_ k3_ f4_ k4_ hW6 hh6
    refine (E10.out _).mono ?_
    rintro _ V8 ⟨rfl, hb⟩
    replace p_ := p_.below hb
    replace bb_ := bk bb_ (hg ▸ bb_.size) hb
    clear hb
    have np_ := p_.lt
    obtain ⟨h8, hh8⟩ : ∃ h, V8.heap.size = h := ⟨_, rfl⟩
    obtain ⟨W8, hW8⟩ : ∃ W, V8.alloc (.cells #[.int .i64 0, .int .i64 0, .int .i64 0, .int .i64 0, .int .i64 0] 23) = W := ⟨_, rfl⟩
    have z_ : At W8 h8 0 0 0 0 0 := by rw [← hW8, ← hh8]; exact At.new _ _ _ _ _ _
    replace p_ : At W8 p x0 x1 x2 x3 x4 := by rw [← hW8]; exact p_.alloc _
    replace bb_ : Below g w W8 := by rw [← hW8]; exact bb_.alloc (hg ▸ bb_.size) _
    replace p_ := p_.five_other (show p ≠ h8 by omega) (.int .i64 T0) (.int .i64 T1) (.int .i64 T2) (.int .i64 T3) (.int .i64 T4)
    have gh8 : g ≤ h8 := by omega
    have r8_ := z_.five T0 T1 T2 T3 T4
    replace bb_ := below_five bb_ gh8 (.int .i64 T0) (.int .i64 T1) (.int .i64 T2) (.int .i64 T3) (.int .i64 T4)
    have f0_ := z_.fz 0
    have k0_ := z_.cell_0
    have f1_ := z_.fz 1
    have k1_ := z_.cell_1
    have f2_ := z_.fz 2
    have k2_ := z_.cell_2
    have f3_ := z_.fz 3
    have k3_ := z_.cell_3
    have f4_ := z_.fz 4
    have k4_ := z_.cell_4
    clear z_ np_
    have kp_0_ := p_.cell_0
    have kp_1_ := p_.cell_1
    have kp_2_ := p_.cell_2
    have kp_3_ := p_.cell_3
    have kp_4_ := p_.cell_4
    go_wp2_with fail
    clear kp_0_ kp_1_ kp_2_ kp_3_ kp_4_ f0_ k0_ f1_ k1_ f2_ k2_ f3_ k3_ f4_ k4_ hW8 hh8
    refine (E11.out _ _ (by simp)).mono ?_
    rintro _ V9 ⟨rfl, hb⟩
    replace r8_ := r8_.below hb
    replace bb_ := bk bb_ (hg ▸ bb_.size) hb
    clear hb
    have nr8_ := r8_.lt
    obtain ⟨h9, hh9⟩ : ∃ h, V9.heap.size = h := ⟨_, rfl⟩
    obtain ⟨W9, hW9⟩ : ∃ W, V9.alloc (.cells #[.int .i64 0, .int .i64 0, .int .i64 0, .int .i64 0, .int .i64 0] 23) = W := ⟨_, rfl⟩
    have z_ : At W9 h9 0 0 0 0 0 := by rw [← hW9, ← hh9]; exact At.new _ _ _ _ _ _
    replace r8_ : At W9 h8 T0 T1 T2 T3 T4 := by rw [← hW9]; exact r8_.alloc _
    replace bb_ : Below g w W9 := by rw [← hW9]; exact bb_.alloc (hg ▸ bb_.size) _
    replace r8_ := r8_.five_other (show h8 ≠ h9 by omega) (.int .i64 T0) (.int .i64 T1) (.int .i64 T2) (.int .i64 T3) (.int .i64 T4)
    have gh9 : g ≤ h9 := by omega
    have r9_ := z_.five T0 T1 T2 T3 T4
    replace bb_ := below_five bb_ gh9 (.int .i64 T0) (.int .i64 T1) (.int .i64 T2) (.int .i64 T3) (.int .i64 T4)
    have f0_ := z_.fz 0
    have k0_ := z_.cell_0
    have f1_ := z_.fz 1
    have k1_ := z_.cell_1
    have f2_ := z_.fz 2
    have k2_ := z_.cell_2
    have f3_ := z_.fz 3
    have k3_ := z_.cell_3
    have f4_ := z_.fz 4
    have k4_ := z_.cell_4
    clear z_ nr8_
    have kr8_0_ := r8_.cell_0
    have kr8_1_ := r8_.cell_1
    have kr8_2_ := r8_.cell_2
    have kr8_3_ := r8_.cell_3
    have kr8_4_ := r8_.cell_4
    have kr9_0_ := r9_.cell_0
    have kr9_1_ := r9_.cell_1
    have kr9_2_ := r9_.cell_2
    have kr9_3_ := r9_.cell_3
    have kr9_4_ := r9_.cell_4
    go_wp2_with fail
    clear kr8_0_ kr8_1_ kr8_2_ kr8_3_ kr8_4_ kr9_0_ kr9_1_ kr9_2_ kr9_3_ kr9_4_ f0_ k0_ f1_ k1_ f2_ k2_ f3_ k3_ f4_ k4_ hW9 hh9
    refine (works_c _ (HT.out.1.up (hg ▸ bb_)) (HT.out.2.up (hg ▸ bb_))).mono ?_
    rintro _ V10 ⟨rfl, hb⟩
    replace bb_ := bk bb_ (hg ▸ bb_.size) hb
    clear hb
    go_wp2_with fail
    go_ret
    exact ⟨rfl, by first | exact bb_ | exact below_is hg bb_⟩
end Go.Proofs.YtceepgleeelohaaDoor.P
