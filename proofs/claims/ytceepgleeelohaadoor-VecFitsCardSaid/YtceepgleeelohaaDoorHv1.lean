import Derived.Test.YtceepgleeelohaaDoorP0
import Derived.Test.YtceepgleeelohaaDoorPf20
import Derived.LoopN
import Derived.Deep.RegionHeld3
/- Rows of five places: Fits, Over's reference, made, by rounds. -/
namespace Go.Proofs.YtceepgleeelohaaDoor.P
set_option linter.unusedVariables false
set_option linter.unusedSimpArgs false
open Go.RowKit Go.Proofs.YtceepgleeelohaaDoorW.PrintWords Go.Proofs.YtceepgleeelohaaDoorW.PrintLast Go.Proofs.YtceepgleeelohaaDoorW.PrintMore
/-- a row -/
structure V where
  a : Int
  b : Int
  c : Int
  d : Int
  e : Int
def V.get (v : V) : Nat → Int
  | 0 => v.a
  | 1 => v.b
  | 2 => v.c
  | 3 => v.d
  | _ => v.e
def V.fits (v u : V) : Bool := if u.a < v.a then false else if u.b < v.b then false else if u.c < v.c then false else if u.d < v.d then false else if u.e < v.e then false else true
set_option maxRecDepth 100000 in
set_option maxHeartbeats 4000000 in
theorem fits_c (a b c d e a' b' c' d' e' : Int) (w : World) :
    Calls Tryd.prog 9 #[.agg #[.int .i64 a, .int .i64 b, .int .i64 c, .int .i64 d, .int .i64 e], .agg #[.int .i64 a', .int .i64 b', .int .i64 c', .int .i64 d', .int .i64 e']] w fun e_ w' => e_ = .returned (.bool (V.fits ⟨a, b, c, d, e⟩ ⟨a', b', c', d', e'⟩)) ∧ Below w.heap.size w w' := by
  unfold V.fits
  go_enter Tryd.func9, Tryd.ntmps9
  go_wp2_with fail
  refine wp_loop_rounds 6 ?_
  rw [rounds_succ]
  by_cases h0 : a' < a
  · go_wp2_with fail
    go_region_held3 (fun w' => w'.cell? ⟨w.heap.size, 0, none⟩ = some (.int .i64 a) ∧ w'.cell? ⟨w.heap.size + 1, 0, none⟩ = some (.int .i64 a')) (go_keep) (fail)
    go_wp2_with fail
    go_ret
    exact ⟨by simp [h0], by repeat (first | exact Below.refl _ _ | apply below_drew1 | apply below_alloc)⟩
  go_wp2_with fail
  go_region_held3 (fun w' => w'.cell? ⟨w.heap.size, 0, none⟩ = some (.int .i64 a) ∧ w'.cell? ⟨w.heap.size + 1, 0, none⟩ = some (.int .i64 a')) (go_keep) (fail)
  go_wp2_with fail
  rw [rounds_succ]
  by_cases h1 : b' < b
  · go_wp2_with fail
    go_region_held3 (fun w' => w'.cell? ⟨w.heap.size, 1, none⟩ = some (.int .i64 b) ∧ w'.cell? ⟨w.heap.size + 1, 1, none⟩ = some (.int .i64 b')) (go_keep) (fail)
    go_wp2_with fail
    go_ret
    exact ⟨by simp [h0, h1], by repeat (first | exact Below.refl _ _ | apply below_drew1 | apply below_alloc)⟩
  go_wp2_with fail
  go_region_held3 (fun w' => w'.cell? ⟨w.heap.size, 1, none⟩ = some (.int .i64 b) ∧ w'.cell? ⟨w.heap.size + 1, 1, none⟩ = some (.int .i64 b')) (go_keep) (fail)
  go_wp2_with fail
  rw [rounds_succ]
  by_cases h2 : c' < c
  · go_wp2_with fail
    go_region_held3 (fun w' => w'.cell? ⟨w.heap.size, 2, none⟩ = some (.int .i64 c) ∧ w'.cell? ⟨w.heap.size + 1, 2, none⟩ = some (.int .i64 c')) (go_keep) (fail)
    go_wp2_with fail
    go_ret
    exact ⟨by simp [h0, h1, h2], by repeat (first | exact Below.refl _ _ | apply below_drew1 | apply below_alloc)⟩
  go_wp2_with fail
  go_region_held3 (fun w' => w'.cell? ⟨w.heap.size, 2, none⟩ = some (.int .i64 c) ∧ w'.cell? ⟨w.heap.size + 1, 2, none⟩ = some (.int .i64 c')) (go_keep) (fail)
  go_wp2_with fail
  rw [rounds_succ]
  by_cases h3 : d' < d
  · go_wp2_with fail
    go_region_held3 (fun w' => w'.cell? ⟨w.heap.size, 3, none⟩ = some (.int .i64 d) ∧ w'.cell? ⟨w.heap.size + 1, 3, none⟩ = some (.int .i64 d')) (go_keep) (fail)
    go_wp2_with fail
    go_ret
    exact ⟨by simp [h0, h1, h2, h3], by repeat (first | exact Below.refl _ _ | apply below_drew1 | apply below_alloc)⟩
  go_wp2_with fail
  go_region_held3 (fun w' => w'.cell? ⟨w.heap.size, 3, none⟩ = some (.int .i64 d) ∧ w'.cell? ⟨w.heap.size + 1, 3, none⟩ = some (.int .i64 d')) (go_keep) (fail)
  go_wp2_with fail
  rw [rounds_succ]
  by_cases h4 : e' < e
  · go_wp2_with fail
    go_region_held3 (fun w' => w'.cell? ⟨w.heap.size, 4, none⟩ = some (.int .i64 e) ∧ w'.cell? ⟨w.heap.size + 1, 4, none⟩ = some (.int .i64 e')) (go_keep) (fail)
    go_wp2_with fail
    go_ret
    exact ⟨by simp [h0, h1, h2, h3, h4], by repeat (first | exact Below.refl _ _ | apply below_drew1 | apply below_alloc)⟩
  go_wp2_with fail
  go_region_held3 (fun w' => w'.cell? ⟨w.heap.size, 4, none⟩ = some (.int .i64 e) ∧ w'.cell? ⟨w.heap.size + 1, 4, none⟩ = some (.int .i64 e')) (go_keep) (fail)
  go_wp2_with fail
  rw [rounds_succ]
  go_wp2_with fail
  go_ret
  exact ⟨by simp [h0, h1, h2, h3, h4], by repeat (first | exact Below.refl _ _ | apply below_drew1 | apply below_alloc)⟩
set_option maxRecDepth 100000 in
set_option maxHeartbeats 4000000 in
theorem rfits_c (a b c d e a' b' c' d' e' : Int) (w : World) :
    Calls Tryd.prog 26 #[.agg #[.int .i64 a, .int .i64 b, .int .i64 c, .int .i64 d, .int .i64 e], .agg #[.int .i64 a', .int .i64 b', .int .i64 c', .int .i64 d', .int .i64 e']] w fun e_ w' => e_ = .returned (.bool (V.fits ⟨a, b, c, d, e⟩ ⟨a', b', c', d', e'⟩)) ∧ Below w.heap.size w w' := by
  unfold V.fits
  go_enter Tryd.func26, Tryd.ntmps26
  go_wp2_with fail
  refine wp_loop_rounds 6 ?_
  rw [rounds_succ]
  by_cases h0 : a' < a
  · go_wp2_with fail
    go_region_held3 (fun w' => w'.cell? ⟨w.heap.size, 0, none⟩ = some (.int .i64 a) ∧ w'.cell? ⟨w.heap.size + 1, 0, none⟩ = some (.int .i64 a')) (go_keep) (fail)
    go_wp2_with fail
    go_ret
    exact ⟨by simp [h0], by repeat (first | exact Below.refl _ _ | apply below_drew1 | apply below_alloc)⟩
  go_wp2_with fail
  go_region_held3 (fun w' => w'.cell? ⟨w.heap.size, 0, none⟩ = some (.int .i64 a) ∧ w'.cell? ⟨w.heap.size + 1, 0, none⟩ = some (.int .i64 a')) (go_keep) (fail)
  go_wp2_with fail
  rw [rounds_succ]
  by_cases h1 : b' < b
  · go_wp2_with fail
    go_region_held3 (fun w' => w'.cell? ⟨w.heap.size, 1, none⟩ = some (.int .i64 b) ∧ w'.cell? ⟨w.heap.size + 1, 1, none⟩ = some (.int .i64 b')) (go_keep) (fail)
    go_wp2_with fail
    go_ret
    exact ⟨by simp [h0, h1], by repeat (first | exact Below.refl _ _ | apply below_drew1 | apply below_alloc)⟩
  go_wp2_with fail
  go_region_held3 (fun w' => w'.cell? ⟨w.heap.size, 1, none⟩ = some (.int .i64 b) ∧ w'.cell? ⟨w.heap.size + 1, 1, none⟩ = some (.int .i64 b')) (go_keep) (fail)
  go_wp2_with fail
  rw [rounds_succ]
  by_cases h2 : c' < c
  · go_wp2_with fail
    go_region_held3 (fun w' => w'.cell? ⟨w.heap.size, 2, none⟩ = some (.int .i64 c) ∧ w'.cell? ⟨w.heap.size + 1, 2, none⟩ = some (.int .i64 c')) (go_keep) (fail)
    go_wp2_with fail
    go_ret
    exact ⟨by simp [h0, h1, h2], by repeat (first | exact Below.refl _ _ | apply below_drew1 | apply below_alloc)⟩
  go_wp2_with fail
  go_region_held3 (fun w' => w'.cell? ⟨w.heap.size, 2, none⟩ = some (.int .i64 c) ∧ w'.cell? ⟨w.heap.size + 1, 2, none⟩ = some (.int .i64 c')) (go_keep) (fail)
  go_wp2_with fail
  rw [rounds_succ]
  by_cases h3 : d' < d
  · go_wp2_with fail
    go_region_held3 (fun w' => w'.cell? ⟨w.heap.size, 3, none⟩ = some (.int .i64 d) ∧ w'.cell? ⟨w.heap.size + 1, 3, none⟩ = some (.int .i64 d')) (go_keep) (fail)
    go_wp2_with fail
    go_ret
    exact ⟨by simp [h0, h1, h2, h3], by repeat (first | exact Below.refl _ _ | apply below_drew1 | apply below_alloc)⟩
  go_wp2_with fail
  go_region_held3 (fun w' => w'.cell? ⟨w.heap.size, 3, none⟩ = some (.int .i64 d) ∧ w'.cell? ⟨w.heap.size + 1, 3, none⟩ = some (.int .i64 d')) (go_keep) (fail)
  go_wp2_with fail
  rw [rounds_succ]
  by_cases h4 : e' < e
  · go_wp2_with fail
    go_region_held3 (fun w' => w'.cell? ⟨w.heap.size, 4, none⟩ = some (.int .i64 e) ∧ w'.cell? ⟨w.heap.size + 1, 4, none⟩ = some (.int .i64 e')) (go_keep) (fail)
    go_wp2_with fail
    go_ret
    exact ⟨by simp [h0, h1, h2, h3, h4], by repeat (first | exact Below.refl _ _ | apply below_drew1 | apply below_alloc)⟩
  go_wp2_with fail
  go_region_held3 (fun w' => w'.cell? ⟨w.heap.size, 4, none⟩ = some (.int .i64 e) ∧ w'.cell? ⟨w.heap.size + 1, 4, none⟩ = some (.int .i64 e')) (go_keep) (fail)
  go_wp2_with fail
  rw [rounds_succ]
  go_wp2_with fail
  go_ret
  exact ⟨by simp [h0, h1, h2, h3, h4], by repeat (first | exact Below.refl _ _ | apply below_drew1 | apply below_alloc)⟩
end Go.Proofs.YtceepgleeelohaaDoor.P
