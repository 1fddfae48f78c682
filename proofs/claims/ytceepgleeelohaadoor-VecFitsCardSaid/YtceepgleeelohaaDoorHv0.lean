import Derived.Test.YtceepgleeelohaaDoorHv2
import Derived.ChangeKeysEq
/- '==' of rows. -/
namespace Go.Proofs.YtceepgleeelohaaDoor.P
set_option linter.unusedVariables false
set_option linter.unusedSimpArgs false
open Go.RowKit Go.Proofs.YtceepgleeelohaaDoorW.PrintWords Go.Proofs.YtceepgleeelohaaDoorW.PrintLast Go.Proofs.YtceepgleeelohaaDoorW.PrintMore
theorem eq_step (xs ys : Array Value) (i : Nat) (is : List Nat) (x y : Int) (w : World) (hx : xs[i]? = some (.int .i64 x)) (hy : ys[i]? = some (.int .i64 y)) {r : Bool} (hr : (Op.eqItems 9999 3 1 xs ys is).run Tryd.prog w = .ok r w) :
    (Op.eqItems 9999 3 1 xs ys (i :: is)).run Tryd.prog w = .ok ((x == y) && r) w := by
  have px : (part 3 xs (i * 1)).run Tryd.prog w = .ok (.int .i64 x) w := by
    simp [part, isAgg, run_underlying Tryd.underlying3, hx]
  have py : (part 3 ys (i * 1)).run Tryd.prog w = .ok (.int .i64 y) w := by
    simp [part, isAgg, run_underlying Tryd.underlying3, hy]
  have pe : (Op.equalIn 9999 3 (.int .i64 x) (.int .i64 y)).run Tryd.prog w = .ok (x == y) w := by
    rw [run_equalIn_int w 9998 3 .i64 .i64 _ _ Tryd.underlying3]
  simp only [Op.eqItems, Sem.run_bind, px, py, pe, Result.andThen_ok]
  cases (x == y)
  · simp
  · simpa using hr
theorem eq23 (a b c d e a' b' c' d' e' : Int) (w : World) : (Op.equalIn 10000 23 (.agg #[.int .i64 a, .int .i64 b, .int .i64 c, .int .i64 d, .int .i64 e]) (.agg #[.int .i64 a', .int .i64 b', .int .i64 c', .int .i64 d', .int .i64 e'])).run Tryd.prog w = .ok ((a == a') && ((b == b') && ((c == c') && ((d == d') && ((e == e') && true))))) w := by
  obtain ⟨i, hi⟩ : ∃ i, Tryd.prog.info? 3 = some i := Option.isSome_iff_exists.1 (by kernel_rfl)
  rw [show (10000 : Nat) = 9999 + 1 from rfl, run_equalIn_array (P := Tryd.prog) w 9999 _ _ Tryd.underlying23 hi]
  have hc : Tryd.prog.cellsOf 3 = 1 := by kernel_rfl
  rw [hc, show List.range 5 = [0, 1, 2, 3, 4] from rfl]
  refine eq_step _ _ 0 _ _ _ w rfl rfl (eq_step _ _ 1 _ _ _ w rfl rfl (eq_step _ _ 2 _ _ _ w rfl rfl (eq_step _ _ 3 _ _ _ w rfl rfl (eq_step _ _ 4 _ _ _ w rfl rfl ?_))))
  simp [Op.eqItems]
end Go.Proofs.YtceepgleeelohaaDoor.P
