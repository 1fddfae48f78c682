import Derived.Test.YtkpoipjgbdcdjaaDoorRows
import Derived.Test.YtkpoipjgbdcdjaaDoorHlib
import Derived.Lib.LaidU8
namespace Go.Proofs.YtkpoipjgbdcdjaaDoor.P
open Go.RowKit Go.Lib
def tabCells (d : DataW Unit) : Array Value := match d with
 | .agg l => (l.flatMap fun x => match x with
  | .lit (.int k n) => [Value.int k n]
  | .agg r => r.filterMap fun y => match y with
   | .lit (.int k n) => some (Value.int k n)
   | _ => none
  | _ => []).toArray
 | _ => #[]
noncomputable def laidWorld (os : Os) : World :=
 let w0 := World.holding Tryd.prog os ⟨#[], #[], []⟩
 let put (h : Array Obj) (g : Nat) (cs : Array Value) : Array Obj := h.modify g fun
  | .cells _ t frozen => .cells cs t frozen
  | o => o
 let h1 := put w0.heap 0 (Lib.firstTab.map fun z => Value.int .u8 z).toArray
 let h2 := put h1 1 (tabCells Rows.laid_unicode_utf8_acceptRanges)
 let h3 := put h2 4 (tabCells Rows.laid_internal_strconv_uint64pow10)
 let h4 := put h3 5 (tabCells Rows.laid_math_bits_deBruijn32tab)
 let h5 := put h4 6 (tabCells Rows.laid_math_bits_deBruijn64tab)
 { w0 with heap := h5 }
theorem tabIs_of_reads {P : Program} {W : World} {name : String} {k : IntKind} {zs : List Int} {g : Nat} {t e : TypeId} {n : Nat}
  (hg : P.globalNamed name = some g) (hty : (P.globals[g]?).map (·.type) = some t) (ht : P.underlying t = some (.array n e)) (he : P.underlying e = some (.int k)) (hce : P.cellsOf e = 1) (hct : P.cellsOf t = n)
  (h : VarReads P W name (tabData k zs)) : TabIs P W name k zs := by
 obtain ⟨g', t', cs, fuel, p, hg', ht', hvar, hd⟩ := h
 obtain rfl := Option.some.inj (hg.symm.trans hg')
 obtain rfl := Option.some.inj (hty.symm.trans ht')
 unfold TabIs
 rw [hvar, ← cells_of_tab ht he hce hct hd]
abbrev Tb1 (w : World) : Prop := Lib.TabIs Tryd.prog w "internal/strconv.uint64pow10" .u64 Lib.pow10Tab
theorem pow_eq : (Rows.laid_internal_strconv_uint64pow10 : DataW Unit) = tabData .u64 Lib.pow10Tab := by kernel_rfl
theorem tb_of_reads {W : World} (h : VarReads Tryd.prog W "internal/strconv.uint64pow10" Rows.laid_internal_strconv_uint64pow10) : Tb1 W := by
 rw [pow_eq] at h
 exact tabIs_of_reads (g := 4) (t := 92) (e := 59) (n := 20) (by kernel_rfl) (by kernel_rfl) Tryd.underlying92 Tryd.underlying59 (by kernel_rfl) (by kernel_rfl) h
end Go.Proofs.YtkpoipjgbdcdjaaDoor.P
