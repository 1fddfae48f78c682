import Derived.Test.YtceepgleeelohaaDoorRows
import Derived.Test.YtceepgleeelohaaDoorHlib
import Derived.Test.YtceepgleeelohaaDoorHv9
import Derived.Lib.LaidU8
/- Go's own tables, laid. -/
namespace Go.Proofs.YtceepgleeelohaaDoor.P
open Go.RowKit Go.Lib
/-- the cells of a table of numbers -/
def tabCells (d : DataW Unit) : Array Value := match d with
  | .agg l => (l.flatMap fun x => match x with
    | .lit (.int k n) => [Value.int k n]
    | .agg r => r.filterMap fun y => match y with
      | .lit (.int k n) => some (Value.int k n)
      | _ => none
    | _ => []).toArray
  | _ => #[]
/-- a world in which the tables are laid -/
noncomputable def laidWorld (os : Os) : World :=
  let w0 := World.holding Tryd.prog os ⟨#[], #[], []⟩
  let put (h : Array Obj) (g : Nat) (cs : Array Value) : Array Obj := h.modify g fun
    | .cells _ t frozen => .cells cs t frozen
    | o => o
  let h2 := put w0.heap 0 #[.string (nmB 0), .string (nmB 1), .string (nmB 2), .string (nmB 3), .string (nmB 4)]
  let h3 := put h2 4 (tabCells Rows.laid_internal_strconv_uint64pow10)
  let h4 := put h3 5 (tabCells Rows.laid_math_bits_deBruijn32tab)
  let h5 := put h4 6 (tabCells Rows.laid_math_bits_deBruijn64tab)
  { w0 with heap := h5 }
theorem tabIs_of_reads {P : Program} {W : World} {name : String} {k : IntKind} {zs : List Int} {g : Nat} {t e : TypeId} {n : Nat}
    (hg : P.globalNamed name = some g) (hty : (P.globals[g]?).map (·.type) = some t) (ht : P.underlying t = some (.array n e)) (he : P.underlying e = some (.int k)) (hce : P.cellsOf e = 1) (hct : P.cellsOf t = n)
    (h : VarReads P W name (tabData k zs)) : TabIs P W name k zs := by
  obtain ⟨g', t', cs, fuel, p, hg', ht', hvar, hd⟩ := h
  obtain rfl := Option.some.inj (hg.symm.trans hg')
  obtain rfl := Option.some.inj (hty.symm.trans ht')
  unfold TabIs
  rw [hvar, ← cells_of_tab ht he hce hct hd]
abbrev Tb1 (w : World) : Prop := Lib.TabIs Tryd.prog w "internal/strconv.uint64pow10" .u64 Lib.pow10Tab
theorem pow_eq : (Rows.laid_internal_strconv_uint64pow10 : DataW Unit) = tabData .u64 Lib.pow10Tab := by kernel_rfl
theorem tb_of_reads {W : World} (h : VarReads Tryd.prog W "internal/strconv.uint64pow10" Rows.laid_internal_strconv_uint64pow10) : Tb1 W := by
  rw [pow_eq] at h
  exact tabIs_of_reads (g := 4) (t := 122) (e := 94) (n := 20) (by kernel_rfl) (by kernel_rfl) Tryd.underlying122 Tryd.underlying94 (by kernel_rfl) (by kernel_rfl) h
theorem nm_of_reads {W : World} (h : VarReads Tryd.prog W "drayage/vec.names" Rows.laid_drayage_vec_names) : Nm W := by
  obtain ⟨g, t, cs, fuel, p, hg, hty, hvar, hd⟩ := h
  obtain rfl : g = 0 := Option.some.inj (hg.symm.trans (show Tryd.prog.globalNamed "drayage/vec.names" = some 0 by kernel_rfl))
  obtain rfl : t = 56 := Option.some.inj (hty.symm.trans (show (Tryd.prog.globals[0]?).map (·.type) = some 56 by kernel_rfl))
  refine ⟨?_, fun i hi => ?_⟩
  · have hv := hvar
    unfold World.var? at hv
    rw [show Tryd.prog.globalNamed "drayage/vec.names" = some 0 by kernel_rfl] at hv
    simp only [Option.bind_some] at hv
    rcases Nat.lt_or_ge 0 W.heap.size with h0 | h0
    · exact h0
    · rw [Array.getElem?_eq_none (by omega)] at hv
      cases hv
  · rw [World.var?_cell hg hvar i, ← Array.getElem?_toList]
    obtain ⟨fuel', d, q, hdi, he⟩ := array_elem Tryd.underlying56 hd i hi
    rw [show Tryd.prog.cellsOf 9 = 1 by kernel_rfl] at he
    have key : ∀ b : ByteArray, d = .lit (.string b.data.toList) → cs.toList[i]? = some (.string b) := by
      intro b hb
      subst hb
      obtain ⟨s, hcs, hl, _⟩ := DataW.trod_string Tryd.underlying9 he
      have h1 := congrArg (·[0]?) hcs
      simp only [List.getElem?_take, List.getElem?_drop] at h1
      have hbs : b = s := by
        have hl2 : (DataW.lit (.string b.data.toList) : DataW Unit) = .lit (.string s.data.toList) := congrArg Prod.fst hl
        injection hl2 with hl2
        injection hl2 with hl2
        cases b; cases s
        congr 1
        exact Array.toList_inj.1 hl2
      subst hbs
      simpa using h1
    have h5 : i = 0 ∨ i = 1 ∨ i = 2 ∨ i = 3 ∨ i = 4 := by omega
    rcases h5 with rfl | rfl | rfl | rfl | rfl <;> exact key _ (Option.some.inj hdi).symm
end Go.Proofs.YtceepgleeelohaaDoor.P
