/- The rows' listed tables of the library: what they give to the functions on texts, where these may fail; a world that holds them. -/
import Derived.Test.YtoelbnhjamddgaaGreatDoorRows
import Derived.Test.YtoelbnhjamddgaaGreatDoorStrD
import Derived.Lib.LaidTab
import Derived.LaidLaws
import Derived.LaidSub
import Derived.MakeChecks
import Derived.RowKit
import Derived.ChangeShapes
import Derived.WideShapes
import Derived.Deep.DeepLaidRun
import Derived.Shelf.Vars
import Derived.WideWitness
set_option linter.unusedSimpArgs false
set_option linter.unusedVariables false
namespace Go.Proofs.YtoelbnhjamddgaaGreatDoor
open Go.ChangeShapes Go.WideShapes Go.RowKit Go.Port
theorem own : ownKnob Tryz.prog.godebug = none := by kernel_rfl
theorem laidOut : laidOutB Tryz.prog = true := by kernel_rfl
/-- The list of the rows. -/
def txtList : List (String × DataW Unit) := [("math/bits.deBruijn32tab", Rows.laid_math_bits_deBruijn32tab), ("math/bits.deBruijn64tab", Rows.laid_math_bits_deBruijn64tab), ("internal/strconv.uint64pow10", Rows.laid_internal_strconv_uint64pow10), ("unicode/utf8.acceptRanges", Rows.laid_unicode_utf8_acceptRanges), ("strconv.ErrRange", Rows.laid_strconv_ErrRange), ("strconv.ErrSyntax", Rows.laid_strconv_ErrSyntax), ("unicode/utf8.first", Rows.laid_unicode_utf8_first)]
theorem pow_is : (Rows.laid_internal_strconv_uint64pow10 : DataW Unit) = Lib.tabData .u64 Lib.pow10Tab := by kernel_rfl
theorem txt_plain : (txtList.all fun x => x.2.handleName?.isNone) = true := by kernel_rfl
theorem txt_pow : txtList.filter (fun x => x.1 == "internal/strconv.uint64pow10") = [("internal/strconv.uint64pow10", Lib.tabData .u64 Lib.pow10Tab)] := by rw [← pow_is]; kernel_rfl
theorem iface_cell {W : World} {name nm : String} {d : DataW Unit} {g : Nat} {ti : TypeId} {ms : Array (String × TypeId)} (hg : Tryz.prog.globalNamed name = some g) (hty : (Tryz.prog.globals[g]?).map (·.type) = some ti) (hi : Tryz.prog.underlying ti = some (.interface ms))
    (h : laidMet Tryz.prog [(name, .iface nm d)] W) : ∃ t p, W.cell? ⟨g, 0, none⟩ = some (.iface t p) := by
  obtain ⟨ps, ⟨g', t', cs, fuel, p, q, hg', ht', hvar, hd, _, _⟩, _⟩ := h
  obtain rfl := Option.some.inj (hg.symm.trans hg')
  obtain rfl := Option.some.inj (hty.symm.trans ht')
  obtain ⟨f2, u, v, hcs, _, _⟩ := iface_of_trod hi hd
  obtain rfl : cs = #[.iface u v] := Array.toList_inj.1 (by rw [hcs])
  have := World.var?_cell hg hvar 0
  exact ⟨u, v, by simpa using this⟩
theorem txt_syn : txtList.filter (fun x => x.1 == "strconv.ErrSyntax") = [("strconv.ErrSyntax", Rows.laid_strconv_ErrSyntax)] := by kernel_rfl
theorem txt_rng : txtList.filter (fun x => x.1 == "strconv.ErrRange") = [("strconv.ErrRange", Rows.laid_strconv_ErrRange)] := by kernel_rfl
theorem laid_of {W : World} (h : laidMetH Tryz.prog txtList W) (hs : W.ShapedOpen Tryz.prog) : Txe W := by
  have h1 := laidMetH.filter (fun x => x.1 == "internal/strconv.uint64pow10") h
  have h2 := laidMetH.filter (fun x => x.1 == "strconv.ErrSyntax") h
  have h3 := laidMetH.filter (fun x => x.1 == "strconv.ErrRange") h
  rw [txt_pow, MakeChecks.laidMetH_plain _ _ _ (by kernel_rfl)] at h1
  rw [txt_syn, MakeChecks.laidMetH_plain _ _ _ (by kernel_rfl)] at h2
  rw [txt_rng, MakeChecks.laidMetH_plain _ _ _ (by kernel_rfl)] at h3
  exact ⟨⟨Lib.tabIs_of_head (g := 4) (t := 160) (e := 119) (n := 20) (by kernel_rfl) (by kernel_rfl) (by kernel_rfl) (by kernel_rfl) (by kernel_rfl) (by kernel_rfl) h1,
    cell_of_shapedOpen_int (g := 3) (t := 3) (zero := #[.int .i64 0]) (k := .i64) hs (of_decide_eq_true (by kernel_rfl)) (by kernel_rfl) rfl (by kernel_rfl) (by kernel_rfl) (by kernel_rfl)⟩,
    iface_cell (g := 1) (ti := 27) (by kernel_rfl) (by kernel_rfl) Tryz.underlying27 h2, iface_cell (g := 2) (ti := 27) (by kernel_rfl) (by kernel_rfl) Tryz.underlying27 h3⟩

/-- A world that holds it. -/
def leaf : DataW Unit → Value
  | .lit (.int k z) => .int k z
  | _ => .nilIface
def cells1 : DataW Unit → List Value
  | .agg l => l.map leaf
  | _ => []
def cells2 : DataW Unit → List Value
  | .agg l => l.flatMap cells1
  | _ => []
def put (cs : List Value) : Obj → Obj
  | .cells _ t frozen => .cells cs.toArray t frozen
  | o => o
noncomputable def low : Nat := (World.holding Tryz.prog default ⟨#[], #[], []⟩).heap.size
def errOf (n : Nat) : Value := .iface 164 (.pointer (some ⟨n, 0, none⟩))
noncomputable def laidWorld (os : Os) : World :=
  { World.holding Tryz.prog os ⟨#[.cells #[.string ⟨#[118, 97, 108, 117, 101, 32, 111, 117, 116, 32, 111, 102, 32, 114, 97, 110, 103, 101]⟩] 166, .cells #[.string ⟨#[105, 110, 118, 97, 108, 105, 100, 32, 115, 121, 110, 116, 97, 120]⟩] 166], #[], []⟩ with
    heap := (((((((World.holding Tryz.prog os ⟨#[.cells #[.string ⟨#[118, 97, 108, 117, 101, 32, 111, 117, 116, 32, 111, 102, 32, 114, 97, 110, 103, 101]⟩] 166, .cells #[.string ⟨#[105, 110, 118, 97, 108, 105, 100, 32, 115, 121, 110, 116, 97, 120]⟩] 166], #[], []⟩).heap.modify 2 (put [errOf low])).modify 1 (put [errOf (low + 1)])).modify 4 (put (cells1 Rows.laid_internal_strconv_uint64pow10))).modify
      7 (put (cells1 Rows.laid_math_bits_deBruijn32tab))).modify 8 (put (cells1 Rows.laid_math_bits_deBruijn64tab))).modify 5 (put (cells1 Rows.laid_unicode_utf8_first))).modify 6 (put (cells2 Rows.laid_unicode_utf8_acceptRanges)) }
set_option maxRecDepth 100000 in
theorem laidWorld_met (os : Os) (args : Array Value) : laidMetH Tryz.prog txtList ((laidWorld os).forCall (fun _ _ => 0) ⟨#[], args, []⟩).memory := by
  rw [MakeChecks.laidMetH_plain _ _ _ txt_plain]
  exact laidMet_of_run3 8 (by kernel_rfl) (by kernel_rfl) (by kernel_rfl)
end Go.Proofs.YtoelbnhjamddgaaGreatDoor
