/- The package-level variables that the rows list: a world in which they lie, and what they give. -/
import Derived.Test.YtbecemdehelooaaGreatDoorRows
import Derived.Test.YtbecemdehelooaaGreatDoorFeedG
import Derived.Deep.DeepHandedRow
import Derived.Deep.DeepLaidRun
import Derived.Lib.LaidTab
import Derived.Stop.LaidErr
import Derived.MakeChecks
import Derived.PinnedBridge
import Derived.Shelf.Vars
import Derived.WalkKit
import Derived.ProofKit
namespace Go.Proofs.YtbecemdehelooaaGreatDoor.FeedL
open Go.ChangeShapes Go.WideShapes Go.ChangeAt Go.RowKit Go.Proofs.YtbecemdehelooaaGreatDoor.FeedG
set_option linter.unusedVariables false
def laid : List (String × DataW Unit) := [("math/bits.deBruijn32tab", Rows.laid_math_bits_deBruijn32tab), ("math/bits.deBruijn64tab", Rows.laid_math_bits_deBruijn64tab), ("internal/strconv.uint64pow10", Rows.laid_internal_strconv_uint64pow10), ("unicode/utf8.acceptRanges", Rows.laid_unicode_utf8_acceptRanges), ("strconv.ErrRange", Rows.laid_strconv_ErrRange), ("strconv.ErrSyntax", Rows.laid_strconv_ErrSyntax), ("unicode/utf8.first", Rows.laid_unicode_utf8_first)]
theorem gMax : Tryz.prog.globalNamed "internal/bytealg.MaxLen" = some 0 := by kernel_rfl
theorem gSyn : Tryz.prog.globalNamed "strconv.ErrSyntax" = some 1 := by kernel_rfl
theorem gRan : Tryz.prog.globalNamed "strconv.ErrRange" = some 2 := by kernel_rfl
theorem gPow : Tryz.prog.globalNamed "internal/strconv.uint64pow10" = some 3 := by kernel_rfl
theorem gSynT : (Tryz.prog.globals[1]?).map (·.type) = some 55 := by kernel_rfl
theorem gRanT : (Tryz.prog.globals[2]?).map (·.type) = some 55 := by kernel_rfl
theorem gPowT : (Tryz.prog.globals[3]?).map (·.type) = some 103 := by kernel_rfl
theorem cPow : Tryz.prog.cellsOf 103 = 20 := by kernel_rfl
theorem cU64 : Tryz.prog.cellsOf 87 = 1 := by kernel_rfl
theorem cErr : Tryz.prog.cellsOf 116 = 1 := by kernel_rfl
theorem cStr : Tryz.prog.cellsOf 9 = 1 := by kernel_rfl
theorem star : "*" ++ "errors.errorString" = "*errors.errorString" := by decide
theorem rowErr (u : TypeId) (h : Tryz.prog.typeName? 3 u = some "*errors.errorString") : u = 114 :=
  typeName_ptr_named (nm := "errors.errorString") (by rw [star]; kernel_rfl) (by kernel_rfl) (by decide) u (by rw [star]; exact h)
theorem noHandle : (laid.all fun x => x.2.handleName?.isNone) = true := by kernel_rfl
/-- What the list gives. -/
theorem G_of {W : World} (h : laidMetH Tryz.prog laid W) (hs : W.ShapedOpen Tryz.prog) : G W := by
  rw [Go.MakeChecks.laidMetH_plain _ _ _ noHandle] at h
  have h2 := h.tail.tail
  have h4 := h2.tail.tail
  obtain ⟨a1, s1, hv1, -, -, -⟩ := laid_sentinel h4 gRan gRanT Tryz.underlying55 rowErr Tryz.underlying114 Tryz.underlying116 rfl rfl Tryz.underlying9 cErr cStr
  obtain ⟨a0, s0, hv0, -, -, -⟩ := laid_sentinel h4.tail gSyn gSynT Tryz.underlying55 rowErr Tryz.underlying114 Tryz.underlying116 rfl rfl Tryz.underlying9 cErr cStr
  refine ⟨?_, ⟨_, _, hv0⟩, ⟨_, _, hv1⟩, ?_⟩
  · exact cell_of_shapedOpen_int (zero := #[.int .i64 0]) (t := 3) hs (of_decide_eq_true (by kernel_rfl)) (by kernel_rfl) rfl (by kernel_rfl) (by kernel_rfl) Tryz.underlying3
  · exact Lib.tabIs_of_head (k := .u64) (zs := Lib.pow10Tab) gPow gPowT Tryz.underlying103 Tryz.underlying87 cU64 cPow h2

/-! A world for the witness: the settled one, each listed variable as its initialiser lays it. -/
def synS : ByteArray := ⟨#[105, 110, 118, 97, 108, 105, 100, 32, 115, 121, 110, 116, 97, 120]⟩
def rngS : ByteArray := ⟨#[118, 97, 108, 117, 101, 32, 111, 117, 116, 32, 111, 102, 32, 114, 97, 110, 103, 101]⟩
/-- So many blocks has the settled world. -/
noncomputable def low : Nat := (World.holding Tryz.prog default ⟨#[], #[], []⟩).heap.size
def relay (cs : Array Value) : Obj → Obj
  | .cells _ t frozen => .cells cs t frozen
  | o => o
def pows : Array Value := (Lib.pow10Tab.map fun z => Value.int .u64 z).toArray
def nums8 (l : List Int) : Array Value := (l.map fun z => Value.int .u8 z).toArray
def tab32 : Array Value := nums8 [0, 1, 28, 2, 29, 14, 24, 3, 30, 22, 20, 15, 25, 17, 4, 8, 31, 27, 13, 23, 21, 19, 16, 7, 26, 12, 18, 6, 11, 5, 10, 9]
def tab64 : Array Value := nums8 [0, 1, 56, 2, 57, 49, 28, 3, 61, 58, 42, 50, 38, 29, 17, 4, 62, 47, 59, 36, 45, 43, 51, 22, 53, 39, 33, 30, 24, 18, 12, 5, 63, 55, 48, 27, 60, 41, 37, 16, 46, 35, 44, 21, 52, 32, 23, 11, 54, 26, 40, 15, 34, 20, 31, 10, 25, 14, 19, 9, 13, 8, 7, 6]
def accs : Array Value := nums8 [128, 191, 160, 191, 128, 159, 144, 191, 128, 143, 0, 0, 0, 0, 0, 0, 0, 0, 0, 0, 0, 0, 0, 0, 0, 0, 0, 0, 0, 0, 0, 0]
def firsts : Array Value := nums8 Lib.firstTab
noncomputable def laidWorld (os : Os) : World :=
  let w0 := World.holding Tryz.prog os ⟨#[.cells #[.string synS] 116, .cells #[.string rngS] 116], #[], []⟩
  { w0 with heap := ((((((w0.heap.modify 1 (relay #[.iface 114 (.pointer (some ⟨low, 0, none⟩))])).modify 2 (relay #[.iface 114 (.pointer (some ⟨low + 1, 0, none⟩))])).modify 3 (relay pows)).modify 4 (relay firsts)).modify 5 (relay accs)).modify 6 (relay tab32)).modify 7 (relay tab64) }
set_option maxRecDepth 100000 in
theorem laid_met (os : Os) : laidMet Tryz.prog laid ((laidWorld os).forCall (fun _ _ => 0) ⟨#[], #[], []⟩).memory :=
  laidMet_of_run3 8 (by kernel_rfl) (by kernel_rfl) (by kernel_rfl)
end Go.Proofs.YtbecemdehelooaaGreatDoor.FeedL
