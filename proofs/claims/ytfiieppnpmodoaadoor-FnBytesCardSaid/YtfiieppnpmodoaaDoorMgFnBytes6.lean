/- Texts for FnBytes, packed by a program of this session (wip/pack.py), part 6 of 7: the print's words that are used, the printed walks, the plain laws, the row; no condition. -/
import Derived.Test.YtfiieppnpmodoaaDoorMgFnBytes5
import Derived.Test.YtfiieppnpmodoaaDoorRows
import Derived.LaidLaws
import Derived.Stop.LaidErr
import Derived.ChangeMaps5
section
/- The start that fits a row that lists the three tables and the two sentinels of strconv, and what the rows' list gives the walks: for rows of tied cards. -/
namespace Go.Proofs.YtfiieppnpmodoaaDoor.Laid
open Go.ChangeShapes Go.WideShapes Go.ChangeAt Go.RowKit
def valsOf (d : DataW Unit) : Array Value := match d with
  | .agg l => (l.map fun | .lit (.int k z) => Value.int k z | _ => .bool false).toArray
  | _ => #[]
def put (d : DataW Unit) : Obj → Obj
  | .cells _ t frozen => .cells (valsOf d) t frozen
  | o => o
def point (b : Nat) : Obj → Obj
  | .cells _ t frozen => .cells #[.iface 151 (.pointer (some ⟨b, 0, none⟩))] t frozen
  | o => o
abbrev synS : ByteArray := { data := #[105, 110, 118, 97, 108, 105, 100, 32, 115, 121, 110, 116, 97, 120] }
abbrev rngS : ByteArray := { data := #[118, 97, 108, 117, 101, 32, 111, 117, 116, 32, 111, 102, 32, 114, 97, 110, 103, 101] }
/-- So many blocks has the settled world. -/
noncomputable def low : Nat := (World.holding Tryd.prog default ⟨#[], #[], []⟩).heap.size
/-- The settled world with the three tables laid, and two blocks more for the sentinels. -/
noncomputable def world (os : Os) : World :=
  let w0 := World.holding Tryd.prog os ⟨#[.cells #[.string synS] 153, .cells #[.string rngS] 153], #[], []⟩
  { w0 with heap := ((((w0.heap.modify 3 (put Rows.laid_internal_strconv_uint64pow10)).modify 4 (put Rows.laid_math_bits_deBruijn32tab)).modify 5 (put Rows.laid_math_bits_deBruijn64tab)).modify 1 (point low)).modify 2 (point (low + 1)) }
abbrev list5 : List (String × DataW Unit) := [("math/bits.deBruijn32tab", Rows.laid_math_bits_deBruijn32tab), ("math/bits.deBruijn64tab", Rows.laid_math_bits_deBruijn64tab), ("internal/strconv.uint64pow10", Rows.laid_internal_strconv_uint64pow10), ("strconv.ErrRange", Rows.laid_strconv_ErrRange), ("strconv.ErrSyntax", Rows.laid_strconv_ErrSyntax)]
set_option maxRecDepth 100000 in
theorem met (os : Os) (args : Array Value) : laidMet Tryd.prog list5 ((world os).forCall (fun _ _ => 0) ⟨#[], args, []⟩).memory :=
  laidMet_of_run' 100 (by kernel_rfl) (by kernel_rfl)
theorem gPowType : (Tryd.prog.globals[3]?).map (·.type) = some 147 := by kernel_rfl
theorem gl {W : World} (h : laidMet Tryd.prog list5 W) : Q.GLW W :=
  Lib.tabIs_of_head Q.gPow gPowType Tryd.underlying147 Tryd.underlying120 (by kernel_rfl) (by kernel_rfl) (show laidMet Tryd.prog (("internal/strconv.uint64pow10", Lib.tabData .u64 Lib.pow10Tab) :: _) W from h.tail.tail)
end Go.Proofs.YtfiieppnpmodoaaDoor.Laid
end
