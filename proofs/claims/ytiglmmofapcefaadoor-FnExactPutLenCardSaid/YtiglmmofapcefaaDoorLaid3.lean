/- The start that fits a row that lists the three tables, and what the rows' list gives the walks: for rows of tied cards. -/
import Derived.Test.YtiglmmofapcefaaDoorRows
import Derived.Test.YtiglmmofapcefaaDoorExtGl
import Derived.LaidLaws
import Derived.Stop.LaidErr
import Derived.ChangeMaps5
namespace Go.Proofs.YtiglmmofapcefaaDoor.Laid
open Go.ChangeShapes Go.WideShapes Go.ChangeAt Go.RowKit
def valsOf (d : DataW Unit) : Array Value := match d with
  | .agg l => (l.map fun | .lit (.int k z) => Value.int k z | _ => .bool false).toArray
  | _ => #[]
def put (d : DataW Unit) : Obj → Obj
  | .cells _ t frozen => .cells (valsOf d) t frozen
  | o => o
/-- The settled world with the three tables laid. -/
noncomputable def world (os : Os) : World :=
  let w0 := World.holding Tryd.prog os ⟨#[], #[], []⟩
  { w0 with heap := ((w0.heap.modify 3 (put Rows.laid_internal_strconv_uint64pow10)).modify 4 (put Rows.laid_math_bits_deBruijn32tab)).modify 5 (put Rows.laid_math_bits_deBruijn64tab) }
abbrev list3 : List (String × DataW Unit) := [("math/bits.deBruijn32tab", Rows.laid_math_bits_deBruijn32tab), ("math/bits.deBruijn64tab", Rows.laid_math_bits_deBruijn64tab), ("internal/strconv.uint64pow10", Rows.laid_internal_strconv_uint64pow10)]
set_option maxRecDepth 100000 in
theorem met (os : Os) (args : Array Value) : laidMet Tryd.prog list3 ((world os).forCall (fun _ _ => 0) ⟨#[], args, []⟩).memory :=
  laidMet_of_run' 100 (by kernel_rfl) (by kernel_rfl)
theorem gPowType : (Tryd.prog.globals[3]?).map (·.type) = some 150 := by kernel_rfl
theorem gl {W : World} (h : laidMet Tryd.prog list3 W) : Q.GLW W :=
  Lib.tabIs_of_head Q.gPow gPowType Tryd.underlying150 Tryd.underlying125 (by kernel_rfl) (by kernel_rfl) (show laidMet Tryd.prog [("internal/strconv.uint64pow10", Lib.tabData .u64 Lib.pow10Tab)] W from h.tail.tail)
end Go.Proofs.YtiglmmofapcefaaDoor.Laid
