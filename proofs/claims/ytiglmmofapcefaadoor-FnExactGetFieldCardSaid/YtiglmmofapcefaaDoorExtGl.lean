/- What the listed tables hold, as the printed functions hand it on: internal/strconv.uint64pow10 holds the powers of ten; kept by whatever lies behind the heap. -/
import Derived.Test.YtiglmmofapcefaaDoorProg
import Derived.KernelRfl
import Derived.Below
import Derived.Lib.LaidTab
import Derived.Lib.SmallJoins
import Derived.Lib.AppendIntMem
namespace Go.Proofs.YtiglmmofapcefaaDoor.Q
open Go.RowKit
theorem gPow : Tryd.prog.globalNamed "internal/strconv.uint64pow10" = some 3 := by kernel_rfl
def GLW (w : World) : Prop := Lib.TabIs Tryd.prog w "internal/strconv.uint64pow10" .u64 Lib.pow10Tab
theorem GLW_below {w W : World} (h : GLW w) (b : Below w.heap.size w W) : GLW W := Joins.tab_stays gPow h b (Nat.le_refl _)
end Go.Proofs.YtiglmmofapcefaaDoor.Q
