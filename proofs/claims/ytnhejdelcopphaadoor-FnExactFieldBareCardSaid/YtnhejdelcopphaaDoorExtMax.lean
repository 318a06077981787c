/- What the printed functions hand on: internal/bytealg.MaxLen holds an int; kept by whatever lies behind the heap. -/
import Derived.Test.YtnhejdelcopphaaDoorProg
import Derived.KernelRfl
import Derived.Below
namespace Go.Proofs.YtnhejdelcopphaaDoor.Q
open Go.RowKit
structure GLW (w : World) : Prop where
  len : ∃ m, w.cell? ⟨0, 0, none⟩ = some (.int .i64 m)
theorem GLW_below {w W : World} (h : GLW w) (b : Below w.heap.size w W) : GLW W := by
  obtain ⟨m, hm⟩ := h.len
  exact ⟨m, (b.cell (p := ⟨0, 0, none⟩) (block_lt_of_cell hm)).trans hm⟩
end Go.Proofs.YtnhejdelcopphaaDoor.Q
