/- What the listed variables hold, for a function that comes to strconv.Atoi's errors: the powers of ten, and an error in each of the two sentinels; kept by whatever lies behind the heap. -/
import Derived.Test.YtiglmmofapcefaaDoorExtGl
import Derived.Stop.LaidErr
import Derived.WalkSmall
namespace Go.Proofs.YtiglmmofapcefaaDoor.Q
open Go.RowKit
theorem gSyn : Tryd.prog.globalNamed "strconv.ErrSyntax" = some 0 := by kernel_rfl
theorem gRng : Tryd.prog.globalNamed "strconv.ErrRange" = some 1 := by kernel_rfl
structure GLS (w : World) : Prop where
  tab : GLW w
  syn : ∃ tp p, w.var? Tryd.prog "strconv.ErrSyntax" = some #[.iface tp p]
  rng : ∃ tp p, w.var? Tryd.prog "strconv.ErrRange" = some #[.iface tp p]
  low : 0 < w.heap.size ∧ 1 < w.heap.size
theorem GLS_below {w W : World} (h : GLS w) (b : Below w.heap.size w W) : GLS W := by
  obtain ⟨t1, p1, h1⟩ := h.syn
  obtain ⟨t2, p2, h2⟩ := h.rng
  have hz := b.size
  exact ⟨GLW_below h.tab b, ⟨t1, p1, var?_below b gSyn h.low.1 h1⟩, ⟨t2, p2, var?_below b gRng h.low.2 h2⟩, by have := h.low; omega⟩
end Go.Proofs.YtiglmmofapcefaaDoor.Q
