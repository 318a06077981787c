/- FnExactNumText of the given program answers true at every int64; the listed tables hold what the program's text lays. -/
import Derived.Test.YtiglmmofapcefaaDoorLNumText
import Derived.Test.YtiglmmofapcefaaDoorQx3
import Derived.Test.YtiglmmofapcefaaDoorQx0
namespace Go.Proofs.YtiglmmofapcefaaDoor.Q
open Go.RowKit Go.Proofs.YtiglmmofapcefaaDoorW.PrintWords Go.Proofs.YtiglmmofapcefaaDoorW.PrintLast Go.Proofs.YtiglmmofapcefaaDoorW.PrintMore
set_option linter.unusedVariables false
set_option linter.unusedSimpArgs false

theorem FnExactNumText : ∀ (a0 : Int), (Lit.int .i64 a0).wf = true → ∃ k, laws_FnExactNumText.f k a0 = some true := by
  intro n _
  refine ⟨100, ?_⟩
  unfold laws_FnExactNumText.f
  rw [spec_NumText_at n 100 (by omega), impl_NumText_at n]
  simp
end Go.Proofs.YtiglmmofapcefaaDoor.Q
