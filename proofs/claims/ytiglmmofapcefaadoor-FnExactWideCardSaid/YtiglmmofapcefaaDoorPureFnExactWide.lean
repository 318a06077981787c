/- FnExactWide of the given program answers true at every two int64; the listed tables hold what the program's text lays. -/
import Derived.Test.YtiglmmofapcefaaDoorLWide
import Derived.Test.YtiglmmofapcefaaDoorQx5
import Derived.Test.YtiglmmofapcefaaDoorQx0
namespace Go.Proofs.YtiglmmofapcefaaDoor.Q
open Go.RowKit Go.Proofs.YtiglmmofapcefaaDoorW.PrintWords Go.Proofs.YtiglmmofapcefaaDoorW.PrintLast Go.Proofs.YtiglmmofapcefaaDoorW.PrintMore
set_option linter.unusedVariables false
set_option linter.unusedSimpArgs false

theorem FnExactWide : ∀ (a0 a1 : Int), (Lit.int .i64 a0).wf = true → (Lit.int .i64 a1).wf = true → ∃ k, laws_FnExactWide.f k a0 a1 = some true := by
  intro n w hn _
  obtain ⟨h0, h1⟩ := wf_i64 hn
  refine ⟨100, ?_⟩
  unfold laws_FnExactWide.f
  rw [spec_Wide_at n w h1 100 (by omega), impl_Wide_at n w h0 h1]
  simp
end Go.Proofs.YtiglmmofapcefaaDoor.Q
