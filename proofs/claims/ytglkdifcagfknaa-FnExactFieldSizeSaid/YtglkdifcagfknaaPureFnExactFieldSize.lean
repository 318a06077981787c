/- The program's FieldSize and the reference's answer alike for every int. -/
import Derived.Test.YtglkdifcagfknaaLRowOf
import Derived.Test.YtglkdifcagfknaaLSpecSize
import Derived.Test.YtglkdifcagfknaaQx3
import Derived.Test.YtglkdifcagfknaaQx0
namespace Go.Proofs.Ytglkdifcagfknaa.Q
open Go.RowKit Go.Proofs.YtglkdifcagfknaaW.PrintWords Go.Proofs.YtglkdifcagfknaaW.PrintLast Go.Proofs.YtglkdifcagfknaaW.PrintMore
set_option linter.unusedVariables false
set_option linter.unusedSimpArgs false

theorem FnExactFieldSize : ∀ (a0 : Int), (Lit.int .i64 a0).wf = true → ∃ k, laws_FnExactFieldSize.f k a0 = some true := by
  intro x _
  refine ⟨20, ?_⟩
  unfold laws_FnExactFieldSize.f
  rw [spec_FieldSize_at x 20 (by omega), impl_FieldSize_at x 20 (by omega)]
  simp
end Go.Proofs.Ytglkdifcagfknaa.Q
