/- The program's FieldKind and the reference's answer alike for every int. -/
import Derived.Test.YtglkdifcagfknaaLRowOf
import Derived.Test.YtglkdifcagfknaaLSpecKind
import Derived.Test.YtglkdifcagfknaaQx1
import Derived.Test.YtglkdifcagfknaaQx0
namespace Go.Proofs.Ytglkdifcagfknaa.Q
open Go.RowKit Go.Proofs.YtglkdifcagfknaaW.PrintWords Go.Proofs.YtglkdifcagfknaaW.PrintLast Go.Proofs.YtglkdifcagfknaaW.PrintMore
set_option linter.unusedVariables false
set_option linter.unusedSimpArgs false

theorem FnExactFieldKind : ∀ (a0 : Int), (Lit.int .i64 a0).wf = true → ∃ k, laws_FnExactFieldKind.f k a0 = some true := by
  intro x _
  refine ⟨20, ?_⟩
  unfold laws_FnExactFieldKind.f
  rw [spec_FieldKind_at x 20 (by omega), impl_FieldKind_at x 20 (by omega)]
  simp
end Go.Proofs.Ytglkdifcagfknaa.Q
