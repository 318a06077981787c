/- The program's LuhnOk and the reference's answer alike for every string. -/
import Derived.Test.YtglkdifcagfknaaLLuhnOk
import Derived.Test.YtglkdifcagfknaaQx4
import Derived.Test.YtglkdifcagfknaaQx0
namespace Go.Proofs.Ytglkdifcagfknaa.Q
open Go.RowKit Go.Proofs.YtglkdifcagfknaaW.PrintWords Go.Proofs.YtglkdifcagfknaaW.PrintLast Go.Proofs.YtglkdifcagfknaaW.PrintMore
set_option linter.unusedVariables false
set_option linter.unusedSimpArgs false

theorem FnExactLuhnOk : ∀ (a0 : ByteArray), a0.size ≤ 140737488351232 → ∃ k, laws_FnExactLuhnOk.f k a0 = some true := by
  intro s _
  by_cases hl : (s.size : Int) > 1048576
  · exact ⟨0, by unfold laws_FnExactLuhnOk.f; rw [if_pos hl]⟩
  refine ⟨s.size + 10, ?_⟩
  unfold laws_FnExactLuhnOk.f
  rw [if_neg hl, spec_LuhnOk_at s (by omega) _ (by omega), impl_LuhnOk_at s (by omega) _ (by omega)]
  simp
end Go.Proofs.Ytglkdifcagfknaa.Q
