/- The program's Luhn and the reference's answer alike for every string. -/
import Derived.Test.YtglkdifcagfknaaLLuhn
import Derived.Test.YtglkdifcagfknaaQx4
import Derived.Test.YtglkdifcagfknaaQx0
namespace Go.Proofs.Ytglkdifcagfknaa.Q
open Go.RowKit Go.Proofs.YtglkdifcagfknaaW.PrintWords Go.Proofs.YtglkdifcagfknaaW.PrintLast Go.Proofs.YtglkdifcagfknaaW.PrintMore
set_option linter.unusedVariables false
set_option linter.unusedSimpArgs false

theorem FnExactLuhn : ∀ (a0 : ByteArray), a0.size ≤ 140737488351232 → ∃ k, laws_FnExactLuhn.f k a0 = some true := by
  intro s _
  by_cases hl : (s.size : Int) > 1048576
  · exact ⟨0, by unfold laws_FnExactLuhn.f; rw [if_pos hl]⟩
  refine ⟨s.size + 10, ?_⟩
  unfold laws_FnExactLuhn.f
  rw [if_neg hl, spec_Luhn_at s (by omega) _ (by omega), impl_Luhn_at s (by omega) _ (by omega)]
  simp
end Go.Proofs.Ytglkdifcagfknaa.Q
