/- The program's Digits and the reference's answer alike for every string. -/
import Derived.Test.YtjihbihhandapaaLDigits
import Derived.Test.YtjihbihhandapaaQx7
import Derived.Test.YtjihbihhandapaaQx0
namespace Go.Proofs.Ytjihbihhandapaa.Q
open Go.RowKit Go.Proofs.YtjihbihhandapaaW.PrintWords Go.Proofs.YtjihbihhandapaaW.PrintLast Go.Proofs.YtjihbihhandapaaW.PrintMore
set_option linter.unusedVariables false
set_option linter.unusedSimpArgs false

theorem FnExactDigits : ∀ (a0 : ByteArray), a0.size ≤ 140737488351232 → ∃ k, laws_FnExactDigits.f k a0 = some true := by
  intro s hs
  refine ⟨s.size + 1, ?_⟩
  unfold laws_FnExactDigits.f
  rw [spec_Digits_at s hs _ (by omega), impl_Digits_at s hs _ (by omega)]
  simp
end Go.Proofs.Ytjihbihhandapaa.Q
