/- The program's ReplyMti and the reference's answer alike for every string. -/
import Derived.Test.YtjihbihhandapaaLReplyMti
import Derived.Test.YtjihbihhandapaaQx17
import Derived.Test.YtjihbihhandapaaQx0
namespace Go.Proofs.Ytjihbihhandapaa.Q
open Go.RowKit Go.Proofs.YtjihbihhandapaaW.PrintWords Go.Proofs.YtjihbihhandapaaW.PrintLast Go.Proofs.YtjihbihhandapaaW.PrintMore
set_option linter.unusedVariables false
set_option linter.unusedSimpArgs false

theorem FnExactReplyMti : ∀ (a0 : ByteArray), a0.size ≤ 140737488351232 → ∃ k, laws_FnExactReplyMti.f k a0 = some true := by
  intro s _
  by_cases hl : (s.size : Int) > 1048576
  · exact ⟨0, by unfold laws_FnExactReplyMti.f; rw [if_pos hl]⟩
  refine ⟨s.size + 10, ?_⟩
  unfold laws_FnExactReplyMti.f
  rw [if_neg hl, spec_ReplyMti_at s (by omega) _ (by omega), impl_ReplyMti_at s (by omega) _ (by omega)]
  simp
end Go.Proofs.Ytjihbihhandapaa.Q
