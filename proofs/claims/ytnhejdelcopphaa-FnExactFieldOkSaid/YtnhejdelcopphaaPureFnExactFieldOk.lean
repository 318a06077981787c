/- FnExactFieldOk of the given program answers true at every int64 and every string. -/
import Derived.Test.YtnhejdelcopphaaLFieldOk
import Derived.Test.YtnhejdelcopphaaQx41
import Derived.Test.YtnhejdelcopphaaQx0
namespace Go.Proofs.Ytnhejdelcopphaa.Q
open Go.RowKit Go.Proofs.YtnhejdelcopphaaW.PrintWords Go.Proofs.YtnhejdelcopphaaW.PrintLast Go.Proofs.YtnhejdelcopphaaW.PrintMore
set_option linter.unusedVariables false
set_option linter.unusedSimpArgs false

theorem FnExactFieldOk : ∀ (a0 : Int) (a1 : ByteArray), (Lit.int .i64 a0).wf = true → a1.size ≤ 140737488351232 → ∃ k, laws_FnExactFieldOk.f k a0 a1 = some true := by
  intro x s _ hs
  refine ⟨s.size + 100, ?_⟩
  unfold laws_FnExactFieldOk.f
  rw [spec_FieldOk_at x s hs _ (by omega), impl_FieldOk_at x s hs _ (by omega)]
  simp
end Go.Proofs.Ytnhejdelcopphaa.Q
