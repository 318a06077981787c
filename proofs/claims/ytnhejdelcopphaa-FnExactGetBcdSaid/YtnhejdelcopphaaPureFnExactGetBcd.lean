/- FnExactGetBcd of the given program answers true at every slice of bytes and all int64 places and sizes. -/
import Derived.Test.YtnhejdelcopphaaLGetBcdImpl
import Derived.Test.YtnhejdelcopphaaLToByteS
import Derived.Test.YtnhejdelcopphaaLEqByteS
import Derived.Test.YtnhejdelcopphaaQx8
import Derived.Test.YtnhejdelcopphaaQx0
namespace Go.Proofs.Ytnhejdelcopphaa.Q
open Go.RowKit Go.Proofs.YtnhejdelcopphaaW.PrintWords Go.Proofs.YtnhejdelcopphaaW.PrintLast Go.Proofs.YtnhejdelcopphaaW.PrintMore
set_option linter.unusedVariables false
set_option linter.unusedSimpArgs false

theorem FnExactGetBcd : ∀ (l0 : List Int) (a1 a2 : Int), l0.length ≤ maxLen → l0.length * 1 ≤ 140737488351232 → (∀ x ∈ l0, (Lit.int .u8 x).wf = true) → (Lit.int .i64 a1).wf = true → (Lit.int .i64 a2).wf = true → ∃ k, laws_FnExactGetBcd.f k l0 a1 a2 = some true := by
  intro l a1 a2 _ _ hw w1 w2
  have hb : ∀ c ∈ l, isByte c := fun c hc => wf_u8 (hw c hc)
  by_cases hl : (l.length : Int) > 1048576
  · exact ⟨0, by unfold laws_FnExactGetBcd.f; rw [if_pos hl]⟩
  refine ⟨l.length + 300, ?_⟩
  have t1 := toByteS_at l (by omega)
  have t2 := eqByteS_self l (by omega)
  have g1 := spec_GetBcd_at l (by omega) hb a1 a2 (wf_i64 w1) (wf_i64 w2)
  have g2 := impl_GetBcd_at l (by omega) hb a1 a2 (wf_i64 w1) (wf_i64 w2)
  unfold laws_FnExactGetBcd.f
  rw [if_neg hl]
  simp (disch := omega) only [t1, t2, g1, g2, Option.bind_some, if_true, bne_self_eq_false]
  rw [laws_FnExactGetBcd.j0]
  simp (disch := omega) only [t1, t2, Option.bind_some, if_true, Bool.false_eq_true, if_false]
end Go.Proofs.Ytnhejdelcopphaa.Q
