/- FnExactWithoutField of the given program answers true at every message and every int64. -/
import Derived.Test.YtnhejdelcopphaaLMsgSz
import Derived.Test.YtnhejdelcopphaaLMsgTo
import Derived.Test.YtnhejdelcopphaaLMsgEq
import Derived.Test.YtnhejdelcopphaaLMsgMark
import Derived.Test.YtnhejdelcopphaaLWithoutField
import Derived.Test.YtnhejdelcopphaaQx48
import Derived.Test.YtnhejdelcopphaaQx0
namespace Go.Proofs.Ytnhejdelcopphaa.Q
open Go.RowKit Go.Proofs.YtnhejdelcopphaaW.PrintWords Go.Proofs.YtnhejdelcopphaaW.PrintLast Go.Proofs.YtnhejdelcopphaaW.PrintMore
set_option linter.unusedVariables false
set_option linter.unusedSimpArgs false

theorem FnExactWithoutField : ∀ (m : ByteArray) (l : List LF) (a1 : Int), m.size ≤ 9223372036854775807 → l.length ≤ 9223372036854775807 → (∀ f ∈ l, f.f1.size ≤ 9223372036854775807 ∧ (Lit.int .i64 f.f0).wf = true) → (Lit.int .i64 a1).wf = true → ∃ k, laws_FnExactWithoutField.f k m l a1 = some true := by
  intro m l a1 hm hl hf _
  obtain ⟨r, s1, hr⟩ := szMsg_at m l hm hl (fun f h => (hf f h).1) 1048576 (by omega) (by omega)
  refine ⟨l.length + 100, ?_⟩
  unfold laws_FnExactWithoutField.f
  rw [s1 _ (by omega), Option.bind_some]
  rcases hr with hr | ⟨q0, _, q1, q2, q3⟩
  · rw [if_pos hr]
  have q : ¬ r < 0 := by omega
  rw [if_neg q]
  have g0 := toMsg_at m l (by omega)
  have hz : (l.map conv).length = l.length := by simp
  have hz2 := without_length (l.map conv) a1
  have g1 := spec_WithoutField_at m (l.map conv) a1 (by omega)
  have g2 := impl_WithoutField_at m (l.map conv) a1 (by omega)
  generalize without (l.map conv) a1 = v at g1 g2 hz2
  have g3 := eqMsg_self m v (by omega)
  have g4 := eqMsg_self m (l.map conv) (by omega)
  obtain ⟨y, hy, m2⟩ := markMsg_held m (l.map conv) (by omega) 1 (by omega) (by omega)
  have m3 := fun k hk => (m2 k hk).1
  obtain ⟨z, hz3, n2⟩ := markMsg_held m v (by omega) 1 (by omega) (by omega)
  have n3 := fun k hk => (n2 k hk).1
  have n4 := fun k hk => (n2 k hk).2
  have p1 : ¬ (1 + 2 * ((l.map conv).length : Int)) < 0 := by omega
  have p2 : ¬ (1 + 2 * (v.length : Int)) < 0 := by omega
  simp (disch := omega) only [g0, g1, g2, g3, g4, m3, if_neg p1, Option.bind_some, if_true, Bool.not_true]
  rw [laws_FnExactWithoutField.j0]
  simp (disch := omega) only [g0, g2, g3, n3, n4, if_neg p2, Option.bind_some, if_true, Bool.false_eq_true, if_false]
end Go.Proofs.Ytnhejdelcopphaa.Q
