/- FnExactGetBits of the given program answers true at every slice of bytes and every int64 place. -/
import Derived.Test.YtnhejdelcopphaaLGetBits
import Derived.Test.YtnhejdelcopphaaLToByteS
import Derived.Test.YtnhejdelcopphaaLEqByteS
import Derived.Test.YtnhejdelcopphaaLEqIntS
import Derived.Test.YtnhejdelcopphaaLMarkIntS
import Derived.Test.YtnhejdelcopphaaLMarkByteO
import Derived.Test.YtnhejdelcopphaaQx15
import Derived.Test.YtnhejdelcopphaaQx0
namespace Go.Proofs.Ytnhejdelcopphaa.Q
open Go.RowKit Go.Proofs.YtnhejdelcopphaaW.PrintWords Go.Proofs.YtnhejdelcopphaaW.PrintLast Go.Proofs.YtnhejdelcopphaaW.PrintMore
set_option linter.unusedVariables false
set_option linter.unusedSimpArgs false

theorem getBits_short (l : List Int) (a1 : Int) : (getBits l a1).1.length ≤ 64 := by
  unfold getBits
  split
  · exact bitsOf_length _ _
  · simp

theorem FnExactGetBits : ∀ (l0 : List Int) (a1 : Int), l0.length ≤ maxLen → l0.length * 1 ≤ 140737488351232 → (∀ x ∈ l0, (Lit.int .u8 x).wf = true) → (Lit.int .i64 a1).wf = true → ∃ k, laws_FnExactGetBits.f k l0 a1 = some true := by
  intro l a1 _ _ hw w1
  have hb : ∀ c ∈ l, isByte c := fun c hc => wf_u8 (hw c hc)
  by_cases hl : (l.length : Int) > 1048576
  · exact ⟨0, by unfold laws_FnExactGetBits.f; rw [if_pos hl]⟩
  refine ⟨l.length + 1000, ?_⟩
  have t1 := toByteS_at l (by omega)
  have t2 := eqByteS_self l (by omega)
  have g1 := spec_GetBits_at l (by omega) hb a1 (wf_i64 w1)
  have g2 := impl_GetBits_at l (by omega) hb a1 (wf_i64 w1)
  have hz := getBits_short l a1
  generalize getBits l a1 = r at g1 g2 hz
  have t3 := eqIntS_self r.1 (by omega)
  obtain ⟨y, hy, m2⟩ := markByteS_marks l (by omega) 1 (by omega) (by omega)
  have m3 := m2
  obtain ⟨z, hz1, n2⟩ := markIntS_held r.1 (by omega) 1 (by omega) (by omega)
  have n3 := fun k hk => (n2 k hk).1
  have n4 := fun k hk => (n2 k hk).2
  have q1 : ¬ (1 + (l.length : Int)) < 0 := by omega
  have q2 : ¬ (1 + (r.1.length : Int)) < 0 := by omega
  unfold laws_FnExactGetBits.f
  rw [if_neg hl]
  simp (disch := omega) only [t1, t2, t3, g1, g2, Option.bind_some, if_true, bne_self_eq_false]
  rw [laws_FnExactGetBits.j0]
  simp (disch := omega) only [t1, t2, t3, m3, if_neg q1, Option.bind_some, if_true, Bool.false_eq_true, if_false, bne_self_eq_false]
  rw [laws_FnExactGetBits.j1]
  simp (disch := omega) only [t1, g2, t3, n3, n4, if_neg q2, Option.bind_some, if_true, Bool.false_eq_true, if_false, bne_self_eq_false]
  rw [laws_FnExactGetBits.j2]
  simp (disch := omega) only [n4, Option.bind_some, if_true, if_neg q2, Bool.false_eq_true, if_false]
end Go.Proofs.Ytnhejdelcopphaa.Q
