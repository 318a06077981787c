/- FnExactRingOk of the given program answers true at every ring. -/
import Derived.Test.YtnhejdelcopphaaLRingOk
import Derived.Test.YtnhejdelcopphaaQx34
import Derived.Test.YtnhejdelcopphaaQx33
import Derived.Test.YtnhejdelcopphaaQx27
import Derived.Test.YtnhejdelcopphaaQx29
import Derived.Test.YtnhejdelcopphaaQx0
namespace Go.Proofs.Ytnhejdelcopphaa.Q
open Go.RowKit Go.Proofs.YtnhejdelcopphaaW.PrintWords Go.Proofs.YtnhejdelcopphaaW.PrintLast Go.Proofs.YtnhejdelcopphaaW.PrintMore
set_option linter.unusedVariables false
set_option linter.unusedSimpArgs false

theorem szI_at (u : List Int) (x : Int) (hu : u.length ≤ 9223372036854775807) (h0 : 0 ≤ x) (h1 : x ≤ 1048576) : laws_szIntS.f u x = some (if (u.length : Int) ≤ x then x - u.length else -1) := by
  unfold laws_szIntS.f
  have e : wrap64 (x - (u.length : Int)) = x - (u.length : Int) := by unfold wrap64; omega
  rw [e]
  by_cases q : (u.length : Int) ≤ x
  · rw [if_neg (by omega), if_pos q]
  · rw [if_pos (by omega), if_neg q]

theorem szRing_at (a b : Int) (l m : List Int) (hl : l.length ≤ 9223372036854775807) (hm : m.length ≤ 9223372036854775807) : ∃ r : Int, laws_szRing.f a b l m 1048576 = some r ∧ (r < 0 ∨ (0 ≤ r ∧ l.length ≤ 1048576 ∧ m.length ≤ 1048576)) := by
  unfold laws_szRing.f
  rw [szI_at l 1048576 hl (by omega) (by omega), Option.bind_some]
  by_cases q1 : (l.length : Int) ≤ 1048576
  · rw [if_pos q1, if_neg (by omega), szI_at m _ hm (by omega) (by omega), Option.bind_some]
    by_cases q2 : (m.length : Int) ≤ 1048576 - (l.length : Int)
    · rw [if_pos q2, if_neg (by omega)]
      exact ⟨_, rfl, .inr (by omega)⟩
    · rw [if_neg q2, if_pos (by omega)]
      exact ⟨_, rfl, .inl (by omega)⟩
  · rw [if_neg q1, if_pos (by omega)]
    exact ⟨_, rfl, .inl (by omega)⟩

theorem FnExactRingOk : ∀ (a b : Int) (l m : List Int), (Lit.int .i64 a).wf = true → (Lit.int .i64 b).wf = true → l.length ≤ 9223372036854775807 → (∀ n ∈ l, (Lit.int .i64 n).wf = true) → m.length ≤ 9223372036854775807 → (∀ n ∈ m, (Lit.int .i64 n).wf = true) → ∃ k, laws_FnExactRingOk.f k a b l m = some true := by
  intro a b l m _ _ hl _ hm _
  obtain ⟨r, s1, hr⟩ := szRing_at a b l m hl hm
  obtain ⟨K, hK⟩ : ∃ K, K = l.length + m.length + 100 := ⟨_, rfl⟩
  refine ⟨K, ?_⟩
  unfold laws_FnExactRingOk.f
  rw [s1, Option.bind_some]
  rcases hr with hr | ⟨hr, q1, q2⟩
  · rw [if_pos hr]
  have t1 := toIntS_at l (by omega) K (by omega)
  have t2 := toIntS_at m (by omega) K (by omega)
  have t3 : laws_toRing.f K a b l m = some (a, b, l, m) := by
    unfold laws_toRing.f
    rw [t1, Option.bind_some, t2, Option.bind_some]
  have g1 := spec_RingOk_at a b l m (by omega) (by omega) K (by omega)
  have g2 := impl_RingOk_at a b l m (by omega) (by omega) K (by omega)
  have e1 := eqIntS_self l (by omega) K (by omega)
  have e2 := eqIntS_self m (by omega) K (by omega)
  have e3 : laws_eqRing.f K a b l m a b l m = some true := by
    unfold laws_eqRing.f
    rw [if_pos rfl, if_pos rfl, e1, Option.bind_some, if_pos rfl, e2, Option.bind_some, if_pos rfl]
  clear hK hl hm q1 q2 s1
  rw [if_neg (by omega), t3, Option.bind_some]
  simp only
  rw [g1, Option.bind_some]
  simp only [t3, g2, e3, Option.bind_some, bne_self_eq_false, Bool.false_eq_true, if_false, if_true]
end Go.Proofs.Ytnhejdelcopphaa.Q
