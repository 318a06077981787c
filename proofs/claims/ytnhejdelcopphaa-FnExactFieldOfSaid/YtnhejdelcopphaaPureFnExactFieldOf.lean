/- FnExactFieldOf of the given program answers true at every message and every int64. -/
import Derived.Test.YtnhejdelcopphaaLMsgSz
import Derived.Test.YtnhejdelcopphaaLMsgTo
import Derived.Test.YtnhejdelcopphaaLMsgEq
import Derived.Test.YtnhejdelcopphaaQx19
import Derived.Test.YtnhejdelcopphaaQx22
import Derived.Test.YtnhejdelcopphaaQx17
import Derived.Test.YtnhejdelcopphaaQx0
namespace Go.Proofs.Ytnhejdelcopphaa.Q
open Go.RowKit Go.Proofs.YtnhejdelcopphaaW.PrintWords Go.Proofs.YtnhejdelcopphaaW.PrintLast Go.Proofs.YtnhejdelcopphaaW.PrintMore
set_option linter.unusedVariables false
set_option linter.unusedSimpArgs false

theorem fieldOf_same : ∀ (k : Nat) (x : Int) (l : List IF) (n i : Int), impl_FieldOf.l0 k x l n i = spec_FieldOf.l0 k x l n i := by
  intro k
  induction k with
  | zero => intro x l n i; rfl
  | succ k ih => intro x l n i; simp only [impl_FieldOf.l0, spec_FieldOf.l0, ih]

theorem fieldOf_l (x : Int) (l : List IF) (hl : l.length ≤ 10000000) : ∀ (d n k : Nat), n + d = l.length → d < k → ∃ r, spec_FieldOf.l0 k x l (l.length : Int) (n : Int) = some r := by
  intro d
  induction d with
  | zero =>
    intro n k hd hk
    obtain ⟨k, rfl⟩ : ∃ m, k = m + 1 := ⟨k - 1, by omega⟩
    have c1 : ¬ (n : Int) < (l.length : Int) := by omega
    simp only [spec_FieldOf.l0, if_neg c1]
    exact ⟨_, rfl⟩
  | succ d ih =>
    intro n k hd hk
    obtain ⟨k, rfl⟩ : ∃ m, k = m + 1 := ⟨k - 1, by omega⟩
    have c1 : (n : Int) < (l.length : Int) := by omega
    have c2 : 0 ≤ (n : Int) := by omega
    simp only [spec_FieldOf.l0, if_pos c1, if_pos c2, w64s (n := n) (by omega)]
    split
    · exact ⟨_, rfl⟩
    · exact ih (n + 1) k (by omega) (by omega)

theorem FnExactFieldOf : ∀ (m : ByteArray) (l : List LF) (a1 : Int), m.size ≤ 9223372036854775807 → l.length ≤ 9223372036854775807 → (∀ f ∈ l, f.f1.size ≤ 9223372036854775807 ∧ (Lit.int .i64 f.f0).wf = true) → (Lit.int .i64 a1).wf = true → ∃ k, laws_FnExactFieldOf.f k m l a1 = some true := by
  intro m l a1 hm hl hf _
  obtain ⟨r, s1, hr⟩ := szMsg_at m l hm hl (fun f h => (hf f h).1) 1048576 (by omega) (by omega)
  refine ⟨l.length + 100, ?_⟩
  unfold laws_FnExactFieldOf.f
  rw [s1 _ (by omega), Option.bind_some]
  rcases hr with hr | ⟨q0, _, q1, q2, q3⟩
  · rw [if_pos hr]
  have q : ¬ r < 0 := by omega
  rw [if_neg q]
  have g0 := toMsg_at m l (by omega)
  obtain ⟨v, g1⟩ := fieldOf_l a1 (l.map conv) (by simpa using by omega) (l.map conv).length 0 ((l.map conv).length + 1) (by omega) (by omega)
  have hz : (l.map conv).length = l.length := by simp
  have g2 : ∀ k, l.length < k → spec_FieldOf.f k m (l.map conv) a1 = some v := fun k hk => later (g := fun k => spec_FieldOf.f k m (l.map conv) a1) (fun k => spec_FieldOf.mono m (l.map conv) a1 k) (k0 := (l.map conv).length + 1) g1 k (by omega)
  have g3 : ∀ k, l.length < k → impl_FieldOf.f k m (l.map conv) a1 = some v := fun k hk => by unfold impl_FieldOf.f; rw [fieldOf_same]; exact g2 k hk
  have g4 := eqMsg_self m (l.map conv) (by omega)
  simp (disch := omega) only [g0, g2, g3, Option.bind_some, if_true, bne_self_eq_false]
  rw [laws_FnExactFieldOf.j0]
  simp (disch := omega) only [g0, g4, Option.bind_some, if_true, Bool.false_eq_true, if_false]
end Go.Proofs.Ytnhejdelcopphaa.Q
