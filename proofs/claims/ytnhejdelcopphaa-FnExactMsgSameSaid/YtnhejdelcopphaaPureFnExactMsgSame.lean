/- FnExactMsgSame of the given program answers true at every two messages. -/
import Derived.Test.YtnhejdelcopphaaLMsgSz
import Derived.Test.YtnhejdelcopphaaLMsgTo
import Derived.Test.YtnhejdelcopphaaLMsgEq
import Derived.Test.YtnhejdelcopphaaQx24
import Derived.Test.YtnhejdelcopphaaQx25
import Derived.Test.YtnhejdelcopphaaQx26
import Derived.Test.YtnhejdelcopphaaQx23
import Derived.Test.YtnhejdelcopphaaQx0
namespace Go.Proofs.Ytnhejdelcopphaa.Q
open Go.RowKit Go.Proofs.YtnhejdelcopphaaW.PrintWords Go.Proofs.YtnhejdelcopphaaW.PrintLast Go.Proofs.YtnhejdelcopphaaW.PrintMore
set_option linter.unusedVariables false
set_option linter.unusedSimpArgs false

theorem msgSame_same : ∀ (k : Nat) (l l2 : List IF) (n i : Int) (m : ByteArray), spec_MsgSame.l0 k l n i m l2 = impl_Field.l0 k l l2 n i := by
  intro k
  induction k with
  | zero => intro l l2 n i m; rfl
  | succ k ih => intro l l2 n i m; simp only [impl_Field.l0, spec_MsgSame.l0, ih]

theorem fieldEq_l (l l2 : List IF) (hl : l.length ≤ 10000000) (h2 : l2.length = l.length) : ∀ (d n k : Nat), n + d = l.length → d < k → ∃ r, impl_Field.l0 k l l2 (l.length : Int) (n : Int) = some r := by
  intro d
  induction d with
  | zero =>
    intro n k hd hk
    obtain ⟨k, rfl⟩ : ∃ m, k = m + 1 := ⟨k - 1, by omega⟩
    have c1 : ¬ (n : Int) < (l.length : Int) := by omega
    simp only [impl_Field.l0, if_neg c1]
    exact ⟨_, rfl⟩
  | succ d ih =>
    intro n k hd hk
    obtain ⟨k, rfl⟩ : ∃ m, k = m + 1 := ⟨k - 1, by omega⟩
    have c1 : (n : Int) < (l.length : Int) := by omega
    have c2 : 0 ≤ (n : Int) := by omega
    have c3 : (n : Int) < (l2.length : Int) := by omega
    simp only [impl_Field.l0, if_pos c1, if_pos c2, if_pos c3, w64s (n := n) (by omega)]
    split
    · exact ⟨_, rfl⟩
    · exact ih (n + 1) k (by omega) (by omega)

theorem msgSame_at (m m2 : ByteArray) (l l2 : List IF) (hl : l.length ≤ 10000000) (h2 : l2.length ≤ 10000000) : ∃ r, ∀ k, l.length + 2 ≤ k → spec_MsgSame.f k m l m2 l2 = some r ∧ impl_MsgSame.f k m l m2 l2 = some r := by
  by_cases hm : m.toList = m2.toList
  · by_cases hn : l2.length = l.length
    · obtain ⟨r, hr⟩ := fieldEq_l l l2 hl hn l.length 0 (l.length + 1) (by omega) (by omega)
      have hb : ((l.length : Int) != (l2.length : Int)) = false := by rw [hn]; simp
      have hi : impl_Field.f (l.length + 1) l l2 = some r := by unfold impl_Field.f; rw [if_pos (by omega)]; exact hr
      have hi2 : ∀ k, l.length + 1 ≤ k → impl_Field.f k l l2 = some r := fun k hk => later (g := fun k => impl_Field.f k l l2) (fun k => impl_Field.mono l l2 k) hi k hk
      refine ⟨r, fun k hk => ⟨?_, ?_⟩⟩
      · obtain ⟨k, rfl⟩ : ∃ m, k = m + 1 := ⟨k - 1, by omega⟩
        unfold spec_MsgSame.f
        rw [if_pos hm, hb, spec_MsgSame.j0, if_neg (by simp), msgSame_same]
        have := hi2 k (by omega)
        unfold impl_Field.f at this
        rw [if_pos (by omega)] at this
        exact this
      · unfold impl_MsgSame.f
        rw [if_pos hm, hi2 k (by omega)]; rfl
    · have hb : ((l.length : Int) != (l2.length : Int)) = true := by simp; omega
      refine ⟨false, fun k hk => ⟨?_, ?_⟩⟩
      · obtain ⟨k, rfl⟩ : ∃ m, k = m + 1 := ⟨k - 1, by omega⟩
        unfold spec_MsgSame.f
        rw [if_pos hm, hb, spec_MsgSame.j0, if_pos rfl]
      · unfold impl_MsgSame.f impl_Field.f
        rw [if_pos hm, if_neg (by omega)]; rfl
  · refine ⟨false, fun k hk => ⟨?_, ?_⟩⟩
    · obtain ⟨k, rfl⟩ : ∃ m, k = m + 1 := ⟨k - 1, by omega⟩
      unfold spec_MsgSame.f
      rw [if_neg hm, spec_MsgSame.j0, if_pos rfl]
    · unfold impl_MsgSame.f
      rw [if_neg hm]

theorem FnExactMsgSame : ∀ (m : ByteArray) (l : List LF) (m2 : ByteArray) (l2 : List LF), m.size ≤ 9223372036854775807 → l.length ≤ 9223372036854775807 → (∀ f ∈ l, f.f1.size ≤ 9223372036854775807 ∧ (Lit.int .i64 f.f0).wf = true) → m2.size ≤ 9223372036854775807 → l2.length ≤ 9223372036854775807 → (∀ f ∈ l2, f.f1.size ≤ 9223372036854775807 ∧ (Lit.int .i64 f.f0).wf = true) → ∃ k, laws_FnExactMsgSame.f k m l m2 l2 = some true := by
  intro m l m2 l2 hm hl hf hm2 hl2 hf2
  obtain ⟨r, s1, hr⟩ := szMsg_at m l hm hl (fun f h => (hf f h).1) 1048576 (by omega) (by omega)
  refine ⟨l.length + l2.length + 100, ?_⟩
  unfold laws_FnExactMsgSame.f
  rw [s1 _ (by omega), Option.bind_some]
  rcases hr with hr | ⟨q0, qr, q1, q2, q3⟩
  · rw [if_pos hr]
  have q : ¬ r < 0 := by omega
  rw [if_neg q]
  obtain ⟨r2, s2, hr2⟩ := szMsg_at m2 l2 hm2 hl2 (fun f h => (hf2 f h).1) r (by omega) (by omega)
  rw [s2 _ (by omega), Option.bind_some]
  rcases hr2 with hr2 | ⟨p0, pr, p1, p2, p3⟩
  · rw [if_pos hr2]
  have p : ¬ r2 < 0 := by omega
  rw [if_neg p]
  have g0 := toMsg_at m l (by omega)
  have g1 := toMsg_at m2 l2 (by omega)
  have hz : (l.map conv).length = l.length := by simp
  have hz2 : (l2.map conv).length = l2.length := by simp
  obtain ⟨b, hb⟩ := msgSame_at m m2 (l.map conv) (l2.map conv) (by omega) (by omega)
  have g2 := fun k hk => (hb k hk).1
  have g3 := fun k hk => (hb k hk).2
  have g4 := eqMsg_self m (l.map conv) (by omega)
  have g5 := eqMsg_self m2 (l2.map conv) (by omega)
  simp (disch := omega) only [g0, g1, g2, g3, g4, g5, Option.bind_some, if_true, bne_self_eq_false, Bool.false_eq_true, if_false]
end Go.Proofs.Ytnhejdelcopphaa.Q
