/- The program's PutBits and the reference's answer alike for every slice of ints, in new memory. -/
import Derived.Test.YtglkdifcagfknaaLToIntS
import Derived.Test.YtglkdifcagfknaaLEqIntS
import Derived.Test.YtglkdifcagfknaaLEqByteS
import Derived.Test.YtglkdifcagfknaaLMarkIntS
import Derived.Test.YtglkdifcagfknaaLMarkByteS
import Derived.Test.YtglkdifcagfknaaQx10
import Derived.Test.YtglkdifcagfknaaQx11
import Derived.Test.YtglkdifcagfknaaQx9
import Derived.Test.YtglkdifcagfknaaQx0
namespace Go.Proofs.Ytglkdifcagfknaa.Q
open Go.RowKit Go.Proofs.YtglkdifcagfknaaW.PrintWords Go.Proofs.YtglkdifcagfknaaW.PrintLast Go.Proofs.YtglkdifcagfknaaW.PrintMore
set_option linter.unusedVariables false
set_option linter.unusedSimpArgs false

/-- Both set the same bits, one after the other. -/
theorem putBits_l (l : List Int) (hl : l.length ≤ 10000000) : ∀ (d n k : Nat) (x : List Int), n + d = l.length → x.length = 8 → d < k →
    ∃ r, spec_PutBits.l0 k x l (l.length : Int) (n : Int) = some r ∧ impl_PutBits.l0 k x l (l.length : Int) (n : Int) = some r ∧ r.length = 8 := by
  intro d
  induction d with
  | zero =>
    intro n k x hd hx hk
    obtain ⟨k, rfl⟩ : ∃ m, k = m + 1 := ⟨k - 1, by omega⟩
    have c1 : ¬ (n : Int) < (l.length : Int) := by omega
    simp only [spec_PutBits.l0, impl_PutBits.l0, if_neg c1]
    exact ⟨x, rfl, rfl, hx⟩
  | succ d ih =>
    intro n k x hd hx hk
    obtain ⟨k, rfl⟩ : ∃ m, k = m + 1 := ⟨k - 1, by omega⟩
    have c1 : (n : Int) < (l.length : Int) := by omega
    have c2 : 0 ≤ (n : Int) := by omega
    simp only [spec_PutBits.l0, impl_PutBits.l0, if_pos c1, if_pos c2, w64 c2 (by omega)]
    generalize rd l (n : Int) = b
    unfold spec_l01In.f impl_within.f
    by_cases h1 : 1 ≤ b
    · have h1' : b ≥ 1 := h1
      simp only [if_pos h1, if_pos h1', Option.bind_some]
      by_cases h2 : b ≤ 64
      · simp only [h2, decide_true, if_true]
        have e1 : wrap64 (b - 1) = b - 1 := by unfold wrap64; omega
        have e2 : Int.tdiv (b - 1) 8 = (b - 1) / 8 := Int.tdiv_eq_ediv_of_nonneg (by omega)
        have e3 : Int.tmod (b - 1) 8 = (b - 1) % 8 := Int.tmod_eq_emod_of_nonneg (by omega)
        have e4 : wrap64 ((b - 1) / 8) = (b - 1) / 8 := by unfold wrap64; omega
        have c3 : 0 ≤ (b - 1) / 8 := by omega
        have c4 : (b - 1) / 8 < (x.length : Int) := by omega
        have c5 : 0 ≤ (b - 1) % 8 := by omega
        simp only [e1, e2, e3, e4, if_pos c3, if_pos c4, if_pos c5]
        exact ih (n + 1) k _ (by omega) (by simpa using hx) (by omega)
      · simp only [h2, decide_false, Bool.false_eq_true, if_false]
        exact ih (n + 1) k x (by omega) hx (by omega)
    · have h1' : ¬ b ≥ 1 := h1
      simp only [if_neg h1, if_neg h1', Option.bind_some, Bool.false_eq_true, if_false]
      exact ih (n + 1) k x (by omega) hx (by omega)

theorem FnExactPutBits : ∀ (l0 : List Int), l0.length ≤ maxLen → l0.length * 8 ≤ 140737488351232 → (∀ x ∈ l0, (Lit.int .i64 x).wf = true) → ∃ k, laws_FnExactPutBits.f k l0 = some true := by
  intro l _ _ _
  by_cases hl : (l.length : Int) > 1048576
  · exact ⟨0, by unfold laws_FnExactPutBits.f; rw [if_pos hl]⟩
  refine ⟨l.length + 100, ?_⟩
  obtain ⟨r, h1, h2, h3⟩ := putBits_l l (by omega) l.length 0 (l.length + 1) (List.replicate 8 0) (by omega) (by simp) (by omega)
  have g1 : ∀ k, l.length < k → spec_PutBits.f k l = some r := fun k hk => later (g := fun k => spec_PutBits.f k l) (fun k => spec_PutBits.mono l k) (by unfold spec_PutBits.f; rw [if_pos (by omega)]; exact h1) k hk
  have g2 : ∀ k, l.length < k → impl_PutBits.f k l = some r := fun k hk => later (g := fun k => impl_PutBits.f k l) (fun k => impl_PutBits.mono l k) (by unfold impl_PutBits.f; rw [if_pos (by omega)]; exact h2) k hk
  obtain ⟨y, m1, m2⟩ := markIntS_held l (by omega) 1 (by omega) (by omega)
  obtain ⟨z, n1, n2⟩ := markByteS_held r (by omega) 1 (by omega) (by omega)
  have n3 := fun k hk => (n2 k hk).1
  have n4 := fun k hk => (n2 k hk).2
  have m3 := fun k hk => (m2 k hk).1
  have t1 := toIntS_at l (by omega)
  have t2 := eqByteS_self r (by omega)
  have t3 := eqIntS_self l (by omega)
  have q : ¬ (1 + (l.length : Int)) < 0 := by omega
  have q2 : ¬ (1 + (r.length : Int)) < 0 := by omega
  unfold laws_FnExactPutBits.f
  rw [if_neg hl]
  simp (disch := omega) only [t1, g1, g2, t2, t3, m3, Option.bind_some, if_true, if_neg q, Bool.not_true]
  rw [laws_FnExactPutBits.j0]
  simp (disch := omega) only [t1, g2, t2, n3, n4, Option.bind_some, if_true, if_neg q2, Bool.false_eq_true, if_false]
end Go.Proofs.Ytglkdifcagfknaa.Q
