/- The program's RingNew and the reference's answer alike for every two ints, in new memory. -/
import Derived.Test.YtglkdifcagfknaaLEqIntS
import Derived.Test.YtglkdifcagfknaaLMarkIntS
import Derived.Test.YtglkdifcagfknaaQx41
import Derived.Test.YtglkdifcagfknaaQx37
import Derived.Test.YtglkdifcagfknaaQx44
import Derived.Test.YtglkdifcagfknaaQx42
import Derived.Test.YtglkdifcagfknaaQx43
import Derived.Test.YtglkdifcagfknaaQx40
import Derived.Test.YtglkdifcagfknaaQx35
import Derived.Test.YtglkdifcagfknaaQx0
namespace Go.Proofs.Ytglkdifcagfknaa.Q
open Go.RowKit Go.Proofs.YtglkdifcagfknaaW.PrintWords Go.Proofs.YtglkdifcagfknaaW.PrintLast Go.Proofs.YtglkdifcagfknaaW.PrintMore
set_option linter.unusedVariables false
set_option linter.unusedSimpArgs false

/-- What the reference's and the program's RingNew give: a ring that is told, and whether. -/
theorem ring_both (a b : Int) : ∃ (h s : Int) (n : Nat) (ok : Bool), n ≤ 8 ∧ spec_RingNew.f a b = some (h, s, List.replicate n 0, List.replicate n 0, ok) ∧ impl_RingNew.f a b = some (h, s, List.replicate n 0, List.replicate n 0, ok) := by
  unfold spec_RingNew.f impl_RingNew.f spec_l01In.f impl_within.f
  by_cases h1 : 1 ≤ a
  · have h1' : a ≥ 1 := h1
    simp only [if_pos h1, if_pos h1', Option.bind_some]
    by_cases h2 : a ≤ 8
    · simp only [h2, decide_true, if_true]
      by_cases h3 : 1 ≤ b
      · have h3' : b ≥ 1 := h3
        simp only [if_pos h3, if_pos h3', Option.bind_some]
        by_cases h4 : b ≤ 1000
        · have c1 : 0 ≤ a := by omega
          have c2 : a.toNat ≤ 35184372088832 := by omega
          simp only [h4, decide_true, if_true, if_pos c1, if_pos c2]
          exact ⟨b, 0, a.toNat, true, by omega, rfl, rfl⟩
        · simp only [h4, decide_false, Bool.false_eq_true, if_false]
          exact ⟨0, 0, 0, false, by omega, rfl, rfl⟩
      · have h3' : ¬ b ≥ 1 := h3
        simp only [if_neg h3, if_neg h3', Option.bind_some, Bool.false_eq_true, if_false]
        exact ⟨0, 0, 0, false, by omega, rfl, rfl⟩
    · simp only [h2, decide_false, Bool.false_eq_true, if_false]
      exact ⟨0, 0, 0, false, by omega, rfl, rfl⟩
  · have h1' : ¬ a ≥ 1 := h1
    simp only [if_neg h1, if_neg h1', Option.bind_some, Bool.false_eq_true, if_false]
    exact ⟨0, 0, 0, false, by omega, rfl, rfl⟩

theorem FnExactRingNew : ∀ (a0 a1 : Int), (Lit.int .i64 a0).wf = true → (Lit.int .i64 a1).wf = true → ∃ k, laws_FnExactRingNew.f k a0 a1 = some true := by
  intro a b _ _
  obtain ⟨h, s, n, ok, hn, g1, g2⟩ := ring_both a b
  refine ⟨100, ?_⟩
  have hl : (List.replicate n (0 : Int)).length = n := by simp
  generalize List.replicate n (0 : Int) = l at g1 g2 hl
  have t1 := eqIntS_self l (by omega)
  obtain ⟨y, m1, m2⟩ := markIntS_held l (by omega) 1 (by omega) (by omega)
  obtain ⟨z, n1, n2⟩ := markIntS_held l (by omega) (1 + l.length) (by omega) (by omega)
  have m3 := fun k hk => (m2 k hk).1
  have m4 := fun k hk => (m2 k hk).2
  have n3 := fun k hk => (n2 k hk).1
  have n4 := fun k hk => (n2 k hk).2
  have q1 : ¬ (1 + (l.length : Int)) < 0 := by omega
  have q2 : ¬ (1 + (l.length : Int) + (l.length : Int)) < 0 := by omega
  unfold laws_FnExactRingNew.f laws_eqRing.f
  simp (disch := omega) only [g1, g2, t1, Option.bind_some, if_true, bne_self_eq_false]
  rw [laws_FnExactRingNew.j0]
  unfold laws_markRing.f laws_heldRing.f laws_eqRing.f
  simp (disch := omega) only [g2, t1, m3, m4, n3, n4, Option.bind_some, if_true, if_neg q1, if_neg q2, Bool.false_eq_true, if_false, bne_self_eq_false]
  rw [laws_FnExactRingNew.j1]
  unfold laws_heldRing.f
  simp (disch := omega) only [m4, n4, Option.bind_some, if_true, if_neg q1, if_neg q2, Bool.false_eq_true, if_false]
end Go.Proofs.Ytglkdifcagfknaa.Q
