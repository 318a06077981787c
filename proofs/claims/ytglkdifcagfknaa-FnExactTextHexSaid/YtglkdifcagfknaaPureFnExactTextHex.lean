/- The program's TextHex and the reference's answer alike for every string, in new memory. -/
import Derived.Test.YtglkdifcagfknaaLTextHexSpec
import Derived.Test.YtglkdifcagfknaaLTextHexImpl
import Derived.Test.YtglkdifcagfknaaLEqByteS
import Derived.Test.YtglkdifcagfknaaLMarkByteS
import Derived.Test.YtglkdifcagfknaaQx32
import Derived.Test.YtglkdifcagfknaaQx0
namespace Go.Proofs.Ytglkdifcagfknaa.Q
open Go.RowKit Go.Proofs.YtglkdifcagfknaaW.PrintWords Go.Proofs.YtglkdifcagfknaaW.PrintLast Go.Proofs.YtglkdifcagfknaaW.PrintMore
set_option linter.unusedVariables false
set_option linter.unusedSimpArgs false

theorem FnExactTextHex : ∀ (a0 : ByteArray), a0.size ≤ 140737488351232 → ∃ k, laws_FnExactTextHex.f k a0 = some true := by
  intro s _
  by_cases hl : (s.size : Int) > 1048576
  · exact ⟨0, by unfold laws_FnExactTextHex.f; rw [if_pos hl]⟩
  refine ⟨s.size + 1000, ?_⟩
  have g1 := spec_TextHex_at s (by omega)
  have g2 := impl_TextHex_at s (by omega)
  have hz : (textHex (bytesOf s)).1.length ≤ s.size := by
    unfold textHex
    split
    · simp
    · have := unhex_length (bytesOf s).length (bytesOf s) [] (Nat.le_refl _)
      rw [bytesOf_length] at this
      simpa using this
  generalize textHex (bytesOf s) = r at g1 g2 hz
  have t2 := eqByteS_self r.1 (by omega)
  obtain ⟨z, n1, n2⟩ := markByteS_held r.1 (by omega) 1 (by omega) (by omega)
  have n3 := fun k hk => (n2 k hk).1
  have n4 := fun k hk => (n2 k hk).2
  have q2 : ¬ (1 + (r.1.length : Int)) < 0 := by omega
  unfold laws_FnExactTextHex.f
  rw [if_neg hl]
  simp (disch := omega) only [g1, g2, t2, Option.bind_some, if_true, bne_self_eq_false]
  rw [laws_FnExactTextHex.j0]
  simp (disch := omega) only [g2, t2, n3, n4, Option.bind_some, if_true, if_neg q2, Bool.false_eq_true, if_false, bne_self_eq_false]
  rw [laws_FnExactTextHex.j1]
  simp (disch := omega) only [n4, Option.bind_some, if_true, if_neg q2, Bool.false_eq_true, if_false]
end Go.Proofs.Ytglkdifcagfknaa.Q
