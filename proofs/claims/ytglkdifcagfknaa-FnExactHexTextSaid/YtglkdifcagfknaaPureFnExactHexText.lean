/- The program's HexText and the reference's answer alike for every slice of bytes, which stays as it was. -/
import Derived.Test.YtglkdifcagfknaaLHexText
import Derived.Test.YtglkdifcagfknaaLToByteS
import Derived.Test.YtglkdifcagfknaaLEqByteS
import Derived.Test.YtglkdifcagfknaaQx3
import Derived.Test.YtglkdifcagfknaaQx0
namespace Go.Proofs.Ytglkdifcagfknaa.Q
open Go.RowKit Go.Proofs.YtglkdifcagfknaaW.PrintWords Go.Proofs.YtglkdifcagfknaaW.PrintLast Go.Proofs.YtglkdifcagfknaaW.PrintMore
set_option linter.unusedVariables false
set_option linter.unusedSimpArgs false

theorem FnExactHexText : ∀ (l0 : List Int), l0.length ≤ maxLen → l0.length * 1 ≤ 140737488351232 → (∀ x ∈ l0, (Lit.int .u8 x).wf = true) → ∃ k, laws_FnExactHexText.f k l0 = some true := by
  intro l _ _ hw
  have hb : ∀ c ∈ l, isByte c := fun c hc => wf_u8 (hw c hc)
  by_cases hl : (l.length : Int) > 1048576
  · exact ⟨0, by unfold laws_FnExactHexText.f; rw [if_pos hl]⟩
  refine ⟨l.length + 10, ?_⟩
  have t1 := toByteS_at l (by omega)
  have t2 := eqByteS_self l (by omega)
  have g1 := spec_HexText_at l (by omega) hb
  have g2 := impl_HexText_at l (by omega) hb
  unfold laws_FnExactHexText.f
  rw [if_neg hl]
  simp (disch := omega) only [t1, t2, g1, g2, Option.bind_some, if_true]
end Go.Proofs.Ytglkdifcagfknaa.Q
