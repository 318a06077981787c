/- The program's RsText and the reference's answer alike for every int. -/
import Derived.Test.YtjihbihhandapaaPFnExactRsTextx1
namespace Go.Proofs.Ytjihbihhandapaa.Pure
set_option linter.unusedVariables false
set_option linter.unusedSimpArgs false
open Go.RowKit Go.Proofs.Ytjihbihhandapaa.PFnExactRsText Go.Proofs.YtjihbihhandapaaW.PrintWords Go.Proofs.YtjihbihhandapaaW.PrintLast Go.Proofs.YtjihbihhandapaaW.PrintMore

theorem FnExactRsText : laws_FnExactRsText.Pure := by
  intro c _
  obtain ⟨l, hl, hi, hn⟩ : ∃ l, spec_l05Texts.f = some l ∧ impl_rsTexts.f = some l ∧ l.length = 11 := ⟨_, rfl, rfl, rfl⟩
  have w : wrap64 (((11 : Nat) : Int) - 1) = 10 := by unfold wrap64; omega
  unfold laws_FnExactRsText.f spec_RsText.f impl_RsText.f
  rw [hl, hi]
  simp only [Option.bind_some, hn, w]
  unfold impl_within.f spec_l01In.f
  by_cases h : 0 ≤ c
  · have h' : c ≥ 0 := h
    simp only [if_pos h, if_pos h', Option.bind_some]
    by_cases h2 : c ≤ 10
    · have h3 : c < 11 := by omega
      simp [h2, h3]
    · simp [h2]
  · have h' : ¬ c ≥ 0 := h
    simp only [if_neg h, if_neg h', Option.bind_some]
    simp

end Go.Proofs.Ytjihbihhandapaa.Pure
