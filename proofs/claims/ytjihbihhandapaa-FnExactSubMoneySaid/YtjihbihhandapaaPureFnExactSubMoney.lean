/- The program's SubMoney and the reference's answer alike for every two ints. -/
import Derived.Test.YtjihbihhandapaaPFnExactSubMoneyx1
namespace Go.Proofs.Ytjihbihhandapaa.Pure
open Go.RowKit Go.Proofs.Ytjihbihhandapaa.PFnExactSubMoney Go.Proofs.YtjihbihhandapaaW.PrintWords Go.Proofs.YtjihbihhandapaaW.PrintLast Go.Proofs.YtjihbihhandapaaW.PrintMore

theorem money_eq (a : Int) : impl_isMoney.f a = spec_l01Money.f a := by
  unfold impl_isMoney.f impl_within.f spec_l01Money.f
  by_cases h : 0 ≤ a
  · rw [if_pos h]; rfl
  · rw [if_neg h]; rfl

theorem money_some (a : Int) : ∃ b, spec_l01Money.f a = some b := by
  unfold spec_l01Money.f
  split <;> exact ⟨_, rfl⟩

theorem FnExactSubMoney : laws_FnExactSubMoney.Pure := by
  intro a b _ _
  have e : impl_SubMoney.f a b = spec_SubMoney.f a b := by
    unfold impl_SubMoney.f spec_SubMoney.f
    rw [money_eq, money_eq]
  have h : ∃ r, spec_SubMoney.f a b = some r := by
    obtain ⟨x, hx⟩ := money_some a
    obtain ⟨y, hy⟩ := money_some b
    unfold spec_SubMoney.f
    rw [hx, hy]
    simp only [Option.bind_some]
    repeat' split
    all_goals exact ⟨_, rfl⟩
  obtain ⟨r, hr⟩ := h
  unfold laws_FnExactSubMoney.f
  rw [e, hr]
  simp

end Go.Proofs.Ytjihbihhandapaa.Pure
