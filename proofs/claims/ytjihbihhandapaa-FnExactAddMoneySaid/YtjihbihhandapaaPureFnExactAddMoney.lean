/- The program's AddMoney and the reference's answer alike for every two ints. -/
import Derived.Test.YtjihbihhandapaaPFnExactAddMoneyx1
namespace Go.Proofs.Ytjihbihhandapaa.Pure
open Go.RowKit Go.Proofs.Ytjihbihhandapaa.PFnExactAddMoney Go.Proofs.YtjihbihhandapaaW.PrintWords Go.Proofs.YtjihbihhandapaaW.PrintLast Go.Proofs.YtjihbihhandapaaW.PrintMore

theorem money_eq (a : Int) : impl_isMoney.f a = spec_l01Money.f a := by
  unfold impl_isMoney.f impl_within.f spec_l01Money.f
  by_cases h : 0 ≤ a
  · rw [if_pos h]; rfl
  · rw [if_neg h]; rfl

theorem money_some (a : Int) : ∃ b, spec_l01Money.f a = some b := by
  unfold spec_l01Money.f
  split <;> exact ⟨_, rfl⟩

theorem FnExactAddMoney : laws_FnExactAddMoney.Pure := by
  intro a b _ _
  have e : impl_AddMoney.f a b = spec_AddMoney.f a b := by
    unfold impl_AddMoney.f spec_AddMoney.f
    rw [money_eq, money_eq]
  have h : ∃ r, spec_AddMoney.f a b = some r := by
    obtain ⟨x, hx⟩ := money_some a
    obtain ⟨y, hy⟩ := money_some b
    unfold spec_AddMoney.f
    rw [hx, hy]
    simp only [Option.bind_some]
    repeat' split
    all_goals exact ⟨_, rfl⟩
  obtain ⟨r, hr⟩ := h
  unfold laws_FnExactAddMoney.f
  rw [e, hr]
  simp

end Go.Proofs.Ytjihbihhandapaa.Pure
