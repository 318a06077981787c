/- The program's MtiKnown and the reference's answer alike for every string. -/
import Derived.Test.YtjihbihhandapaaPFnExactMtiKnownx1
namespace Go.Proofs.Ytjihbihhandapaa.Pure
open Go.RowKit Go.Proofs.Ytjihbihhandapaa.PFnExactMtiKnown Go.Proofs.YtjihbihhandapaaW.PrintWords Go.Proofs.YtjihbihhandapaaW.PrintLast Go.Proofs.YtjihbihhandapaaW.PrintMore

theorem FnExactMtiKnown : laws_FnExactMtiKnown.Pure := by
  intro s _
  have e : impl_MtiKnown.f s = spec_MtiKnown.f s := rfl
  have h : ∃ b, spec_MtiKnown.f s = some b := by
    unfold spec_MtiKnown.f
    repeat' split
    all_goals exact ⟨_, rfl⟩
  obtain ⟨b, hb⟩ := h
  unfold laws_FnExactMtiKnown.f
  rw [e, hb]
  simp

end Go.Proofs.Ytjihbihhandapaa.Pure
