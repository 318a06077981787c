/- The program's AddSat and the reference's answer alike for every two ints. -/
import Derived.Test.YtglkdifcagfknaaLBase
import Derived.Test.YtglkdifcagfknaaQx2
import Derived.Test.YtglkdifcagfknaaQx1
import Derived.Test.YtglkdifcagfknaaQx0
namespace Go.Proofs.Ytglkdifcagfknaa.Q
open Go.RowKit Go.Proofs.YtglkdifcagfknaaW.PrintWords Go.Proofs.YtglkdifcagfknaaW.PrintLast Go.Proofs.YtglkdifcagfknaaW.PrintMore
set_option linter.unusedVariables false
set_option linter.unusedSimpArgs false

theorem clamp_at (a : Int) : ∃ v, spec_l01Clamp.f a 0 4611686018427387904 = some v ∧ mx 0 (mn a 4611686018427387904) = v ∧ 0 ≤ v ∧ v ≤ 4611686018427387904 := by
  unfold spec_l01Clamp.f mx mn
  by_cases h1 : a < 0
  · rw [if_pos h1]
    exact ⟨0, rfl, by split <;> split <;> omega, by omega, by omega⟩
  · rw [if_neg h1]
    by_cases h2 : a > 4611686018427387904
    · rw [if_pos h2]
      exact ⟨_, rfl, by split <;> split <;> omega, by omega, by omega⟩
    · rw [if_neg h2]
      exact ⟨a, rfl, by split <;> split <;> omega, by omega, by omega⟩

theorem money_yes (v : Int) (h0 : 0 ≤ v) (h1 : v ≤ 4611686018427387904) : spec_l01Money.f v = some true := by
  unfold spec_l01Money.f
  rw [if_pos h0]
  simp [h1]

theorem FnExactAddSat : ∀ (a0 a1 : Int), (Lit.int .i64 a0).wf = true → (Lit.int .i64 a1).wf = true → laws_FnExactAddSat.f a0 a1 = some true := by
  intro a b _ _
  obtain ⟨v, hv, ev, v0, v1⟩ := clamp_at a
  obtain ⟨u, hu, eu, u0, u1⟩ := clamp_at b
  unfold laws_FnExactAddSat.f spec_AddSat.f impl_AddSat.f spec_AddMoney.f
  rw [hv, hu, ev, eu]
  simp only [Option.bind_some]
  rw [money_yes v v0 v1, money_yes u u0 u1]
  simp only [Option.bind_some, if_true]
  have e : wrap64 (4611686018427387904 - u) = 4611686018427387904 - u := by unfold wrap64; omega
  rw [e]
  by_cases h : v > 4611686018427387904 - u
  · simp [h]
  · simp [h]
end Go.Proofs.Ytglkdifcagfknaa.Q
