/- FnExactCut of the given program answers true at every string; the listed variables hold what the program's text lays. -/
import Derived.Test.YtnhejdelcopphaaDoorLSplit
import Derived.Test.YtnhejdelcopphaaDoorQx4
import Derived.Test.YtnhejdelcopphaaDoorQx9
import Derived.Test.YtnhejdelcopphaaDoorQx0
namespace Go.Proofs.YtnhejdelcopphaaDoor.Q
open Go.RowKit Go.Proofs.YtnhejdelcopphaaDoorW.PrintWords Go.Proofs.YtnhejdelcopphaaDoorW.PrintLast Go.Proofs.YtnhejdelcopphaaDoorW.PrintMore
set_option linter.unusedVariables false
set_option linter.unusedSimpArgs false

theorem FnExactCut : ∀ (a0 : ByteArray), a0.size ≤ 140737488351232 → ∃ k, laws_FnExactCut.f k a0 = some true := by
  intro s _
  by_cases hl : (s.size : Int) > 1048576
  · exact ⟨0, by unfold laws_FnExactCut.f; rw [if_pos hl]⟩
  refine ⟨s.size + 100, ?_⟩
  have hz := (cuts_length 32 s).1
  have g1 : ∀ k, s.size + 10 < k → spec_Cut.f k s = some (cuts 32 s) := fun k hk => by
    unfold spec_Cut.f
    rw [show (32 : Int) = ((32 : UInt8).toNat : Int) from rfl, spec_Split_at 32 s (by omega) k hk]; rfl
  have g2 : impl_Cut.f s = some (cuts 32 s) := by
    unfold impl_Cut.f
    rw [Split_at 32 s (by omega)]; rfl
  generalize cuts 32 s = v at g1 g2 hz
  have g3 := eqStringS_self v (by omega)
  obtain ⟨y, hy⟩ := markStringS_held v (by omega)
  have n1 := fun k hk => (hy k hk).1
  have n2 := fun k hk => (hy k hk).2
  have q : ¬ (1 + (v.length : Int)) < 0 := by omega
  unfold laws_FnExactCut.f
  rw [if_neg hl]
  simp (disch := omega) only [g1, g2, g3, n1, n2, if_neg q, Option.bind_some, if_true]
end Go.Proofs.YtnhejdelcopphaaDoor.Q
