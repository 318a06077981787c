/- FnExactFieldBare of the given program answers true at every string; the listed variables hold what the program's text lays. -/
import Derived.Test.YtnhejdelcopphaaDoorLFieldBare
import Derived.Test.YtnhejdelcopphaaDoorQx2
import Derived.Test.YtnhejdelcopphaaDoorQx0
namespace Go.Proofs.YtnhejdelcopphaaDoor.Q
open Go.RowKit Go.Proofs.YtnhejdelcopphaaDoorW.PrintWords Go.Proofs.YtnhejdelcopphaaDoorW.PrintLast Go.Proofs.YtnhejdelcopphaaDoorW.PrintMore
set_option linter.unusedVariables false
set_option linter.unusedSimpArgs false

theorem FnExactFieldBare : ∀ (a0 : ByteArray), a0.size ≤ 140737488351232 → ∃ k, laws_FnExactFieldBare.f k a0 = some true := by
  intro s hs
  obtain ⟨t, h1, h2⟩ := FieldBare_same s hs (s.size + 1) (by omega)
  refine ⟨s.size + 1, ?_⟩
  unfold laws_FnExactFieldBare.f
  by_cases hl : (s.size : Int) > 1048576
  · rw [if_pos hl]
  rw [if_neg hl, h1, h2]
  simp
end Go.Proofs.YtnhejdelcopphaaDoor.Q
