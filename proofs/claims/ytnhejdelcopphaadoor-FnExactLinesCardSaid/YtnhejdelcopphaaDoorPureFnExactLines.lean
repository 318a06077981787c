/- FnExactLines of the given program answers true at every string; the listed variables hold what the program's text lays. -/
import Derived.Test.YtnhejdelcopphaaDoorLSplit
import Derived.Test.YtnhejdelcopphaaDoorQx10
import Derived.Test.YtnhejdelcopphaaDoorQx11
import Derived.Test.YtnhejdelcopphaaDoorQx3
import Derived.Test.YtnhejdelcopphaaDoorExtSplit
import Derived.Test.YtnhejdelcopphaaDoorQx0
namespace Go.Proofs.YtnhejdelcopphaaDoor.Q
open Go.RowKit Go.Proofs.YtnhejdelcopphaaDoorW.PrintWords Go.Proofs.YtnhejdelcopphaaDoorW.PrintLast Go.Proofs.YtnhejdelcopphaaDoorW.PrintMore
set_option linter.unusedVariables false
set_option linter.unusedSimpArgs false

theorem FnExactLines : ∀ (a0 : ByteArray), a0.size ≤ 140737488351232 → ∃ k, laws_FnExactLines.f k a0 = some true := by
  intro s _
  by_cases hl : (s.size : Int) > 1048576
  · exact ⟨0, by unfold laws_FnExactLines.f; rw [if_pos hl]⟩
  refine ⟨s.size + 100, ?_⟩
  obtain ⟨hz, hz1⟩ := cuts_length 10 s
  have h1 : ∀ k, s.size + 10 < k → spec_l01Split.f k s 10 = some (cuts 10 s) := fun k hk => by
    rw [show (10 : Int) = ((10 : UInt8).toNat : Int) from rfl, spec_Split_at 10 s (by omega) k hk]
  have h2 : strings_Split.f s ⟨#[10]⟩ = some (cuts 10 s) := Split_at 10 s (by omega)
  have hx : ∃ v : List ByteArray, v.length ≤ s.size + 1 ∧ (∀ k, s.size + 10 < k → spec_Lines.f k s = some v) ∧ impl_Lines.f s = some v := by
    have e : wrap64 (((cuts 10 s).length : Int) - 1) = ((cuts 10 s).length : Int) - 1 := by unfold wrap64; omega
    unfold impl_Lines.f
    rw [h2, Option.bind_some, e, if_pos (by omega), if_pos (by omega)]
    by_cases q : (rdOf ByteArray.empty (cuts 10 s) (((cuts 10 s).length : Int) - 1)).toList = []
    · refine ⟨(cuts 10 s).take (((cuts 10 s).length : Int) - 1).toNat, Nat.le_trans (List.length_take_le _ _) (by omega), fun k hk => ?_, ?_⟩
      · unfold spec_Lines.f
        rw [h1 k hk, Option.bind_some, e, if_pos (by omega), if_pos (by omega), if_pos q, if_pos (by omega)]
      · rw [if_pos q, if_pos (by omega)]
    · refine ⟨cuts 10 s, hz, fun k hk => ?_, ?_⟩
      · unfold spec_Lines.f
        rw [h1 k hk, Option.bind_some, e, if_pos (by omega), if_pos (by omega), if_neg q]
      · rw [if_neg q]
  obtain ⟨v, hv, g1, g2⟩ := hx
  have g3 := eqStringS_self v (by omega)
  obtain ⟨y, hy⟩ := markStringS_held v (by omega)
  have n1 := fun k hk => (hy k hk).1
  have n2 := fun k hk => (hy k hk).2
  have q : ¬ (1 + (v.length : Int)) < 0 := by omega
  unfold laws_FnExactLines.f
  rw [if_neg hl]
  simp (disch := omega) only [g1, g2, g3, n1, n2, if_neg q, Option.bind_some, if_true]
end Go.Proofs.YtnhejdelcopphaaDoor.Q
