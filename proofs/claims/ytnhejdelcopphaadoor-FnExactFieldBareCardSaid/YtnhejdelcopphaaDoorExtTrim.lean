/- strings.TrimRight at one blank, as the printed functions call it: out of the shelf's contract; no condition. -/
import Derived.Test.YtnhejdelcopphaaDoorShelf
import Derived.Test.YtnhejdelcopphaaDoorQx0
namespace Go.Proofs.YtnhejdelcopphaaDoor.Q
open Go.RowKit Go.Proofs.YtnhejdelcopphaaDoorW.PrintWords Go.Proofs.YtnhejdelcopphaaDoorW.PrintLast Go.Proofs.YtnhejdelcopphaaDoorW.PrintMore
def strings_TrimRight.f (a0 a1 : ByteArray) : Option ByteArray := if a1.data.toList = [32] ∧ a0.size ≤ 9223372036854775807 then some ⟨(Lib.trimRightB a0.data.toList 32).toArray⟩ else none
theorem strings_TrimRight.calls (a0 a1 : ByteArray) (r : ByteArray) (w : World) (h : strings_TrimRight.f a0 a1 = some r) :
    Calls Tryd.prog 15 #[.string a0, .string a1] w fun e w' => e = .returned (.string r) ∧ Drawn0 w w' := by
  unfold strings_TrimRight.f at h
  by_cases q : a1.data.toList = [32] ∧ a0.size ≤ 9223372036854775807
  · rw [if_pos q] at h
    obtain rfl := Option.some.inj h
    have e : a1 = ⟨#[32]⟩ := by
      have := q.1
      cases a1 with
      | mk d => cases d with
        | mk l => simp at this; rw [this]
    subst e
    refine (Tryd.strings_TrimRight_one a0 32 (by decide) w q.2).mono ?_
    rintro e w' ⟨rfl, rfl⟩
    exact ⟨rfl, Drawn0.refl _⟩
  · rw [if_neg q] at h
    exact absurd h (by simp)
end Go.Proofs.YtnhejdelcopphaaDoor.Q
