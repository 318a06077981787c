/- strings.Split at a separator that is not empty, as the printed functions call it: out of the shelf's contract; internal/bytealg.MaxLen holds an int. -/
import Derived.Test.YtnhejdelcopphaaDoorShelf
import Derived.Test.YtnhejdelcopphaaDoorExtMax
import Derived.Test.YtnhejdelcopphaaDoorQx0
namespace Go.Proofs.YtnhejdelcopphaaDoor.Q
open Go.RowKit Go.Proofs.YtnhejdelcopphaaDoorW.PrintWords Go.Proofs.YtnhejdelcopphaaDoorW.PrintLast Go.Proofs.YtnhejdelcopphaaDoorW.PrintMore
def strings_Split.f (a0 a1 : ByteArray) : Option (List ByteArray) := if 1 ≤ a1.size ∧ a0.size < 4294967281 then some (Lib.splitB a1 0 (Lib.countB a0 a1) a0) else none
theorem strings_Split.calls (a0 a1 : ByteArray) (r : List ByteArray) (w : World) (hG : GLW w) (h : strings_Split.f a0 a1 = some r) :
    Calls Tryd.prog 17 #[.string a0, .string a1] w fun e w' => ∃ v0_ : Value, e = .returned (v0_) ∧ Kd.R Kd.string 9 w' w.heap.size (fun _ => True) v0_ r ∧ Below w.heap.size w w' := by
  unfold strings_Split.f at h
  by_cases q : 1 ≤ a1.size ∧ a0.size < 4294967281
  · rw [if_pos q] at h
    obtain rfl := Option.some.inj h
    obtain ⟨m, hm⟩ := hG.len
    have hlen := Lib.splitB_all a1 q.1 0 _ a0 rfl
    refine (Tryd.strings_Split a0 a1 m w q.2 hm q.1).mono ?_
    rintro e w' ⟨rfl, rfl⟩
    have ho := OwnRow.lit (R := fun (x : ByteArray) (cs : List Value) => cs = [Value.string x]) (e := 9) (size := 1) w w.heap.size (Kd.reps_scalar (enc := Value.string) (Lib.splitB a1 0 (Lib.countB a0 a1) a0)) (Nat.le_refl _) (by
      have := Lib.countB_le a1 q.1 _ a0 (Nat.le_refl _)
      omega)
    rw [hlen] at ho
    exact ⟨_, rfl, ⟨fun _ _ => trivial, ho⟩, below_alloc (Below.refl _ _) _⟩
  · rw [if_neg q] at h
    exact absurd h (by simp)
end Go.Proofs.YtnhejdelcopphaaDoor.Q
