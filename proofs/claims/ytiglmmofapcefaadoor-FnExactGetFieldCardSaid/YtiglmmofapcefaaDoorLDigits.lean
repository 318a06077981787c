/- Lemmas on what the printed functions compute (digits); no condition. -/
import Derived.Test.YtiglmmofapcefaaDoorLBase
import Derived.Test.YtiglmmofapcefaaDoorQx13
import Derived.Test.YtiglmmofapcefaaDoorQx6
import Derived.Test.YtiglmmofapcefaaDoorQx0
namespace Go.Proofs.YtiglmmofapcefaaDoor.Q
open Go.RowKit Go.Proofs.YtiglmmofapcefaaDoorW.PrintWords Go.Proofs.YtiglmmofapcefaaDoorW.PrintLast Go.Proofs.YtiglmmofapcefaaDoorW.PrintMore
set_option linter.unusedVariables false
set_option linter.unusedSimpArgs false

def isDig (c : Int) : Bool := decide (48 ≤ c) && decide (c ≤ 57)
def digs (l : List Int) : Bool := l.all isDig && !l.isEmpty

theorem spec_Digits_l (s : ByteArray) (hs : s.size ≤ 140737488351232) : ∀ (d n k : Nat), n + d = s.size → d < k →
    spec_Digits.l0 k s (n : Int) = some (((bytesOf s).drop n).all isDig && decide (0 < s.size)) := by
  intro d
  induction d with
  | zero =>
    intro n k hd hk
    obtain ⟨k, rfl⟩ : ∃ m, k = m + 1 := ⟨k - 1, by omega⟩
    simp only [spec_Digits.l0]
    rw [if_neg (by omega), List.drop_of_length_le (by rw [bytesOf_length]; omega)]
    simp
  | succ d ih =>
    intro n k hd hk
    obtain ⟨k, rfl⟩ : ∃ m, k = m + 1 := ⟨k - 1, by omega⟩
    simp only [spec_Digits.l0]
    rw [if_pos (by omega), if_pos (by omega), drop_bt s n (by omega), List.all_cons]
    by_cases h1 : bt s (n : Int) < 48
    · rw [if_pos h1]
      have e : isDig (bt s (n : Int)) = false := by unfold isDig; simp; omega
      rw [e]; simp
    · rw [if_neg h1]
      by_cases h2 : bt s (n : Int) > 57
      · rw [if_pos h2]
        have e : isDig (bt s (n : Int)) = false := by unfold isDig; simp; omega
        rw [e]; simp
      · rw [if_neg h2, w64 (by omega) (by omega)]
        have e : isDig (bt s (n : Int)) = true := by unfold isDig; simp; omega
        rw [e, Bool.true_and]
        exact ih (n + 1) k (by omega) (by omega)

theorem digs_eq (s : ByteArray) : ((bytesOf s).all isDig && decide (0 < s.size)) = digs (bytesOf s) := by
  unfold digs
  congr 1
  rw [← bytesOf_length s]
  cases bytesOf s <;> simp

theorem spec_Digits_at (s : ByteArray) (hs : s.size ≤ 140737488351232) (k : Nat) (hk : s.size < k) : spec_Digits.f k s = some (digs (bytesOf s)) := by
  unfold spec_Digits.f
  have h := spec_Digits_l s hs s.size 0 k (by omega) hk
  rw [← digs_eq]
  simpa using h

theorem toList_ne (s : ByteArray) : (s.toList != ([] : List UInt8)) = decide (0 < s.size) := by
  rw [ByteArray.toList_eq, ← data_length s]
  cases s.data.toList <;> simp

theorem impl_Digits_l (s : ByteArray) (hs : s.size ≤ 140737488351232) : ∀ (d n k : Nat), n + d = s.size → d < k →
    impl_Digits.l0 k s (s.size : Int) (n : Int) = some (((bytesOf s).drop n).all isDig && decide (0 < s.size)) := by
  intro d
  induction d with
  | zero =>
    intro n k hd hk
    obtain ⟨k, rfl⟩ : ∃ m, k = m + 1 := ⟨k - 1, by omega⟩
    simp only [impl_Digits.l0]
    rw [if_neg (by omega), List.drop_of_length_le (by rw [bytesOf_length]; omega), toList_ne]
    simp
  | succ d ih =>
    intro n k hd hk
    obtain ⟨k, rfl⟩ : ∃ m, k = m + 1 := ⟨k - 1, by omega⟩
    simp only [impl_Digits.l0]
    rw [if_pos (by omega), if_pos (by omega), if_pos (by omega), drop_bt s n (by omega), List.all_cons]
    by_cases h1 : bt s (n : Int) < 48
    · rw [if_pos h1]
      have e : isDig (bt s (n : Int)) = false := by unfold isDig; simp; omega
      rw [e]; simp
    · rw [if_neg h1]
      by_cases h2 : bt s (n : Int) > 57
      · rw [if_pos h2]
        have e : isDig (bt s (n : Int)) = false := by unfold isDig; simp; omega
        rw [e]; simp
      · rw [if_neg h2, w64 (by omega) (by omega)]
        have e : isDig (bt s (n : Int)) = true := by unfold isDig; simp; omega
        rw [e, Bool.true_and]
        exact ih (n + 1) k (by omega) (by omega)

theorem impl_Digits_at (s : ByteArray) (hs : s.size ≤ 140737488351232) (k : Nat) (hk : s.size < k) : impl_Digits.f k s = some (digs (bytesOf s)) := by
  unfold impl_Digits.f
  have h := impl_Digits_l s hs s.size 0 k (by omega) hk
  rw [← digs_eq]
  simpa using h
end Go.Proofs.YtiglmmofapcefaaDoor.Q
