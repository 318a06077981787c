/- Lemmas on what the printed functions compute (printable); no condition. -/
import Derived.Test.YtnhejdelcopphaaLBase
import Derived.Test.YtnhejdelcopphaaQx39
import Derived.Test.YtnhejdelcopphaaQx36
import Derived.Test.YtnhejdelcopphaaQx0
namespace Go.Proofs.Ytnhejdelcopphaa.Q
open Go.RowKit Go.Proofs.YtnhejdelcopphaaW.PrintWords Go.Proofs.YtnhejdelcopphaaW.PrintLast Go.Proofs.YtnhejdelcopphaaW.PrintMore
set_option linter.unusedVariables false
set_option linter.unusedSimpArgs false

def isPri (c : Int) : Bool := decide (32 ≤ c) && decide (c ≤ 126)

theorem spec_Printable_l (s : ByteArray) (hs : s.size ≤ 140737488351232) : ∀ (d n k : Nat), n + d = s.size → d < k →
    spec_Printable.l0 k s (n : Int) = some (((bytesOf s).drop n).all isPri) := by
  intro d
  induction d with
  | zero =>
    intro n k hd hk
    obtain ⟨k, rfl⟩ : ∃ m, k = m + 1 := ⟨k - 1, by omega⟩
    simp only [spec_Printable.l0]
    rw [if_neg (by omega), List.drop_of_length_le (by rw [bytesOf_length]; omega)]
    simp
  | succ d ih =>
    intro n k hd hk
    obtain ⟨k, rfl⟩ : ∃ m, k = m + 1 := ⟨k - 1, by omega⟩
    simp only [spec_Printable.l0]
    rw [if_pos (by omega), if_pos (by omega), drop_bt s n (by omega), List.all_cons]
    by_cases h1 : bt s (n : Int) < 32
    · rw [if_pos h1]
      have e : isPri (bt s (n : Int)) = false := by unfold isPri; simp; omega
      rw [e]; simp
    · rw [if_neg h1]
      by_cases h2 : bt s (n : Int) > 126
      · rw [if_pos h2]
        have e : isPri (bt s (n : Int)) = false := by unfold isPri; simp; omega
        rw [e]; simp
      · rw [if_neg h2, w64 (by omega) (by omega)]
        have e : isPri (bt s (n : Int)) = true := by unfold isPri; simp; omega
        rw [e, Bool.true_and]
        exact ih (n + 1) k (by omega) (by omega)

theorem spec_Printable_at (s : ByteArray) (hs : s.size ≤ 140737488351232) (k : Nat) (hk : s.size < k) : spec_Printable.f k s = some ((bytesOf s).all isPri) := by
  unfold spec_Printable.f
  have h := spec_Printable_l s hs s.size 0 k (by omega) hk
  simpa using h

theorem impl_Printable_l (s : ByteArray) (hs : s.size ≤ 140737488351232) : ∀ (d n k : Nat), n + d = s.size → d < k →
    impl_Printable.l0 k s (s.size : Int) (n : Int) = some (((bytesOf s).drop n).all isPri) := by
  intro d
  induction d with
  | zero =>
    intro n k hd hk
    obtain ⟨k, rfl⟩ : ∃ m, k = m + 1 := ⟨k - 1, by omega⟩
    simp only [impl_Printable.l0]
    rw [if_neg (by omega), List.drop_of_length_le (by rw [bytesOf_length]; omega)]
    simp
  | succ d ih =>
    intro n k hd hk
    obtain ⟨k, rfl⟩ : ∃ m, k = m + 1 := ⟨k - 1, by omega⟩
    simp only [impl_Printable.l0]
    rw [if_pos (by omega), if_pos (by omega), if_pos (by omega), drop_bt s n (by omega), List.all_cons]
    by_cases h1 : bt s (n : Int) < 32
    · rw [if_pos h1]
      have e : isPri (bt s (n : Int)) = false := by unfold isPri; simp; omega
      rw [e]; simp
    · rw [if_neg h1]
      by_cases h2 : bt s (n : Int) > 126
      · rw [if_pos h2]
        have e : isPri (bt s (n : Int)) = false := by unfold isPri; simp; omega
        rw [e]; simp
      · rw [if_neg h2, w64 (by omega) (by omega)]
        have e : isPri (bt s (n : Int)) = true := by unfold isPri; simp; omega
        rw [e, Bool.true_and]
        exact ih (n + 1) k (by omega) (by omega)

theorem impl_Printable_at (s : ByteArray) (hs : s.size ≤ 140737488351232) (k : Nat) (hk : s.size < k) : impl_Printable.f k s = some ((bytesOf s).all isPri) := by
  unfold impl_Printable.f
  have h := impl_Printable_l s hs s.size 0 k (by omega) hk
  simpa using h
end Go.Proofs.Ytnhejdelcopphaa.Q
