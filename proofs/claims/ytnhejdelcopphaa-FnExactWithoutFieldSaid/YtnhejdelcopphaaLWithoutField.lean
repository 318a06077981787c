/- Lemmas on what the printed functions compute (withoutField); no condition. -/
import Derived.Test.YtnhejdelcopphaaLMsgs
import Derived.Test.YtnhejdelcopphaaQx43
import Derived.Test.YtnhejdelcopphaaQx42
import Derived.Test.YtnhejdelcopphaaQx0
namespace Go.Proofs.Ytnhejdelcopphaa.Q
open Go.RowKit Go.Proofs.YtnhejdelcopphaaW.PrintWords Go.Proofs.YtnhejdelcopphaaW.PrintLast Go.Proofs.YtnhejdelcopphaaW.PrintMore
set_option linter.unusedVariables false
set_option linter.unusedSimpArgs false

def without (l : List IF) (x : Int) : List IF := l.filter fun f => !decide (f.f0 = x)

theorem without_length (l : List IF) (x : Int) : (without l x).length ≤ l.length := List.length_filter_le _ _

theorem spec_WithoutField_l (x : Int) (m : ByteArray) (l : List IF) (hl : l.length ≤ 10000000) : ∀ (d n k : Nat) (y : List IF), n + d = l.length → y.length ≤ n → d < k →
    spec_WithoutField.l0 k x l (l.length : Int) (n : Int) m y = some (m, y ++ without (l.drop n) x) := by
  intro d
  induction d with
  | zero =>
    intro n k y hd hy hk
    obtain ⟨k, rfl⟩ : ∃ m, k = m + 1 := ⟨k - 1, by omega⟩
    have c1 : ¬ (n : Int) < (l.length : Int) := by omega
    simp only [spec_WithoutField.l0, if_neg c1]
    rw [List.drop_of_length_le (by omega)]
    simp [without]
  | succ d ih =>
    intro n k y hd hy hk
    obtain ⟨k, rfl⟩ : ∃ m, k = m + 1 := ⟨k - 1, by omega⟩
    have c1 : (n : Int) < (l.length : Int) := by omega
    have c2 : 0 ≤ (n : Int) := by omega
    have c3 : y.length < 5864062014805 := by omega
    rw [dropF l n (by omega)]
    simp only [spec_WithoutField.l0, if_pos c1, if_pos c2, if_pos c3, w64s (n := n) (by omega)]
    generalize rd_T71 l (n : Int) = f
    by_cases h : f.f0 = x
    · rw [if_pos h, ih (n + 1) k y (by omega) (by omega) (by omega)]
      simp [without, h]
    · rw [if_neg h, ih (n + 1) k _ (by omega) (by simp; omega) (by omega)]
      simp [without, h]

theorem withoutField_same : ∀ (k : Nat) (x : Int) (l : List IF) (n i : Int) (m : ByteArray) (y : List IF), impl_WithoutField.l0 k x l n i m y = spec_WithoutField.l0 k x l n i m y := by
  intro k
  induction k with
  | zero => intro x l n i m y; rfl
  | succ k ih => intro x l n i m y; simp only [impl_WithoutField.l0, spec_WithoutField.l0, ih]

theorem spec_WithoutField_at (m : ByteArray) (l : List IF) (x : Int) (hl : l.length ≤ 10000000) (k : Nat) (hk : l.length < k) : spec_WithoutField.f k m l x = some (m, without l x) := by
  unfold spec_WithoutField.f
  have h := spec_WithoutField_l x m l hl l.length 0 k [] (by omega) (by simp) hk
  simpa using h

theorem impl_WithoutField_at (m : ByteArray) (l : List IF) (x : Int) (hl : l.length ≤ 10000000) (k : Nat) (hk : l.length < k) : impl_WithoutField.f k m l x = some (m, without l x) := by
  unfold impl_WithoutField.f
  rw [withoutField_same]
  exact spec_WithoutField_at m l x hl k hk
end Go.Proofs.Ytnhejdelcopphaa.Q
