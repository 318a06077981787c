/- Lemmas on what the printed functions compute (toIntS); no condition. -/
import Derived.Test.YtnhejdelcopphaaLRdset
import Derived.Test.YtnhejdelcopphaaQx29
import Derived.Test.YtnhejdelcopphaaQx0
namespace Go.Proofs.Ytnhejdelcopphaa.Q
open Go.RowKit Go.Proofs.YtnhejdelcopphaaW.PrintWords Go.Proofs.YtnhejdelcopphaaW.PrintLast Go.Proofs.YtnhejdelcopphaaW.PrintMore
set_option linter.unusedVariables false
set_option linter.unusedSimpArgs false

theorem toIntS_l (l : List Int) (hl : l.length ≤ 10000000) : ∀ (d n k : Nat) (y : List Int), n + d = l.length → y.length = l.length → y.take n = l.take n → d < k →
    laws_toIntS.l0 k l y (n : Int) = some l := by
  intro d
  induction d with
  | zero =>
    intro n k y hd hy ht hk
    obtain ⟨k, rfl⟩ : ∃ m, k = m + 1 := ⟨k - 1, by omega⟩
    have c1 : ¬ (n : Int) < (l.length : Int) := by omega
    simp only [laws_toIntS.l0, if_neg c1]
    have hn : n = l.length := by omega
    rw [hn, List.take_length, List.take_of_length_le (by omega)] at ht
    rw [ht]
  | succ d ih =>
    intro n k y hd hy ht hk
    obtain ⟨k, rfl⟩ : ∃ m, k = m + 1 := ⟨k - 1, by omega⟩
    have c1 : (n : Int) < (l.length : Int) := by omega
    have c2 : 0 ≤ (n : Int) := by omega
    have c3 : (n : Int) < (y.length : Int) := by omega
    simp only [laws_toIntS.l0, if_pos c1, if_pos c2, if_pos c3, w64 c2 (by omega), toNat_cast]
    exact ih (n + 1) k _ (by omega) (by simpa using hy) (take_set_succ y l n (by omega) hy ht) (by omega)

theorem toIntS_at (l : List Int) (hl : l.length ≤ 10000000) (k : Nat) (hk : l.length < k) : laws_toIntS.f k l = some l := by
  unfold laws_toIntS.f
  rw [if_pos (by omega), if_pos (by omega)]
  exact toIntS_l l hl l.length 0 k _ (by omega) (by simp) (by simp) hk
end Go.Proofs.Ytnhejdelcopphaa.Q
