/- Lemmas on what the printed functions compute (eqByteS); no condition. -/
import Derived.Test.YtnhejdelcopphaaLRdset
import Derived.Test.YtnhejdelcopphaaQx7
import Derived.Test.YtnhejdelcopphaaQx0
namespace Go.Proofs.Ytnhejdelcopphaa.Q
open Go.RowKit Go.Proofs.YtnhejdelcopphaaW.PrintWords Go.Proofs.YtnhejdelcopphaaW.PrintLast Go.Proofs.YtnhejdelcopphaaW.PrintMore
set_option linter.unusedVariables false
set_option linter.unusedSimpArgs false

theorem eqByteS_l (l : List Int) (hl : l.length ≤ 10000000) : ∀ (d n k : Nat), n + d = l.length → d < k → laws_eqByteS.l0 k l l (n : Int) = some true := by
  intro d
  induction d with
  | zero =>
    intro n k hd hk
    obtain ⟨k, rfl⟩ : ∃ m, k = m + 1 := ⟨k - 1, by omega⟩
    have c1 : ¬ (n : Int) < (l.length : Int) := by omega
    simp only [laws_eqByteS.l0, if_neg c1]
  | succ d ih =>
    intro n k hd hk
    obtain ⟨k, rfl⟩ : ∃ m, k = m + 1 := ⟨k - 1, by omega⟩
    have c1 : (n : Int) < (l.length : Int) := by omega
    have c2 : 0 ≤ (n : Int) := by omega
    simp only [laws_eqByteS.l0, if_pos c1, if_pos c2, if_true, w64 c2 (by omega)]
    exact ih (n + 1) k (by omega) (by omega)

theorem eqByteS_self (l : List Int) (hl : l.length ≤ 10000000) (k : Nat) (hk : l.length < k) : laws_eqByteS.f k l l = some true := by
  unfold laws_eqByteS.f
  rw [if_pos rfl]
  exact eqByteS_l l hl l.length 0 k (by omega) hk
end Go.Proofs.Ytnhejdelcopphaa.Q
