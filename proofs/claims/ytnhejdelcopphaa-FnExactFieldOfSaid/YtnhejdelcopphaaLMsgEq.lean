/- Lemmas on what the printed functions compute (msgEq); no condition. -/
import Derived.Test.YtnhejdelcopphaaLMsgs
import Derived.Test.YtnhejdelcopphaaQx19
import Derived.Test.YtnhejdelcopphaaQx20
import Derived.Test.YtnhejdelcopphaaQx21
import Derived.Test.YtnhejdelcopphaaQx0
namespace Go.Proofs.Ytnhejdelcopphaa.Q
open Go.RowKit Go.Proofs.YtnhejdelcopphaaW.PrintWords Go.Proofs.YtnhejdelcopphaaW.PrintLast Go.Proofs.YtnhejdelcopphaaW.PrintMore
set_option linter.unusedVariables false
set_option linter.unusedSimpArgs false

theorem eqFieldS_l (l : List IF) (hl : l.length ≤ 10000000) : ∀ (d n k : Nat), n + d = l.length → d < k → laws_eqFieldS.l0 k l l (n : Int) = some true := by
  intro d
  induction d with
  | zero =>
    intro n k hd hk
    obtain ⟨k, rfl⟩ : ∃ m, k = m + 1 := ⟨k - 1, by omega⟩
    have c1 : ¬ (n : Int) < (l.length : Int) := by omega
    simp only [laws_eqFieldS.l0, if_neg c1]
  | succ d ih =>
    intro n k hd hk
    obtain ⟨k, rfl⟩ : ∃ m, k = m + 1 := ⟨k - 1, by omega⟩
    have c1 : (n : Int) < (l.length : Int) := by omega
    have c2 : 0 ≤ (n : Int) := by omega
    simp only [laws_eqFieldS.l0, if_pos c1, if_pos c2, w64s (n := n) (by omega), laws_eqField.f, if_true, Option.bind_some]
    exact ih (n + 1) k (by omega) (by omega)

theorem eqMsg_self (m : ByteArray) (l : List IF) (hl : l.length ≤ 10000000) (k : Nat) (hk : l.length < k) : laws_eqMsg.f k m l m l = some true := by
  unfold laws_eqMsg.f laws_eqFieldS.f
  have h : laws_eqFieldS.l0 k l l 0 = some true := eqFieldS_l l hl l.length 0 k (by omega) hk
  rw [if_pos rfl, if_pos rfl, h]
  rfl
end Go.Proofs.Ytnhejdelcopphaa.Q
