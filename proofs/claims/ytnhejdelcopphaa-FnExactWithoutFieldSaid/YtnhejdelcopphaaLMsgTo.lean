/- Lemmas on what the printed functions compute (msgTo); no condition. -/
import Derived.Test.YtnhejdelcopphaaLMsgs
import Derived.Test.YtnhejdelcopphaaQx18
import Derived.Test.YtnhejdelcopphaaQx0
namespace Go.Proofs.Ytnhejdelcopphaa.Q
open Go.RowKit Go.Proofs.YtnhejdelcopphaaW.PrintWords Go.Proofs.YtnhejdelcopphaaW.PrintLast Go.Proofs.YtnhejdelcopphaaW.PrintMore
set_option linter.unusedVariables false
set_option linter.unusedSimpArgs false

def conv (f : LF) : IF := ⟨f.f0, f.f1⟩

theorem toFieldS_l (l : List LF) (hl : l.length ≤ 10000000) : ∀ (d n k : Nat) (y : List IF), n + d = l.length → y.length = l.length → y.take n = (l.map conv).take n → d < k →
    laws_toFieldS.l0 k l y (n : Int) = some (l.map conv) := by
  intro d
  induction d with
  | zero =>
    intro n k y hd hy ht hk
    obtain ⟨k, rfl⟩ : ∃ m, k = m + 1 := ⟨k - 1, by omega⟩
    have c1 : ¬ (n : Int) < (l.length : Int) := by omega
    simp only [laws_toFieldS.l0, if_neg c1]
    rw [List.take_of_length_le (by omega), List.take_of_length_le (by simp; omega)] at ht
    rw [ht]
  | succ d ih =>
    intro n k y hd hy ht hk
    obtain ⟨k, rfl⟩ : ∃ m, k = m + 1 := ⟨k - 1, by omega⟩
    have c1 : (n : Int) < (l.length : Int) := by omega
    have c2 : 0 ≤ (n : Int) := by omega
    have c3 : (n : Int) < (y.length : Int) := by omega
    simp only [laws_toFieldS.l0, if_pos c1, if_pos c2, if_pos c3, w64s (n := n) (by omega), intNat, laws_toField.f, Option.bind_some]
    refine ih (n + 1) k _ (by omega) (by simpa using hy) ?_ (by omega)
    rw [List.take_succ_eq_append_getElem (by simpa [hy] using by omega), List.take_succ_eq_append_getElem (by simpa using by omega), rdL_nat l n (by omega)]
    simp [List.take_set_of_le, ht, conv]

theorem toMsg_at (m : ByteArray) (l : List LF) (hl : l.length ≤ 10000000) (k : Nat) (hk : l.length < k) : laws_toMsg.f k m l = some (m, l.map conv) := by
  unfold laws_toMsg.f laws_toFieldS.f
  have h : laws_toFieldS.l0 k l (List.replicate ((l.length : Int) : Int).toNat z71) 0 = some (l.map conv) := toFieldS_l l hl l.length 0 k _ (by omega) (by simp) (by simp) hk
  rw [if_pos (by omega), if_pos (by omega), h]
  rfl
end Go.Proofs.Ytnhejdelcopphaa.Q
