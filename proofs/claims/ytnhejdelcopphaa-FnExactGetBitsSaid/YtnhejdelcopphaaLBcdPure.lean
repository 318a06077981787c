/- Lemmas on what the printed functions compute (bcdPure); no condition. -/
import Derived.Test.YtnhejdelcopphaaLStrs
import Derived.Test.YtnhejdelcopphaaLDigits
import Derived.Test.YtnhejdelcopphaaQx0
namespace Go.Proofs.Ytnhejdelcopphaa.Q
open Go.RowKit Go.Proofs.YtnhejdelcopphaaW.PrintWords Go.Proofs.YtnhejdelcopphaaW.PrintLast Go.Proofs.YtnhejdelcopphaaW.PrintMore
set_option linter.unusedVariables false
set_option linter.unusedSimpArgs false

/-- Two and two digits in one byte. -/
def bcd : List Int → List Int
  | a :: b :: t => ((a - 48) * 16 + (b - 48)) :: bcd t
  | _ => []
def evened (l : List Int) : List Int := if l.length % 2 = 1 then 48 :: l else l
def putBcd (l : List Int) : List Int × Bool := if digs l && decide (l.length ≤ 38) then (bcd (evened l), true) else ([], false)

theorem bcd_length : ∀ (n : Nat) (l : List Int), l.length = 2 * n → (bcd l).length = n
  | 0, l, h => by
    have : l = [] := List.length_eq_zero_iff.1 (by omega)
    rw [this]; rfl
  | n + 1, a :: b :: t, h => by
    simp only [bcd, List.length_cons]
    rw [bcd_length n t (by simp at h; omega)]
  | n + 1, [a], h => by simp at h; omega
  | n + 1, [], h => by simp at h

theorem evened_length (l : List Int) : (evened l).length = 2 * ((l.length + 1) / 2) := by
  unfold evened
  split
  · simp; omega
  · omega

theorem evened_all (l : List Int) (h : l.all isDig = true) : (evened l).all isDig = true := by
  unfold evened
  split
  · simp only [List.all_cons, h, Bool.and_true]; decide
  · exact h

theorem dig_range' {c : Int} (h : isDig c = true) : 48 ≤ c ∧ c ≤ 57 := by
  unfold isDig at h
  simpa using h

theorem all_rd' (l : List Int) (p : Int → Bool) (h : l.all p = true) (n : Nat) (hn : n < l.length) : p (rd l (n : Int)) = true := by
  rw [List.all_eq_true] at h
  exact h _ (rd_mem l n hn)

theorem drop_two (l : List Int) (n : Nat) (h : n + 1 < l.length) : l.drop n = rd l (n : Int) :: rd l ((n + 1 : Nat) : Int) :: l.drop (n + 2) := by
  rw [drop_rd l n (by omega), drop_rd l (n + 1) (by omega)]

theorem digs_and (l : List Int) (h : digs l = true) : l.all isDig = true ∧ 0 < l.length := by
  unfold digs at h
  cases l with
  | nil => simp at h
  | cons a t => simpa using h
end Go.Proofs.Ytnhejdelcopphaa.Q
