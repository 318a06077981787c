/- Lemmas on what the printed functions compute (luhnPure); no condition. -/
import Derived.Test.YtglkdifcagfknaaLStrs
import Derived.Test.YtglkdifcagfknaaLDigits
import Derived.Test.YtglkdifcagfknaaQx0
namespace Go.Proofs.Ytglkdifcagfknaa.Q
open Go.RowKit Go.Proofs.YtglkdifcagfknaaW.PrintWords Go.Proofs.YtglkdifcagfknaaW.PrintLast Go.Proofs.YtglkdifcagfknaaW.PrintMore
set_option linter.unusedVariables false
set_option linter.unusedSimpArgs false

def dbl (v : Int) : Int := if 2 * v > 9 then 2 * v - 9 else 2 * v
/-- The sum over the digits from the last one on: 'l' is the text backwards. -/
def lsum : List Int → Bool → Int
  | [], _ => 0
  | c :: t, tw => (if tw then dbl (c - 48) else c - 48) + lsum t (!tw)
def luhn (l : List Int) : Int := if digs l then (10 - lsum l.reverse true % 10) % 10 else -1

theorem all_rd (l : List Int) (p : Int → Bool) (h : l.all p = true) (n : Nat) (hn : n < l.length) : p (rd l (n : Int)) = true := by
  rw [List.all_eq_true] at h
  exact h _ (rd_mem l n hn)

theorem dig_range {c : Int} (h : isDig c = true) : 48 ≤ c ∧ c ≤ 57 := by
  unfold isDig at h
  simpa using h

theorem take_rev (l : List Int) (n : Nat) (hn : n < l.length) : (l.take (n + 1)).reverse = rd l (n : Int) :: (l.take n).reverse := by
  rw [List.take_succ_eq_append_getElem hn, rd_nat l n hn]
  simp

theorem dbl_range (v : Int) (h0 : 0 ≤ v) (h1 : v ≤ 9) : 0 ≤ dbl v ∧ dbl v ≤ 9 := by unfold dbl; split <;> omega
end Go.Proofs.Ytglkdifcagfknaa.Q
