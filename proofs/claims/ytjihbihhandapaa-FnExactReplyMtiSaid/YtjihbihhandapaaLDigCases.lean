/- Lemmas on what the printed functions compute (digCases); no condition. -/
import Derived.Test.YtjihbihhandapaaLDigits
import Derived.Test.YtjihbihhandapaaLStrs
import Derived.Test.YtjihbihhandapaaQx0
namespace Go.Proofs.Ytjihbihhandapaa.Q
open Go.RowKit Go.Proofs.YtjihbihhandapaaW.PrintWords Go.Proofs.YtjihbihhandapaaW.PrintLast Go.Proofs.YtjihbihhandapaaW.PrintMore
set_option linter.unusedVariables false
set_option linter.unusedSimpArgs false

theorem dig_bounds {c : Int} (h : isDig c = true) : 48 ≤ c ∧ c ≤ 57 := by
  unfold isDig at h
  simpa using h

theorem all_at (l : List Int) (p : Int → Bool) (h : l.all p = true) (n : Nat) (hn : n < l.length) : p (rd l (n : Int)) = true := by
  rw [List.all_eq_true] at h
  exact h _ (rd_mem l n hn)

theorem digs_both (l : List Int) (h : digs l = true) : l.all isDig = true ∧ 0 < l.length := by
  unfold digs at h
  cases l with
  | nil => simp at h
  | cons a t => simpa using h
end Go.Proofs.Ytjihbihhandapaa.Q
