/- Lemmas on what the printed functions compute (msgs); no condition. -/
import Derived.Test.YtnhejdelcopphaaLBase
import Derived.Test.YtnhejdelcopphaaQx0
namespace Go.Proofs.Ytnhejdelcopphaa.Q
open Go.RowKit Go.Proofs.YtnhejdelcopphaaW.PrintWords Go.Proofs.YtnhejdelcopphaaW.PrintLast Go.Proofs.YtnhejdelcopphaaW.PrintMore
set_option linter.unusedVariables false
set_option linter.unusedSimpArgs false

abbrev LF := S85
abbrev IF := S71

theorem rdL_nat (l : List LF) (n : Nat) (h : n < l.length) : rd_T85 l (n : Int) = l[n] := by
  unfold rd_T85
  simp [List.getD, h]

theorem rdF_nat (l : List IF) (n : Nat) (h : n < l.length) : rd_T71 l (n : Int) = l[n] := by
  unfold rd_T71
  simp [List.getD, h]

theorem dropL (l : List LF) (n : Nat) (h : n < l.length) : l.drop n = rd_T85 l (n : Int) :: l.drop (n + 1) := by
  rw [List.drop_eq_getElem_cons h, rdL_nat l n h]

theorem dropF (l : List IF) (n : Nat) (h : n < l.length) : l.drop n = rd_T71 l (n : Int) :: l.drop (n + 1) := by
  rw [List.drop_eq_getElem_cons h, rdF_nat l n h]

theorem rdF_mem (l : List IF) (n : Nat) (h : n < l.length) : rd_T71 l (n : Int) ∈ l := by
  rw [rdF_nat l n h]
  exact List.getElem_mem h

theorem rdL_mem (l : List LF) (n : Nat) (h : n < l.length) : rd_T85 l (n : Int) ∈ l := by
  rw [rdL_nat l n h]
  exact List.getElem_mem h

theorem rdF_set_same (y : List IF) (n : Nat) (v : IF) (h : n < y.length) : rd_T71 (y.set n v) (n : Int) = v := by
  rw [rdF_nat _ _ (by simpa using h)]
  simp

theorem rdF_set_other (y : List IF) (n j : Nat) (v : IF) (h : j ≠ n) : rd_T71 (y.set n v) (j : Int) = rd_T71 y (j : Int) := by
  unfold rd_T71
  simp [List.getD, List.getElem?_set, Ne.symm h]

theorem intNat (n : Nat) : ((n : Int) : Int).toNat = n := by simp
theorem w64s {n : Nat} (h : n ≤ 140737488351232) : wrap64 ((n : Int) + 1) = ((n + 1 : Nat) : Int) := by unfold wrap64; omega
end Go.Proofs.Ytnhejdelcopphaa.Q
