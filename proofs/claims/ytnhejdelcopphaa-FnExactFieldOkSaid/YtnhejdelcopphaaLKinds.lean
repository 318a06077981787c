/- Lemmas on what the printed functions compute (kinds); no condition. -/
import Derived.Test.YtnhejdelcopphaaLBase
import Derived.Test.YtnhejdelcopphaaQx0
namespace Go.Proofs.Ytnhejdelcopphaa.Q
open Go.RowKit Go.Proofs.YtnhejdelcopphaaW.PrintWords Go.Proofs.YtnhejdelcopphaaW.PrintLast Go.Proofs.YtnhejdelcopphaaW.PrintMore
set_option linter.unusedVariables false
set_option linter.unusedSimpArgs false

def kindOf (x : Int) : Int := if x = 2 then 3 else if x = 3 ∨ x = 4 ∨ x = 7 ∨ x = 11 ∨ x = 14 ∨ x = 49 then 1 else if x = 37 ∨ x = 38 ∨ x = 39 ∨ x = 41 ∨ x = 95 then 2 else if x = 102 ∨ x = 103 then 4 else if x = 48 ∨ x = 54 then 5 else 0
def sizeOf_ (x : Int) : Int := if x = 2 then 19 else if x = 3 ∨ x = 11 ∨ x = 38 then 6 else if x = 4 ∨ x = 37 ∨ x = 95 then 12 else if x = 7 then 10 else if x = 14 then 4 else if x = 39 then 2 else if x = 41 then 8 else if x = 49 then 3 else if x = 102 ∨ x = 103 then 20 else if x = 48 ∨ x = 54 then 60 else 0

/-- Every number is one of the sixteen, or none of them. -/
theorem nos_cases (P : Int → Prop) (h2 : P 2) (h3 : P 3) (h4 : P 4) (h7 : P 7) (h11 : P 11) (h14 : P 14) (h37 : P 37) (h38 : P 38) (h39 : P 39) (h41 : P 41) (h48 : P 48) (h49 : P 49) (h54 : P 54) (h95 : P 95) (h102 : P 102) (h103 : P 103)
    (hno : ∀ x : Int, ¬ x = 2 → ¬ x = 3 → ¬ x = 4 → ¬ x = 7 → ¬ x = 11 → ¬ x = 14 → ¬ x = 37 → ¬ x = 38 → ¬ x = 39 → ¬ x = 41 → ¬ x = 48 → ¬ x = 49 → ¬ x = 54 → ¬ x = 95 → ¬ x = 102 → ¬ x = 103 → P x) (x : Int) : P x := by
  by_cases e2 : x = 2
  · subst e2; exact h2
  by_cases e3 : x = 3
  · subst e3; exact h3
  by_cases e4 : x = 4
  · subst e4; exact h4
  by_cases e7 : x = 7
  · subst e7; exact h7
  by_cases e11 : x = 11
  · subst e11; exact h11
  by_cases e14 : x = 14
  · subst e14; exact h14
  by_cases e37 : x = 37
  · subst e37; exact h37
  by_cases e38 : x = 38
  · subst e38; exact h38
  by_cases e39 : x = 39
  · subst e39; exact h39
  by_cases e41 : x = 41
  · subst e41; exact h41
  by_cases e48 : x = 48
  · subst e48; exact h48
  by_cases e49 : x = 49
  · subst e49; exact h49
  by_cases e54 : x = 54
  · subst e54; exact h54
  by_cases e95 : x = 95
  · subst e95; exact h95
  by_cases e102 : x = 102
  · subst e102; exact h102
  by_cases e103 : x = 103
  · subst e103; exact h103
  exact hno x e2 e3 e4 e7 e11 e14 e37 e38 e39 e41 e48 e49 e54 e95 e102 e103
end Go.Proofs.Ytnhejdelcopphaa.Q
