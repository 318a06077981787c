/- Lemmas on what the printed functions compute (specKind); no condition. -/
import Derived.Test.YtnhejdelcopphaaLKinds
import Derived.Test.YtnhejdelcopphaaQx35
import Derived.Test.YtnhejdelcopphaaQx0
namespace Go.Proofs.Ytnhejdelcopphaa.Q
open Go.RowKit Go.Proofs.YtnhejdelcopphaaW.PrintWords Go.Proofs.YtnhejdelcopphaaW.PrintLast Go.Proofs.YtnhejdelcopphaaW.PrintMore
set_option linter.unusedVariables false
set_option linter.unusedSimpArgs false

theorem spec_FieldKind_at (x : Int) (k : Nat) (hk : 20 ≤ k) : spec_FieldKind.f k x = some (kindOf x) := by
  refine later (g := fun k => spec_FieldKind.f k x) (fun k => spec_FieldKind.mono x k) ?_ k hk
  show spec_FieldKind.f 20 x = some (kindOf x)
  refine nos_cases (fun x => spec_FieldKind.f 20 x = some (kindOf x)) (by decide +kernel) (by decide +kernel) (by decide +kernel) (by decide +kernel) (by decide +kernel) (by decide +kernel) (by decide +kernel) (by decide +kernel) (by decide +kernel) (by decide +kernel) (by decide +kernel) (by decide +kernel) (by decide +kernel) (by decide +kernel) (by decide +kernel) (by decide +kernel) ?_ x
  intro x e2 e3 e4 e7 e11 e14 e37 e38 e39 e41 e48 e49 e54 e95 e102 e103
  unfold kindOf
  simp [spec_FieldKind.f, spec_FieldKind.j0, spec_FieldKind.j1, spec_FieldKind.j2, *]
end Go.Proofs.Ytnhejdelcopphaa.Q
