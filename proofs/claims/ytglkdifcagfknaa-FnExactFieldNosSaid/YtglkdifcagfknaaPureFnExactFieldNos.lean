/- The program's FieldNos and the reference's answer alike, in new memory. -/
import Derived.Test.YtglkdifcagfknaaLBase
import Derived.Test.YtglkdifcagfknaaQx5
import Derived.Test.YtglkdifcagfknaaQx0
namespace Go.Proofs.Ytglkdifcagfknaa.Q
open Go.RowKit Go.Proofs.YtglkdifcagfknaaW.PrintWords Go.Proofs.YtglkdifcagfknaaW.PrintLast Go.Proofs.YtglkdifcagfknaaW.PrintMore
set_option linter.unusedVariables false
set_option linter.unusedSimpArgs false

theorem FnExactFieldNos : ∃ k, laws_FnExactFieldNos.f k = some true := ⟨150, by decide +kernel⟩
end Go.Proofs.Ytglkdifcagfknaa.Q
