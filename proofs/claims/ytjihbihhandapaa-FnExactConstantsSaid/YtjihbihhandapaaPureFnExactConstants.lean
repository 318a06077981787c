/- Every constant of the program has the document's value: no condition. -/
import Derived.Test.YtjihbihhandapaaPFnExactConstantsx1
namespace Go.Proofs.Ytjihbihhandapaa.Pure
open Go.RowKit Go.Proofs.Ytjihbihhandapaa.PFnExactConstants Go.Proofs.YtjihbihhandapaaW.PrintWords Go.Proofs.YtjihbihhandapaaW.PrintLast Go.Proofs.YtjihbihhandapaaW.PrintMore

theorem FnExactConstants : laws_FnExactConstants.Pure := rfl

end Go.Proofs.Ytjihbihhandapaa.Pure
