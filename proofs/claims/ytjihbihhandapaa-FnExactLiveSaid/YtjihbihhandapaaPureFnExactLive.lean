/- The program's Live and the reference's answer alike for every hold and every int. -/
import Derived.Test.YtjihbihhandapaaLBase
import Derived.Test.YtjihbihhandapaaQx10
import Derived.Test.YtjihbihhandapaaQx0
namespace Go.Proofs.Ytjihbihhandapaa.Q
open Go.RowKit Go.Proofs.YtjihbihhandapaaW.PrintWords Go.Proofs.YtjihbihhandapaaW.PrintLast Go.Proofs.YtjihbihhandapaaW.PrintMore
set_option linter.unusedVariables false
set_option linter.unusedSimpArgs false

theorem FnExactLive (s : ByteArray) (a b now : Int) : laws_FnExactLive.f s a b now = some true := by
  unfold laws_FnExactLive.f laws_szHold.f laws_toHold.f spec_Live.f impl_Live.f
  by_cases h : wrap64 (1048576 - (s.size : Int)) < 0
  · simp only [if_pos h, Option.bind_some]
    rfl
  · simp only [if_neg h, Option.bind_some]
    simp
end Go.Proofs.Ytjihbihhandapaa.Q
