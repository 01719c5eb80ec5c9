-- Written by this claim's own program over the kit's print.
import Derived.Test.YtkegnlidlabjeaaSayTrim
import Derived.Test.YtkegnlidlabjeaaHTrimx20
namespace Go.Proofs.Ytkegnlidlabjeaa.HTrim
open Go.RowKit Go.Proofs.YtkegnlidlabjeaaW.PrintWords Go.Proofs.YtkegnlidlabjeaaW.PrintLast Go.Proofs.YtkegnlidlabjeaaW.PrintMore Go.Proofs.Ytkegnlidlabjeaa.Hand
/-- What the law stickfullaw13_TrimBounds asks of the plain functions. -/
def stickfullaw13_TrimBounds.Pure : Prop := ∀ (l0 : List (S35)) (a1 : Int), (l0.length ≤ 9223372036854775807 ∧ l0.length * 40 ≤ 140737488351232 ∧ ∀ y0 ∈ l0, W35 y0) → (Lit.int .i64 a1).wf = true → ∃ k, stickfullaw13_TrimBounds.f k l0 a1 = some true
end Go.Proofs.Ytkegnlidlabjeaa.HTrim
