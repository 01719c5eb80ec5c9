-- Written by this claim's own program over the kit's print.
import Derived.Test.YtkegnlidlabjeaaSayTrim
import Derived.Test.YtkegnlidlabjeaaHTrimx18
namespace Go.Proofs.Ytkegnlidlabjeaa.HTrim
open Go.RowKit Go.Proofs.YtkegnlidlabjeaaW.PrintWords Go.Proofs.YtkegnlidlabjeaaW.PrintLast Go.Proofs.YtkegnlidlabjeaaW.PrintMore Go.Proofs.Ytkegnlidlabjeaa.Hand
/-- What the law stickfullaw13_TrimEdges asks of the plain functions. -/
def stickfullaw13_TrimEdges.Pure : Prop := ∀ (l0 : List (S35)) (l1 : List (S35)) (l2 : List (S35)), (l0.length ≤ 9223372036854775807 ∧ l0.length * 40 ≤ 140737488351232 ∧ ∀ y0 ∈ l0, W35 y0) → (l1.length ≤ 9223372036854775807 ∧ l1.length * 40 ≤ 140737488351232 ∧ ∀ y0 ∈ l1, W35 y0) → (l2.length ≤ 9223372036854775807 ∧ l2.length * 40 ≤ 140737488351232 ∧ ∀ y0 ∈ l2, W35 y0) → ∃ k, stickfullaw13_TrimEdges.f k l0 l1 l2 = some true
end Go.Proofs.Ytkegnlidlabjeaa.HTrim
