-- Written by this claim's own program over the kit's print.
import Derived.Test.YtkegnlidlabjeaaSayIntr
import Derived.Test.YtkegnlidlabjeaaHIntrx22
namespace Go.Proofs.Ytkegnlidlabjeaa.HIntr
open Go.RowKit Go.Proofs.YtkegnlidlabjeaaW.PrintWords Go.Proofs.YtkegnlidlabjeaaW.PrintLast Go.Proofs.YtkegnlidlabjeaaW.PrintMore Go.Proofs.Ytkegnlidlabjeaa.Hand
/-- What the law stickfullaw21_IntrinsicGrows asks of the plain functions. -/
def stickfullaw21_IntrinsicGrows.Pure : Prop := ∀ (l0 : List (S35)) (l1 : List (S35)), (l0.length ≤ 9223372036854775807 ∧ l0.length * 40 ≤ 140737488351232 ∧ ∀ y0 ∈ l0, W35 y0) → (l1.length ≤ 9223372036854775807 ∧ l1.length * 40 ≤ 140737488351232 ∧ ∀ y0 ∈ l1, W35 y0) → ∃ k, stickfullaw21_IntrinsicGrows.f k l0 l1 = some true
end Go.Proofs.Ytkegnlidlabjeaa.HIntr
