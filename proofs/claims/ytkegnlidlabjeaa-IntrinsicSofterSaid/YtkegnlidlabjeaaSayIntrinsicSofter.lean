-- Written by this claim's own program over the kit's print.
import Derived.Test.YtkegnlidlabjeaaSayIntr
import Derived.Test.YtkegnlidlabjeaaHIntrx23
namespace Go.Proofs.Ytkegnlidlabjeaa.HIntr
open Go.RowKit Go.Proofs.YtkegnlidlabjeaaW.PrintWords Go.Proofs.YtkegnlidlabjeaaW.PrintLast Go.Proofs.YtkegnlidlabjeaaW.PrintMore Go.Proofs.Ytkegnlidlabjeaa.Hand
/-- What the law stickfullaw21_IntrinsicSofter asks of the plain functions. -/
def stickfullaw21_IntrinsicSofter.Pure : Prop := ∀ (l0 : List (S35)) (a1 : Int) (a2 : Int), (l0.length ≤ 9223372036854775807 ∧ l0.length * 40 ≤ 140737488351232 ∧ ∀ y0 ∈ l0, W35 y0) → (Lit.int .u8 a1).wf = true → (Lit.int .u16 a2).wf = true → ∃ k, stickfullaw21_IntrinsicSofter.f k l0 a1 a2 = some true
end Go.Proofs.Ytkegnlidlabjeaa.HIntr
