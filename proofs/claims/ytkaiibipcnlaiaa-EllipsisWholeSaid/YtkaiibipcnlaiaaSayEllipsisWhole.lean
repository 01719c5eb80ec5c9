-- Written by this claim's own program over the kit's print.
import Derived.Test.YtkaiibipcnlaiaaSayEllW
import Derived.Test.YtkaiibipcnlaiaaHEllWx18
namespace Go.Proofs.Ytkaiibipcnlaiaa.HEllW
open Go.RowKit Go.Proofs.YtkaiibipcnlaiaaW.PrintWords Go.Proofs.YtkaiibipcnlaiaaW.PrintLast Go.Proofs.YtkaiibipcnlaiaaW.PrintMore Go.Proofs.Ytkaiibipcnlaiaa.Hand
/-- What the law stickfullaw26_EllipsisWhole asks of the plain functions. -/
def stickfullaw26_EllipsisWhole.Pure : Prop := ∀ (l0 : List (S78)) (l1 : List (S53)), (l0.length ≤ 9223372036854775807 ∧ l0.length * 40 ≤ 140737488351232 ∧ ∀ y0 ∈ l0, W78 y0) → (l1.length ≤ 9223372036854775807 ∧ l1.length * 40 ≤ 140737488351232 ∧ ∀ y0 ∈ l1, W53 y0) → ∃ k, stickfullaw26_EllipsisWhole.f k l0 l1 = some true
end Go.Proofs.Ytkaiibipcnlaiaa.HEllW
