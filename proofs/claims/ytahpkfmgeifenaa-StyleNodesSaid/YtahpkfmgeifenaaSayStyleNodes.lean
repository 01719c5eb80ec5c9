-- Written by this claim's own program over the kit's print.
import Derived.Test.YtahpkfmgeifenaaSayStyle
import Derived.Test.YtahpkfmgeifenaaHStylex14
namespace Go.Proofs.Ytahpkfmgeifenaa.HStyle
open Go.RowKit Go.Proofs.YtahpkfmgeifenaaW.PrintWords Go.Proofs.YtahpkfmgeifenaaW.PrintLast Go.Proofs.YtahpkfmgeifenaaW.PrintMore Go.Proofs.Ytahpkfmgeifenaa.Hand
/-- What the law stickfullaw06_StyleNodes asks of the plain functions. -/
def stickfullaw06_StyleNodes.Pure : Prop := ∀ (x0 : S23) (l1 : List Int) (l2 : List (S26)), W23 x0 → (l1.length ≤ 9223372036854775807 ∧ l1.length * 8 ≤ 140737488351232 ∧ ∀ y0 ∈ l1, (Lit.int .i64 y0).wf = true) → (l2.length ≤ 9223372036854775807 ∧ l2.length * 56 ≤ 140737488351232 ∧ ∀ y0 ∈ l2, W26 y0) → ∃ k, stickfullaw06_StyleNodes.f k x0.f0 x0.f1 x0.f2 x0.f3 x0.f4 x0.f5 x0.f6 x0.f7 x0.f8 l1 l2 = some true
end Go.Proofs.Ytahpkfmgeifenaa.HStyle
