-- Written by this claim's own program over the kit's print.
import Derived.Test.YtahpkfmgeifenaaSayStyle
import Derived.Test.YtahpkfmgeifenaaHStylex15
namespace Go.Proofs.Ytahpkfmgeifenaa.HStyle
open Go.RowKit Go.Proofs.YtahpkfmgeifenaaW.PrintWords Go.Proofs.YtahpkfmgeifenaaW.PrintLast Go.Proofs.YtahpkfmgeifenaaW.PrintMore Go.Proofs.Ytahpkfmgeifenaa.Hand
/-- What the law stickfullaw06_StyleApart asks of the plain functions. -/
def stickfullaw06_StyleApart.Pure : Prop := ∀ (x0 : S23) (x1 : S26) (x2 : S26), W23 x0 → W26 x1 → W26 x2 → ∃ k, stickfullaw06_StyleApart.f k x0.f0 x0.f1 x0.f2 x0.f3 x0.f4 x0.f5 x0.f6 x0.f7 x0.f8 x1.f0 x1.f1.f0 x1.f1.f1 x1.f1.f2 x1.f1.f3 x1.f1.f4 x1.f1.f5 x1.f1.f6 x1.f1.f7 x1.f1.f8 x2.f0 x2.f1.f0 x2.f1.f1 x2.f1.f2 x2.f1.f3 x2.f1.f4 x2.f1.f5 x2.f1.f6 x2.f1.f7 x2.f1.f8 = some true
end Go.Proofs.Ytahpkfmgeifenaa.HStyle
