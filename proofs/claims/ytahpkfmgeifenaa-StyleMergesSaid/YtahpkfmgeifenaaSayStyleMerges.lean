-- Written by this claim's own program over the kit's print.
import Derived.Test.YtahpkfmgeifenaaSayStyle
import Derived.Test.YtahpkfmgeifenaaHStylex14
namespace Go.Proofs.Ytahpkfmgeifenaa.HStyle
open Go.RowKit Go.Proofs.YtahpkfmgeifenaaW.PrintWords Go.Proofs.YtahpkfmgeifenaaW.PrintLast Go.Proofs.YtahpkfmgeifenaaW.PrintMore Go.Proofs.Ytahpkfmgeifenaa.Hand
/-- What the law stickfullaw06_StyleMerges asks of the plain functions. -/
def stickfullaw06_StyleMerges.Pure : Prop := ∀ (x0 : S23) (x1 : S53), W23 x0 → W53 x1 → ∃ k, stickfullaw06_StyleMerges.f k x0.f0 x0.f1 x0.f2 x0.f3 x0.f4 x0.f5 x0.f6 x0.f7 x0.f8 x1.f0.f0 x1.f0.f1.f0 x1.f0.f1.f1 x1.f0.f1.f2 x1.f0.f1.f3 x1.f0.f1.f4 x1.f0.f1.f5 x1.f0.f1.f6 x1.f0.f1.f7 x1.f0.f1.f8 x1.f1.f0 x1.f1.f1.f0 x1.f1.f1.f1 x1.f1.f1.f2 x1.f1.f1.f3 x1.f1.f1.f4 x1.f1.f1.f5 x1.f1.f1.f6 x1.f1.f1.f7 x1.f1.f1.f8 x1.f2.f0 x1.f2.f1.f0 x1.f2.f1.f1 x1.f2.f1.f2 x1.f2.f1.f3 x1.f2.f1.f4 x1.f2.f1.f5 x1.f2.f1.f6 x1.f2.f1.f7 x1.f2.f1.f8 = some true
end Go.Proofs.Ytahpkfmgeifenaa.HStyle
