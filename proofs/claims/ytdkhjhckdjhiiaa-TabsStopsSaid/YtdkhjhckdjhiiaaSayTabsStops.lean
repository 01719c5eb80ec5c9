-- Written by this claim's own program over the kit's print.
import Derived.Test.YtdkhjhckdjhiiaaSayTabs
import Derived.Test.YtdkhjhckdjhiiaaHTabsx7
namespace Go.Proofs.Ytdkhjhckdjhiiaa.HTabs
open Go.RowKit Go.Proofs.YtdkhjhckdjhiiaaW.PrintWords Go.Proofs.YtdkhjhckdjhiiaaW.PrintLast Go.Proofs.YtdkhjhckdjhiiaaW.PrintMore Go.Proofs.Ytdkhjhckdjhiiaa.Hand
/-- What the law stickfullaw12_TabsStops asks of the plain functions. -/
def stickfullaw12_TabsStops.Pure : Prop := ∀ (l0 : List (S31)) (a1 : Int) (a2 : Int), (l0.length ≤ 9223372036854775807 ∧ l0.length * 40 ≤ 140737488351232 ∧ ∀ y0 ∈ l0, W31 y0) → (Lit.int .i64 a1).wf = true → (Lit.int .i64 a2).wf = true → ∃ k, stickfullaw12_TabsStops.f k l0 a1 a2 = some true
end Go.Proofs.Ytdkhjhckdjhiiaa.HTabs
