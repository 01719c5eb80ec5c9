-- Written by this claim's own program over the kit's print.
import Derived.Test.YtdkhjhckdjhiiaaSayTabs
import Derived.Test.YtdkhjhckdjhiiaaHTabsx8
namespace Go.Proofs.Ytdkhjhckdjhiiaa.HTabs
open Go.RowKit Go.Proofs.YtdkhjhckdjhiiaaW.PrintWords Go.Proofs.YtdkhjhckdjhiiaaW.PrintLast Go.Proofs.YtdkhjhckdjhiiaaW.PrintMore Go.Proofs.Ytdkhjhckdjhiiaa.Hand
/-- What the law stickfullaw12_TabsGone asks of the plain functions. -/
def stickfullaw12_TabsGone.Pure : Prop := ∀ (l0 : List (S31)) (l1 : List Int) (a2 : Int), (l0.length ≤ 9223372036854775807 ∧ l0.length * 40 ≤ 140737488351232 ∧ ∀ y0 ∈ l0, W31 y0) → (l1.length ≤ 9223372036854775807 ∧ l1.length * 1 ≤ 140737488351232 ∧ ∀ y0 ∈ l1, (Lit.int .u8 y0).wf = true) → (Lit.int .i64 a2).wf = true → ∃ k, stickfullaw12_TabsGone.f k l0 l1 a2 = some true
end Go.Proofs.Ytdkhjhckdjhiiaa.HTabs
