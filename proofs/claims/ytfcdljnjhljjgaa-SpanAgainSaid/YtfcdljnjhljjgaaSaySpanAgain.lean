-- Written by this claim's own program over the kit's print.
import Derived.Test.YtfcdljnjhljjgaaSaySpan
import Derived.Test.YtfcdljnjhljjgaaHSpanx17
namespace Go.Proofs.Ytfcdljnjhljjgaa.HSpan
open Go.RowKit Go.Proofs.YtfcdljnjhljjgaaW.PrintWords Go.Proofs.YtfcdljnjhljjgaaW.PrintLast Go.Proofs.YtfcdljnjhljjgaaW.PrintMore Go.Proofs.Ytfcdljnjhljjgaa.Hand
/-- What the law stickfullaw20_SpanAgain asks of the plain functions. -/
def stickfullaw20_SpanAgain.Pure : Prop := ∀ (x0 : S23) (l1 : List (S35)), W23 x0 → (l1.length ≤ 9223372036854775807 ∧ l1.length * 32 ≤ 140737488351232 ∧ ∀ y0 ∈ l1, W35 y0) → ∃ k, stickfullaw20_SpanAgain.f k x0.f0 x0.f1 l1 = some true
end Go.Proofs.Ytfcdljnjhljjgaa.HSpan
