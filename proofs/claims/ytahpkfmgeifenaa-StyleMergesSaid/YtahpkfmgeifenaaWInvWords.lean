-- Words of this claim: those of the kit's print that its texts need.
import Derived.Test.YtahpkfmgeifenaaWInv
import Derived.Test.YtahpkfmgeifenaaWFootNe
namespace Go.Proofs.YtahpkfmgeifenaaW.PrintWords
open Go.RowKit
end Go.Proofs.YtahpkfmgeifenaaW.PrintWords
namespace Go.Proofs.YtahpkfmgeifenaaW.PrintLast
section
variable {ops : Array Oper} {a : Act} {o og : Oper} {g : Nat} {t : Tmp} {u : Bool}
end
end Go.Proofs.YtahpkfmgeifenaaW.PrintLast
