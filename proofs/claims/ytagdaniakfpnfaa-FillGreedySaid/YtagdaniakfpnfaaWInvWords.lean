-- Words of this claim: those of the kit's print that its texts need.
import Derived.Test.YtagdaniakfpnfaaWInv
import Derived.Test.YtagdaniakfpnfaaWFootNe
namespace Go.Proofs.YtagdaniakfpnfaaW.PrintWords
open Go.RowKit
end Go.Proofs.YtagdaniakfpnfaaW.PrintWords
namespace Go.Proofs.YtagdaniakfpnfaaW.PrintLast
section
variable {ops : Array Oper} {a : Act} {o og : Oper} {g : Nat} {t : Tmp} {u : Bool}
end
end Go.Proofs.YtagdaniakfpnfaaW.PrintLast
