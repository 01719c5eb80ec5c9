-- Words of this claim: those of the kit's print that its texts need.
import Derived.Test.YtagdaniakfpnfaaWTab
namespace Go.Proofs.YtagdaniakfpnfaaW.PrintLast
section
variable {P : Program} {ops : Array Oper} {Q : Exit → Act → World → Prop} {md : Region.Mode} {S : World → Prop} {ds : List Nat} {T : Bool × List (List Nat × List Nat)}
end
end Go.Proofs.YtagdaniakfpnfaaW.PrintLast
