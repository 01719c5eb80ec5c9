-- Words of this claim: those of the kit's print that its texts need.
import Derived.Test.YtagdaniakfpnfaaWN
namespace Go.Proofs.YtagdaniakfpnfaaW.PrintWords
open Go.RowKit
namespace Kd
section
variable {α : Type} {d : Kd α} {W : World} {g n : Nat} {S ok : Nat → Prop} {A : Option Addr} {ad : Addr} {xs : List α}
end
end Kd
end Go.Proofs.YtagdaniakfpnfaaW.PrintWords
