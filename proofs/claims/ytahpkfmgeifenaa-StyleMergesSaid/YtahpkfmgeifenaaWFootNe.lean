-- Words of this claim: those of the kit's print that its texts need.
import Derived.Test.YtahpkfmgeifenaaWN
namespace Go.Proofs.YtahpkfmgeifenaaW.PrintWords
open Go.RowKit
namespace Kd
section
variable {α : Type} {d : Kd α} {W : World} {g n : Nat} {S ok : Nat → Prop} {A : Option Addr} {ad : Addr} {xs : List α}
end
end Kd
end Go.Proofs.YtahpkfmgeifenaaW.PrintWords
