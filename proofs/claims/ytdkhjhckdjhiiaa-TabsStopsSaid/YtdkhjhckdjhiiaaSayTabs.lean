-- Written by this claim's own program over the kit's print.
import Derived.Test.YtdkhjhckdjhiiaaHand2
import Derived.Test.YtdkhjhckdjhiiaaHTabsx0
namespace Go.Proofs.Ytdkhjhckdjhiiaa.HTabs
open Go.RowKit Go.Proofs.YtdkhjhckdjhiiaaW.PrintWords Go.Proofs.YtdkhjhckdjhiiaaW.PrintLast Go.Proofs.YtdkhjhckdjhiiaaW.PrintMore Go.Proofs.Ytdkhjhckdjhiiaa.Hand
/-- What is known of a value of type 31 that an argument holds. -/
def W31 (x : S31) : Prop := ((Lit.int .u8 x.f0).wf = true) ∧ ((Lit.int .i64 x.f1).wf = true) ∧ ((Lit.int .i64 x.f2).wf = true) ∧ ((Lit.int .i64 x.f3).wf = true) ∧ (True) ∧ True
theorem rd31 : RdB Try.prog 31 k31 W31 := RdB.struct (ts := [5, 3, 3, 2, 4, 4]) (fun x : S31 => (x.f0, x.f1, x.f2, x.f3, x.f4, x.f5)) (fun y => ⟨y.1, y.2.1, y.2.2.1, y.2.2.2.1, y.2.2.2.2.1, y.2.2.2.2.2⟩) Try.underlying31 rfl (by kernel_rfl) (by kernel_rfl) (fun _ => rfl) (RdF.cons (by kernel_rfl) (RdB.int (k := .u8) Try.underlying5) (RdF.cons (by kernel_rfl) (RdB.int (k := .i64) Try.underlying3) (RdF.cons (by kernel_rfl) (RdB.int (k := .i64) Try.underlying3) (RdF.cons (by kernel_rfl) (RdB.int (k := .i64) Try.underlying2) (RdF.cons (by kernel_rfl) (RdB.bool Try.underlying4) (RdF.one (by kernel_rfl) (RdB.bool Try.underlying4)))))))
end Go.Proofs.Ytdkhjhckdjhiiaa.HTabs
