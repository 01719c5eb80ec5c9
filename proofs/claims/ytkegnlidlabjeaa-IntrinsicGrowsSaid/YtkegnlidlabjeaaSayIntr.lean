-- Written by this claim's own program over the kit's print.
import Derived.Test.YtkegnlidlabjeaaHand2
import Derived.Test.YtkegnlidlabjeaaHIntrx0
namespace Go.Proofs.Ytkegnlidlabjeaa.HIntr
open Go.RowKit Go.Proofs.YtkegnlidlabjeaaW.PrintWords Go.Proofs.YtkegnlidlabjeaaW.PrintLast Go.Proofs.YtkegnlidlabjeaaW.PrintMore Go.Proofs.Ytkegnlidlabjeaa.Hand
/-- What is known of a value of type 35 that an argument holds. -/
def W35 (x : S35) : Prop := ((Lit.int .u8 x.f0).wf = true) ∧ ((Lit.int .i64 x.f1).wf = true) ∧ ((Lit.int .i64 x.f2).wf = true) ∧ ((Lit.int .i64 x.f3).wf = true) ∧ (True) ∧ True
theorem rd35 : RdB Try.prog 35 k35 W35 := RdB.struct (ts := [5, 3, 3, 2, 4, 4]) (fun x : S35 => (x.f0, x.f1, x.f2, x.f3, x.f4, x.f5)) (fun y => ⟨y.1, y.2.1, y.2.2.1, y.2.2.2.1, y.2.2.2.2.1, y.2.2.2.2.2⟩) Try.underlying35 rfl (by kernel_rfl) (by kernel_rfl) (fun _ => rfl) (RdF.cons (by kernel_rfl) (RdB.int (k := .u8) Try.underlying5) (RdF.cons (by kernel_rfl) (RdB.int (k := .i64) Try.underlying3) (RdF.cons (by kernel_rfl) (RdB.int (k := .i64) Try.underlying3) (RdF.cons (by kernel_rfl) (RdB.int (k := .i64) Try.underlying2) (RdF.cons (by kernel_rfl) (RdB.bool Try.underlying4) (RdF.one (by kernel_rfl) (RdB.bool Try.underlying4)))))))
end Go.Proofs.Ytkegnlidlabjeaa.HIntr
