-- Written by this claim's own program over the kit's print.
import Derived.Test.YtkaiibipcnlaiaaMB
import Derived.Test.YtkaiibipcnlaiaaHEllWx0
namespace Go.Proofs.Ytkaiibipcnlaiaa.HEllW
open Go.RowKit Go.Proofs.YtkaiibipcnlaiaaW.PrintWords Go.Proofs.YtkaiibipcnlaiaaW.PrintLast Go.Proofs.YtkaiibipcnlaiaaW.PrintMore Go.Proofs.Ytkaiibipcnlaiaa.Hand
/-- What is known of a value of type 78 that an argument holds. -/
def W78 (x : S78) : Prop := ((Lit.int .i32 x.f0).wf = true) ∧ ((Lit.int .i64 x.f1).wf = true) ∧ ((Lit.int .i64 x.f2).wf = true) ∧ ((Lit.int .i64 x.f3).wf = true) ∧ (Lit.int .u8 x.f4).wf = true
theorem rd78 : RdB Try.prog 78 k78 W78 := RdB.struct (ts := [21, 3, 3, 3, 5]) (fun x : S78 => (x.f0, x.f1, x.f2, x.f3, x.f4)) (fun y => ⟨y.1, y.2.1, y.2.2.1, y.2.2.2.1, y.2.2.2.2⟩) Try.underlying78 rfl (by kernel_rfl) (by kernel_rfl) (fun _ => rfl) (RdF.cons (by kernel_rfl) (RdB.int (k := .i32) Try.underlying21) (RdF.cons (by kernel_rfl) (RdB.int (k := .i64) Try.underlying3) (RdF.cons (by kernel_rfl) (RdB.int (k := .i64) Try.underlying3) (RdF.cons (by kernel_rfl) (RdB.int (k := .i64) Try.underlying3) (RdF.one (by kernel_rfl) (RdB.int (k := .u8) Try.underlying5))))))
/-- What is known of a value of type 53 that an argument holds. -/
def W53 (x : S53) : Prop := ((Lit.int .u8 x.f0).wf = true) ∧ ((Lit.int .i64 x.f1).wf = true) ∧ ((Lit.int .i64 x.f2).wf = true) ∧ ((Lit.int .i64 x.f3).wf = true) ∧ (True) ∧ True
theorem rd53 : RdB Try.prog 53 k53 W53 := RdB.struct (ts := [5, 3, 3, 2, 4, 4]) (fun x : S53 => (x.f0, x.f1, x.f2, x.f3, x.f4, x.f5)) (fun y => ⟨y.1, y.2.1, y.2.2.1, y.2.2.2.1, y.2.2.2.2.1, y.2.2.2.2.2⟩) Try.underlying53 rfl (by kernel_rfl) (by kernel_rfl) (fun _ => rfl) (RdF.cons (by kernel_rfl) (RdB.int (k := .u8) Try.underlying5) (RdF.cons (by kernel_rfl) (RdB.int (k := .i64) Try.underlying3) (RdF.cons (by kernel_rfl) (RdB.int (k := .i64) Try.underlying3) (RdF.cons (by kernel_rfl) (RdB.int (k := .i64) Try.underlying2) (RdF.cons (by kernel_rfl) (RdB.bool Try.underlying4) (RdF.one (by kernel_rfl) (RdB.bool Try.underlying4)))))))
end Go.Proofs.Ytkaiibipcnlaiaa.HEllW
