-- Written by this claim's own program over the kit's print.
import Derived.Test.YtagdaniakfpnfaaHand2
import Derived.Test.YtagdaniakfpnfaaHFillCx0
namespace Go.Proofs.Ytagdaniakfpnfaa.HFillC
open Go.RowKit Go.Proofs.YtagdaniakfpnfaaW.PrintWords Go.Proofs.YtagdaniakfpnfaaW.PrintLast Go.Proofs.YtagdaniakfpnfaaW.PrintMore Go.Proofs.Ytagdaniakfpnfaa.Hand
/-- What is known of a value of type 44 that an argument holds. -/
def W44 (x : S44) : Prop := ((Lit.int .u8 x.f0).wf = true) ∧ ((Lit.int .i64 x.f1).wf = true) ∧ ((Lit.int .i64 x.f2).wf = true) ∧ ((Lit.int .i64 x.f3).wf = true) ∧ (True) ∧ True
theorem rd44 : RdB Try.prog 44 k44 W44 := RdB.struct (ts := [5, 3, 3, 2, 4, 4]) (fun x : S44 => (x.f0, x.f1, x.f2, x.f3, x.f4, x.f5)) (fun y => ⟨y.1, y.2.1, y.2.2.1, y.2.2.2.1, y.2.2.2.2.1, y.2.2.2.2.2⟩) Try.underlying44 rfl (by kernel_rfl) (by kernel_rfl) (fun _ => rfl) (RdF.cons (by kernel_rfl) (RdB.int (k := .u8) Try.underlying5) (RdF.cons (by kernel_rfl) (RdB.int (k := .i64) Try.underlying3) (RdF.cons (by kernel_rfl) (RdB.int (k := .i64) Try.underlying3) (RdF.cons (by kernel_rfl) (RdB.int (k := .i64) Try.underlying2) (RdF.cons (by kernel_rfl) (RdB.bool Try.underlying4) (RdF.one (by kernel_rfl) (RdB.bool Try.underlying4)))))))
/-- What is known of a value of type 24 that an argument holds. -/
def W24 (x : S24) : Prop := ((Lit.int .i64 x.f0).wf = true) ∧ (Lit.int .i64 x.f1).wf = true
theorem rd24 : RdB Try.prog 24 k24 W24 := RdB.struct (ts := [2, 2]) (fun x : S24 => (x.f0, x.f1)) (fun y => ⟨y.1, y.2⟩) Try.underlying24 rfl (by kernel_rfl) (by kernel_rfl) (fun _ => rfl) (RdF.cons (by kernel_rfl) (RdB.int (k := .i64) Try.underlying2) (RdF.one (by kernel_rfl) (RdB.int (k := .i64) Try.underlying2)))
end Go.Proofs.Ytagdaniakfpnfaa.HFillC
