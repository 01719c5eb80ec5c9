-- Written by this claim's own program over the kit's print.
import Derived.Test.YtfcdljnjhljjgaaHand2
import Derived.Test.YtfcdljnjhljjgaaHSpanx0
namespace Go.Proofs.Ytfcdljnjhljjgaa.HSpan
open Go.RowKit Go.Proofs.YtfcdljnjhljjgaaW.PrintWords Go.Proofs.YtfcdljnjhljjgaaW.PrintLast Go.Proofs.YtfcdljnjhljjgaaW.PrintMore Go.Proofs.Ytfcdljnjhljjgaa.Hand
/-- What is known of a value of type 23 that an argument holds. -/
def W23 (x : S23) : Prop := ((Lit.int .i64 x.f0).wf = true) ∧ (Lit.int .i64 x.f1).wf = true
theorem rd23 : RdB Try.prog 23 k23 W23 := RdB.struct (ts := [2, 2]) (fun x : S23 => (x.f0, x.f1)) (fun y => ⟨y.1, y.2⟩) Try.underlying23 rfl (by kernel_rfl) (by kernel_rfl) (fun _ => rfl) (RdF.cons (by kernel_rfl) (RdB.int (k := .i64) Try.underlying2) (RdF.one (by kernel_rfl) (RdB.int (k := .i64) Try.underlying2)))
/-- What is known of a value of type 35 that an argument holds. -/
def W35 (x : S35) : Prop := (W23 x.f0) ∧ ((Lit.int .i64 x.f1).wf = true) ∧ (Lit.int .u8 x.f2).wf = true
theorem rd35 : RdB Try.prog 35 k35 W35 := RdB.struct (ts := [23, 2, 5]) (fun x : S35 => (x.f0, x.f1, x.f2)) (fun y => ⟨y.1, y.2.1, y.2.2⟩) Try.underlying35 rfl (by kernel_rfl) (by kernel_rfl) (fun _ => rfl) (RdF.cons (by kernel_rfl) rd23 (RdF.cons (by kernel_rfl) (RdB.int (k := .i64) Try.underlying2) (RdF.one (by kernel_rfl) (RdB.int (k := .u8) Try.underlying5))))
end Go.Proofs.Ytfcdljnjhljjgaa.HSpan
