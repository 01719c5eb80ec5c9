-- Written by this claim's own program over the kit's print.
import Derived.Test.YtahpkfmgeifenaaHand2
import Derived.Test.YtahpkfmgeifenaaHStylex0
namespace Go.Proofs.Ytahpkfmgeifenaa.HStyle
open Go.RowKit Go.Proofs.YtahpkfmgeifenaaW.PrintWords Go.Proofs.YtahpkfmgeifenaaW.PrintLast Go.Proofs.YtahpkfmgeifenaaW.PrintMore Go.Proofs.Ytahpkfmgeifenaa.Hand
/-- What is known of a value of type 23 that an argument holds. -/
def W23 (x : S23) : Prop := ((Lit.int .u8 x.f0).wf = true) ∧ ((Lit.int .u8 x.f1).wf = true) ∧ ((Lit.int .u8 x.f2).wf = true) ∧ ((Lit.int .u8 x.f3).wf = true) ∧ ((Lit.int .i64 x.f4).wf = true) ∧ ((Lit.int .i64 x.f5).wf = true) ∧ ((Lit.int .i64 x.f6).wf = true) ∧ ((Lit.int .u8 x.f7).wf = true) ∧ (Lit.int .i64 x.f8).wf = true
theorem rd23 : RdB Try.prog 23 k23 W23 := RdB.struct (ts := [5, 5, 5, 5, 3, 3, 2, 5, 2]) (fun x : S23 => (x.f0, x.f1, x.f2, x.f3, x.f4, x.f5, x.f6, x.f7, x.f8)) (fun y => ⟨y.1, y.2.1, y.2.2.1, y.2.2.2.1, y.2.2.2.2.1, y.2.2.2.2.2.1, y.2.2.2.2.2.2.1, y.2.2.2.2.2.2.2.1, y.2.2.2.2.2.2.2.2⟩) Try.underlying23 rfl (by kernel_rfl) (by kernel_rfl) (fun _ => rfl) (RdF.cons (by kernel_rfl) (RdB.int (k := .u8) Try.underlying5) (RdF.cons (by kernel_rfl) (RdB.int (k := .u8) Try.underlying5) (RdF.cons (by kernel_rfl) (RdB.int (k := .u8) Try.underlying5) (RdF.cons (by kernel_rfl) (RdB.int (k := .u8) Try.underlying5) (RdF.cons (by kernel_rfl) (RdB.int (k := .i64) Try.underlying3) (RdF.cons (by kernel_rfl) (RdB.int (k := .i64) Try.underlying3) (RdF.cons (by kernel_rfl) (RdB.int (k := .i64) Try.underlying2) (RdF.cons (by kernel_rfl) (RdB.int (k := .u8) Try.underlying5) (RdF.one (by kernel_rfl) (RdB.int (k := .i64) Try.underlying2))))))))))
/-- What is known of a value of type 26 that an argument holds. -/
def W26 (x : S26) : Prop := ((Lit.int .u16 x.f0).wf = true) ∧ W23 x.f1
theorem rd26 : RdB Try.prog 26 k26 W26 := RdB.struct (ts := [24, 23]) (fun x : S26 => (x.f0, x.f1)) (fun y => ⟨y.1, y.2⟩) Try.underlying26 rfl (by kernel_rfl) (by kernel_rfl) (fun _ => rfl) (RdF.cons (by kernel_rfl) (RdB.int (k := .u16) Try.underlying24) (RdF.one (by kernel_rfl) rd23))
/-- What is known of a value of type 53 that an argument holds. -/
def W53 (x : S53) : Prop := (W26 x.f0) ∧ (W26 x.f1) ∧ W26 x.f2
theorem rd53 : RdB Try.prog 53 k53 W53 := RdB.struct (ts := [26, 26, 26]) (fun x : S53 => (x.f0, x.f1, x.f2)) (fun y => ⟨y.1, y.2.1, y.2.2⟩) Try.underlying53 rfl (by kernel_rfl) (by kernel_rfl) (fun _ => rfl) (RdF.cons (by kernel_rfl) rd26 (RdF.cons (by kernel_rfl) rd26 (RdF.one (by kernel_rfl) rd26)))
end Go.Proofs.Ytahpkfmgeifenaa.HStyle
