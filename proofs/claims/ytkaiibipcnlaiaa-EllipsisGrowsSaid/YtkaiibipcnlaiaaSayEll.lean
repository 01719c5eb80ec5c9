-- Written by this claim's own program over the kit's print.
import Derived.Test.YtkaiibipcnlaiaaM2
import Derived.Test.YtkaiibipcnlaiaaHEllx0
namespace Go.Proofs.Ytkaiibipcnlaiaa.HEll
open Go.RowKit Go.Proofs.YtkaiibipcnlaiaaW.PrintWords Go.Proofs.YtkaiibipcnlaiaaW.PrintLast Go.Proofs.YtkaiibipcnlaiaaW.PrintMore Go.Proofs.Ytkaiibipcnlaiaa.Hand
/-- What is known of a value of type 53 that an argument holds. -/
def W53 (x : S53) : Prop := ((Lit.int .u8 x.f0).wf = true) ∧ ((Lit.int .i64 x.f1).wf = true) ∧ ((Lit.int .i64 x.f2).wf = true) ∧ ((Lit.int .i64 x.f3).wf = true) ∧ (True) ∧ True
theorem rd53 : RdB Try.prog 53 k53 W53 := RdB.struct (ts := [5, 3, 3, 2, 4, 4]) (fun x : S53 => (x.f0, x.f1, x.f2, x.f3, x.f4, x.f5)) (fun y => ⟨y.1, y.2.1, y.2.2.1, y.2.2.2.1, y.2.2.2.2.1, y.2.2.2.2.2⟩) Try.underlying53 rfl (by kernel_rfl) (by kernel_rfl) (fun _ => rfl) (RdF.cons (by kernel_rfl) (RdB.int (k := .u8) Try.underlying5) (RdF.cons (by kernel_rfl) (RdB.int (k := .i64) Try.underlying3) (RdF.cons (by kernel_rfl) (RdB.int (k := .i64) Try.underlying3) (RdF.cons (by kernel_rfl) (RdB.int (k := .i64) Try.underlying2) (RdF.cons (by kernel_rfl) (RdB.bool Try.underlying4) (RdF.one (by kernel_rfl) (RdB.bool Try.underlying4)))))))
/-- What is known of a value of type 25 that an argument holds. -/
def W25 (x : S25) : Prop := ((Lit.int .i64 x.f0).wf = true) ∧ ((Lit.int .i64 x.f1).wf = true) ∧ True
theorem rd25 : RdB Try.prog 25 k25 W25 := RdB.struct (ts := [3, 3, 4]) (fun x : S25 => (x.f0, x.f1, x.f2)) (fun y => ⟨y.1, y.2.1, y.2.2⟩) Try.underlying25 rfl (by kernel_rfl) (by kernel_rfl) (fun _ => rfl) (RdF.cons (by kernel_rfl) (RdB.int (k := .i64) Try.underlying3) (RdF.cons (by kernel_rfl) (RdB.int (k := .i64) Try.underlying3) (RdF.one (by kernel_rfl) (RdB.bool Try.underlying4))))
/-- What is known of a value of type 27 that an argument holds. -/
def W27 (x : S27) : Prop := ((x.f0.length ≤ 9223372036854775807 ∧ x.f0.length * 40 ≤ 140737488351232 ∧ ∀ y0 ∈ x.f0, W53 y0)) ∧ ((x.f1.length ≤ 9223372036854775807 ∧ x.f1.length * 1 ≤ 140737488351232 ∧ ∀ y0 ∈ x.f1, True)) ∧ (W25 x.f2) ∧ (Lit.int .i64 x.f3).wf = true
theorem rd27 : RdB Try.prog 27 k27 W27 := RdB.struct (ts := [22, 23, 25, 2]) (fun x : S27 => (x.f0, x.f1, x.f2, x.f3)) (fun y => ⟨y.1, y.2.1, y.2.2.1, y.2.2.2⟩) Try.underlying27 rfl (by kernel_rfl) (by kernel_rfl) (fun _ => rfl) (RdF.cons (by kernel_rfl) (RdB.slice 40 Try.underlying22 (by kernel_rfl) (by kernel_rfl) rd53) (RdF.cons (by kernel_rfl) (RdB.slice 1 Try.underlying23 (by kernel_rfl) (by kernel_rfl) (RdB.bool Try.underlying4)) (RdF.cons (by kernel_rfl) rd25 (RdF.one (by kernel_rfl) (RdB.int (k := .i64) Try.underlying2)))))
/-- What is known of a value of type 29 that an argument holds. -/
def W29 (x : S29) : Prop := ((Lit.int .i64 x.f0).wf = true) ∧ (Lit.int .i64 x.f1).wf = true
theorem rd29 : RdB Try.prog 29 k29 W29 := RdB.struct (ts := [2, 2]) (fun x : S29 => (x.f0, x.f1)) (fun y => ⟨y.1, y.2⟩) Try.underlying29 rfl (by kernel_rfl) (by kernel_rfl) (fun _ => rfl) (RdF.cons (by kernel_rfl) (RdB.int (k := .i64) Try.underlying2) (RdF.one (by kernel_rfl) (RdB.int (k := .i64) Try.underlying2)))
/-- What is known of a value of type 51 that an argument holds. -/
def W51 (x : S51) : Prop := ((Lit.int .i64 x.f0).wf = true) ∧ (Lit.int .i64 x.f1).wf = true
theorem rd51 : RdB Try.prog 51 k51 W51 := RdB.array 2 (fun x : S51 => (x.f0, x.f1)) (fun y => ⟨y.1, y.2⟩) Try.underlying51 (by kernel_rfl) (fun _ => rfl) (RdF.cons (by kernel_rfl) (RdB.int (k := .i64) Try.underlying2) (RdF.one (by kernel_rfl) (RdB.int (k := .i64) Try.underlying2)))
end Go.Proofs.Ytkaiibipcnlaiaa.HEll
