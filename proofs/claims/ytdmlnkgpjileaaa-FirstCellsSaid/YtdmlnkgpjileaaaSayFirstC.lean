-- Written by this claim's own program over the kit's print.
import Derived.Test.YtdmlnkgpjileaaaM2
import Derived.Test.YtdmlnkgpjileaaaM3
namespace Go.Proofs.Ytdmlnkgpjileaaa.HFirstC
open Go.RowKit Go.Proofs.YtdmlnkgpjileaaaW.PrintWords Go.Proofs.YtdmlnkgpjileaaaW.PrintLast Go.Proofs.YtdmlnkgpjileaaaW.PrintMore Go.Proofs.Ytdmlnkgpjileaaa.Hand
/-- What is known of a value of type 46 that an argument holds. -/
def W46 (x : S46) : Prop := ((Lit.int .u8 x.f0).wf = true) ∧ ((Lit.int .i64 x.f1).wf = true) ∧ ((Lit.int .i64 x.f2).wf = true) ∧ ((Lit.int .i64 x.f3).wf = true) ∧ (True) ∧ True
theorem rd46 : RdB Try.prog 46 k46 W46 := RdB.struct (ts := [5, 3, 3, 2, 4, 4]) (fun x : S46 => (x.f0, x.f1, x.f2, x.f3, x.f4, x.f5)) (fun y => ⟨y.1, y.2.1, y.2.2.1, y.2.2.2.1, y.2.2.2.2.1, y.2.2.2.2.2⟩) Try.underlying46 rfl (by kernel_rfl) (by kernel_rfl) (fun _ => rfl) (RdF.cons (by kernel_rfl) (RdB.int (k := .u8) Try.underlying5) (RdF.cons (by kernel_rfl) (RdB.int (k := .i64) Try.underlying3) (RdF.cons (by kernel_rfl) (RdB.int (k := .i64) Try.underlying3) (RdF.cons (by kernel_rfl) (RdB.int (k := .i64) Try.underlying2) (RdF.cons (by kernel_rfl) (RdB.bool Try.underlying4) (RdF.one (by kernel_rfl) (RdB.bool Try.underlying4)))))))
/-- What is known of a value of type 24 that an argument holds. -/
def W24 (x : S24) : Prop := ((Lit.int .i64 x.f0).wf = true) ∧ (Lit.int .i64 x.f1).wf = true
theorem rd24 : RdB Try.prog 24 k24 W24 := RdB.struct (ts := [2, 2]) (fun x : S24 => (x.f0, x.f1)) (fun y => ⟨y.1, y.2⟩) Try.underlying24 rfl (by kernel_rfl) (by kernel_rfl) (fun _ => rfl) (RdF.cons (by kernel_rfl) (RdB.int (k := .i64) Try.underlying2) (RdF.one (by kernel_rfl) (RdB.int (k := .i64) Try.underlying2)))
/-- What is known of a value of type 26 that an argument holds. -/
def W26 (x : S26) : Prop := ((x.f0.length ≤ 9223372036854775807 ∧ x.f0.length * 40 ≤ 140737488351232 ∧ ∀ y0 ∈ x.f0, W46 y0)) ∧ ((x.f1.length ≤ 9223372036854775807 ∧ x.f1.length * 40 ≤ 140737488351232 ∧ ∀ y0 ∈ x.f1, W46 y0)) ∧ (W24 x.f2) ∧ W24 x.f3
theorem rd26 : RdB Try.prog 26 k26 W26 := RdB.struct (ts := [22, 22, 24, 24]) (fun x : S26 => (x.f0, x.f1, x.f2, x.f3)) (fun y => ⟨y.1, y.2.1, y.2.2.1, y.2.2.2⟩) Try.underlying26 rfl (by kernel_rfl) (by kernel_rfl) (fun _ => rfl) (RdF.cons (by kernel_rfl) (RdB.slice 40 Try.underlying22 (by kernel_rfl) (by kernel_rfl) rd46) (RdF.cons (by kernel_rfl) (RdB.slice 40 Try.underlying22 (by kernel_rfl) (by kernel_rfl) rd46) (RdF.cons (by kernel_rfl) rd24 (RdF.one (by kernel_rfl) rd24))))
/-- What is known of a value of type 43 that an argument holds. -/
def W43 (x : S43) : Prop := ((Lit.int .i64 x.f0).wf = true) ∧ ((Lit.int .i64 x.f1).wf = true) ∧ True
theorem rd43 : RdB Try.prog 43 k43 W43 := RdB.struct (ts := [3, 3, 4]) (fun x : S43 => (x.f0, x.f1, x.f2)) (fun y => ⟨y.1, y.2.1, y.2.2⟩) Try.underlying43 rfl (by kernel_rfl) (by kernel_rfl) (fun _ => rfl) (RdF.cons (by kernel_rfl) (RdB.int (k := .i64) Try.underlying3) (RdF.cons (by kernel_rfl) (RdB.int (k := .i64) Try.underlying3) (RdF.one (by kernel_rfl) (RdB.bool Try.underlying4))))
end Go.Proofs.Ytdmlnkgpjileaaa.HFirstC
