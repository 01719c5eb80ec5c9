-- Written by this claim's own program over the kit's print.
import Derived.Test.YtkegnlidlabjeaaHand7
import Derived.Test.YtkegnlidlabjeaaHIntrx0
namespace Go.Proofs.Ytkegnlidlabjeaa.HIntr
open Go.RowKit Go.Proofs.YtkegnlidlabjeaaW.PrintWords Go.Proofs.YtkegnlidlabjeaaW.PrintLast Go.Proofs.YtkegnlidlabjeaaW.PrintMore
attribute [local go_sem] max2_int min2_int max_two min_two max_three min_three max_four min_four   -- for this text's walks alone
set_option linter.unusedVariables false
set_option linter.unusedSimpArgs false

theorem eqA50 (d : Nat) (w : World) (x0 y0 : Int) (x1 y1 : Int) :
    (Op.equalIn (d + 2) 50 (.agg #[.int .i64 x0, .int .i64 x1]) (.agg #[.int .i64 y0, .int .i64 y1])).run Try.prog w = .ok (x0 == y0 && (x1 == y1)) w := by
  exact Go.Proofs.Ytkegnlidlabjeaa.Hand.eqArr2 (k := .i64) Try.underlying50 Try.underlying3 (by kernel_rfl) (by kernel_rfl) (fun _ _ _ => by first | (go_simp; done) | (go_simp; rfl)) (fun _ _ _ => by first | (go_simp; done) | (go_simp; rfl)) d w x0 y0 x1 y1
end Go.Proofs.Ytkegnlidlabjeaa.HIntr
