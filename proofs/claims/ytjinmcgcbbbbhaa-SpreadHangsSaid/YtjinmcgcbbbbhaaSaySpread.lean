-- Written by this claim's own program over the kit's print.
import Derived.Test.YtjinmcgcbbbbhaaHand2
import Derived.Test.YtjinmcgcbbbbhaaHSpreadx0
import Derived.Test.YtjinmcgcbbbbhaaHSpreadx4
namespace Go.Proofs.Ytjinmcgcbbbbhaa.HSpread
open Go.RowKit Go.Proofs.YtjinmcgcbbbbhaaW.PrintWords Go.Proofs.YtjinmcgcbbbbhaaW.PrintLast Go.Proofs.YtjinmcgcbbbbhaaW.PrintMore Go.Proofs.Ytjinmcgcbbbbhaa.Hand
/-- What is known of a value of type 48 that an argument holds. -/
def W48 (x : S48) : Prop := ((Lit.int .i64 x.f0).wf = true) ∧ (Lit.int .i64 x.f1).wf = true
theorem rd48 : RdB Try.prog 48 k48 W48 := RdB.array 2 (fun x : S48 => (x.f0, x.f1)) (fun y => ⟨y.1, y.2⟩) Try.underlying48 (by kernel_rfl) (fun _ => rfl) (RdF.cons (by kernel_rfl) (RdB.int (k := .i64) Try.underlying2) (RdF.one (by kernel_rfl) (RdB.int (k := .i64) Try.underlying2)))
/-- What the law stickfullaw17_SpreadHangs asks of the plain functions. -/
def stickfullaw17_SpreadHangs.Pure : Prop := ∀ (a0 : Int) (a1 : Int) (x2 : S48), (Lit.int .i64 a0).wf = true → (Lit.int .i64 a1).wf = true → W48 x2 → ∃ k, stickfullaw17_SpreadHangs.f k a0 a1 x2.f0 x2.f1 = some true
end Go.Proofs.Ytjinmcgcbbbbhaa.HSpread
