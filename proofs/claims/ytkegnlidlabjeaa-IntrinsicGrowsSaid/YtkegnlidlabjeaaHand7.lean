/- General laws: arrays of two numbers compared. No condition of its own. -/
import Derived.Test.YtkegnlidlabjeaaHand1
import Derived.ChangeKeysEq
namespace Go.Proofs.Ytkegnlidlabjeaa.Hand
open Go Go.RowKit Go.Proofs.YtkegnlidlabjeaaW.PrintWords Go.Proofs.YtkegnlidlabjeaaW.PrintLast
theorem eqArr2 {P : Program} {t e : TypeId} {k : IntKind} (hu : P.underlying t = some (.array 2 e)) (he : P.underlying e = some (.int k)) (hi : (P.info? e).isSome = true) (hc : P.cellsOf e = 1)
    (p1 : ∀ (a b : Int) (w : World), (part e #[.int k a, .int k b] 0).run P w = .ok (.int k a) w) (p2 : ∀ (a b : Int) (w : World), (part e #[.int k a, .int k b] 1).run P w = .ok (.int k b) w)
    (d : Nat) (w : World) (x0 y0 x1 y1 : Int) :
    (Op.equalIn (d + 2) t (.agg #[.int k x0, .int k x1]) (.agg #[.int k y0, .int k y1])).run P w = .ok (x0 == y0 && (x1 == y1)) w := by
  obtain ⟨i, hi⟩ := Option.isSome_iff_exists.1 hi
  rw [show d + 2 = (d + 1) + 1 from rfl, run_equalIn_array w (d + 1) _ _ hu hi, hc]
  have q : ∀ (a b : Int) (w : World), (Op.equalIn (d + 1) e (.int k a) (.int k b)).run P w = .ok (a == b) w := fun a b w => run_equalIn_int w d e k k a b he
  rw [show List.range 2 = [0, 1] from rfl]
  simp only [Op.eqItems, Sem.run_bind, Nat.zero_mul, Nat.one_mul, p1, q, Result.andThen_ok]
  cases (x0 == y0) with
  | false => simp
  | true =>
    generalize hb : (x1 == y1) = b
    have q2 := fun w => q x1 y1 w
    rw [hb] at q2
    cases b <;> simp [p2, q2]
end Go.Proofs.Ytkegnlidlabjeaa.Hand
