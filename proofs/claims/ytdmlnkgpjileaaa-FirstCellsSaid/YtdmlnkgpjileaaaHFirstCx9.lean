-- Written by this claim's own program over the kit's print.
import Derived.Test.YtdmlnkgpjileaaaM3
namespace Go.Proofs.Ytdmlnkgpjileaaa.HFirstC
open Go.RowKit Go.Proofs.YtdmlnkgpjileaaaW.PrintWords Go.Proofs.YtdmlnkgpjileaaaW.PrintLast Go.Proofs.YtdmlnkgpjileaaaW.PrintMore Go.Proofs.Ytdmlnkgpjileaaa.Hand
attribute [local go_sem] max2_int min2_int max_two min_two max_three min_three max_four min_four   -- for this text's walks alone
set_option linter.unusedVariables false
set_option linter.unusedSimpArgs false

-- NOT PRINTED: function 64 (bits_Add64)

/-! ### unit_fit: function 65 -/
def unit_fit.f (a0 : Int) : Option (Int × Int) := if a0 < (-4611686018427387904) then (some (0, 10)) else (if a0 > 4611686018427387904 then (some (0, 10)) else (some (a0, 0)))
set_option maxHeartbeats 8000000 in
set_option maxRecDepth 100000 in
theorem unit_fit.calls (a0 r1 r2 : Int) (w : World) (h : unit_fit.f a0 = some (r1, r2)) :
  Calls Try.prog 65 #[.int .i64 a0] w fun e w' => e = .returned (.tuple #[.int .i64 r1, .int .i64 r2]) ∧ Drawn0 w w' := by
 have H : (if a0 < (-4611686018427387904) then (some (0, 10)) else (if a0 > 4611686018427387904 then (some (0, 10)) else (some (a0, 0)))) = some (r1, r2) := h
 clear h
 by_cases c2 : a0 < (-4611686018427387904)
 ·rw [if_pos c2] at H
  have c2b0 : decide (a0 < (-4611686018427387904)) = true := decide_eq_true c2
  clear c2
  simp only [Option.some.injEq, Prod.mk.injEq] at H
  obtain ⟨rfl, rfl⟩ := H
  go_enter Try.func65, Try.ntmps65
  go_wp2
  go_ret2
  exact ⟨by first | rfl | (simp; done) | (simp [*]; done), by repeat (first | exact Drawn0.refl _ | apply Drawn0.step)⟩
 ·rw [if_neg c2] at H
  have c2b0 : decide (a0 < (-4611686018427387904)) = false := decide_eq_false c2
  clear c2
  by_cases c3 : a0 > 4611686018427387904
  ·rw [if_pos c3] at H
   have c3b0 : decide (4611686018427387904 < a0) = true := decide_eq_true c3
   clear c3
   simp only [Option.some.injEq, Prod.mk.injEq] at H
   obtain ⟨rfl, rfl⟩ := H
   go_enter Try.func65, Try.ntmps65
   go_wp2
   go_ret2
   exact ⟨by first | rfl | (simp; done) | (simp [*]; done), by repeat (first | exact Drawn0.refl _ | apply Drawn0.step)⟩
  ·rw [if_neg c3] at H
   have c3b0 : decide (4611686018427387904 < a0) = false := decide_eq_false c3
   clear c3
   simp only [Option.some.injEq, Prod.mk.injEq] at H
   obtain ⟨rfl, rfl⟩ := H
   go_enter Try.func65, Try.ntmps65
   go_wp2
   go_ret2
   exact ⟨by first | rfl | (simp; done) | (simp [*]; done), by repeat (first | exact Drawn0.refl _ | apply Drawn0.step)⟩

end Go.Proofs.Ytdmlnkgpjileaaa.HFirstC
