-- Written by this claim's own program over the kit's print.
import Derived.Test.YtkegnlidlabjeaaHTrimb
import Derived.Test.YtkegnlidlabjeaaHTrimx0
import Derived.Test.YtkegnlidlabjeaaHTrimx2
import Derived.Test.YtkegnlidlabjeaaHTrimx8
import Derived.Test.YtkegnlidlabjeaaHTrimx9
import Derived.Test.YtkegnlidlabjeaaHTrimx11
import Derived.Test.YtkegnlidlabjeaaHTrimx16
namespace Go.Proofs.Ytkegnlidlabjeaa.HTrim
open Go.RowKit Go.Proofs.YtkegnlidlabjeaaW.PrintWords Go.Proofs.YtkegnlidlabjeaaW.PrintLast Go.Proofs.YtkegnlidlabjeaaW.PrintMore Go.Proofs.Ytkegnlidlabjeaa.Hand
attribute [local go_sem] max2_int min2_int max_two min_two max_three min_three max_four min_four   -- for this text's walks alone
set_option linter.unusedVariables false
set_option linter.unusedSimpArgs false

/-! ### stickfullaw13_TrimEdges: function 5 -/
mutual
def stickfullaw13_TrimEdges.j0 : Nat → List (S35) → List (S35) → List (S35) → Bool → Option (Bool)
  | 0, _, _, _, _ => none
  | k + 1, x0, x1, x2, x41 => if x41 = true then ((stickfullaw13_head.f k).bind fun t359 => (some t359)) else ((some (([] : List (S35)) : List (S35))).bind fun y360 => (if y360.length + x1.length < 3518437208883 then ((some (y360 ++ x1 : List (S35))).bind fun y363 => (if y363.length + x0.length < 3518437208883 then ((some (y363 ++ x0 : List (S35))).bind fun y366 => (if y366.length + x2.length < 3518437208883 then (stickfullaw13_TrimEdges.l0 k x0 x1 (y366 ++ x2) 0 0) else (none))) else (none))) else (none)))
def stickfullaw13_TrimEdges.l0 : Nat → List (S35) → List (S35) → List (S35) → Int → Int → Option (Bool)
  | 0, _, _, _, _, _ => none
  | k + 1, x0, x1, x7, x8, x9 => if x9 < (x7.length : Int) then (if 0 ≤ x9 then (if ((rd_T35 x7 x9).f3) > 1099511627776 then (stickfullaw13_TrimEdges.j2 k x0 x1 x7 x8 x9 true) else (if ((rd_T35 x7 x9).f3) < (-1099511627776) then (stickfullaw13_TrimEdges.j2 k x0 x1 x7 x8 x9 true) else (stickfullaw13_TrimEdges.j2 k x0 x1 x7 x8 x9 (((rd_T35 x7 x9).f0) == 4)))) else (none)) else ((trim_Roles.f x0).bind fun t378 => ((trim_Roles.f x7).bind fun t381 => (if (t381.length : Int) = (x7.length : Int) then (stickfullaw13_TrimEdges.j3 k x0 x1 x7 x8 t378 t381 ((t378.length : Int) != (x0.length : Int))) else (stickfullaw13_TrimEdges.j3 k x0 x1 x7 x8 t378 t381 true))))
def stickfullaw13_TrimEdges.j2 : Nat → List (S35) → List (S35) → List (S35) → Int → Int → Bool → Option (Bool)
  | 0, _, _, _, _, _, _ => none
  | k + 1, x0, x1, x7, x8, x9, x77 => if x77 = true then ((stickfullaw13_head.f k).bind fun t375 => (some t375)) else (if x9 < (x1.length : Int) then (if 0 ≤ x9 then (if x9 < (x7.length : Int) then (stickfullaw13_TrimEdges.l0 k x0 x1 x7 (wrap64 (x8 + ((rd_T35 x7 x9).f3))) (wrap64 (x9 + 1))) else (none)) else (none)) else (if x9 ≥ (wrap64 ((x1.length : Int) + (x0.length : Int))) then (if 0 ≤ x9 then (if x9 < (x7.length : Int) then (stickfullaw13_TrimEdges.l0 k x0 x1 x7 (wrap64 (x8 + ((rd_T35 x7 x9).f3))) (wrap64 (x9 + 1))) else (none)) else (none)) else (stickfullaw13_TrimEdges.l0 k x0 x1 x7 x8 (wrap64 (x9 + 1)))))
def stickfullaw13_TrimEdges.j3 : Nat → List (S35) → List (S35) → List (S35) → Int → List Int → List Int → Bool → Option (Bool)
  | 0, _, _, _, _, _, _, _ => none
  | k + 1, x0, x1, x7, x8, x10, x11, x114 => if x114 = true then (some false) else (stickfullaw13_TrimEdges.l1 k x0 x1 x7 x8 x10 x11 0)
def stickfullaw13_TrimEdges.l1 : Nat → List (S35) → List (S35) → List (S35) → Int → List Int → List Int → Int → Option (Bool)
  | 0, _, _, _, _, _, _, _ => none
  | k + 1, x0, x1, x7, x8, x10, x11, x12 => if x12 < (x0.length : Int) then (if 0 ≤ x12 then (if x12 < (x10.length : Int) then (if 0 ≤ (wrap64 ((x1.length : Int) + x12)) then (if (wrap64 ((x1.length : Int) + x12)) < (x11.length : Int) then (if (rd x10 x12) = (rd x11 (wrap64 ((x1.length : Int) + x12))) then (stickfullaw13_TrimEdges.l1 k x0 x1 x7 x8 x10 x11 (wrap64 (x12 + 1))) else (some false)) else (none)) else (none)) else (none)) else (none)) else ((trim_Fits.f x0 0).bind fun bt386 => ((trim_Fits.f x7 0).bind fun bt388 => ((trim_Goes.f x0 0).bind fun bt390 => ((trim_Goes.f x7 0).bind fun bt392 => (if bt386.2 = 0 then (if bt388.2 = 0 then (if bt390.2 = 0 then (if bt392.2 = 0 then (if (wrap64 (bt388.1 - bt386.1)) = x8 then (if (wrap64 (bt392.1 - bt390.1)) = x8 then ((stickfullaw13_head.f k).bind fun t394 => (some t394)) else (some false)) else (some false)) else (some false)) else (some false)) else (some false)) else (some false))))))
end
def stickfullaw13_TrimEdges.f (k : Nat) (l0 : List (S35)) (l1 : List (S35)) (l2 : List (S35)) : Option (Bool) := if (l0.length : Int) > 150 then (stickfullaw13_TrimEdges.j0 k l0 l1 l2 true) else (if (l1.length : Int) > 50 then (stickfullaw13_TrimEdges.j0 k l0 l1 l2 true) else (if (l2.length : Int) > 50 then (stickfullaw13_TrimEdges.j0 k l0 l1 l2 true) else ((stickfullaw13_some.f k l1).bind fun t357 => ((stickfullaw13_some.f k l2).bind fun t358 => (stickfullaw13_TrimEdges.j0 k l0 l1 l2 (decide ((wrap64 (t357 + t358)) > 0)))))))
theorem stickfullaw13_TrimEdges.mono_l : ∀ k, (∀ y0 y1 y2 y3, LeO (stickfullaw13_TrimEdges.j0 k y0 y1 y2 y3) (stickfullaw13_TrimEdges.j0 (k + 1) y0 y1 y2 y3)) ∧ (∀ y0 y1 y2 y3 y4, LeO (stickfullaw13_TrimEdges.l0 k y0 y1 y2 y3 y4) (stickfullaw13_TrimEdges.l0 (k + 1) y0 y1 y2 y3 y4)) ∧ (∀ y0 y1 y2 y3 y4 y5, LeO (stickfullaw13_TrimEdges.j2 k y0 y1 y2 y3 y4 y5) (stickfullaw13_TrimEdges.j2 (k + 1) y0 y1 y2 y3 y4 y5)) ∧ (∀ y0 y1 y2 y3 y4 y5 y6, LeO (stickfullaw13_TrimEdges.j3 k y0 y1 y2 y3 y4 y5 y6) (stickfullaw13_TrimEdges.j3 (k + 1) y0 y1 y2 y3 y4 y5 y6)) ∧ (∀ y0 y1 y2 y3 y4 y5 y6, LeO (stickfullaw13_TrimEdges.l1 k y0 y1 y2 y3 y4 y5 y6) (stickfullaw13_TrimEdges.l1 (k + 1) y0 y1 y2 y3 y4 y5 y6))
  | 0 => ⟨fun _ _ _ _ r h => by simp [stickfullaw13_TrimEdges.j0] at h, fun _ _ _ _ _ r h => by simp [stickfullaw13_TrimEdges.l0] at h, fun _ _ _ _ _ _ r h => by simp [stickfullaw13_TrimEdges.j2] at h, fun _ _ _ _ _ _ _ r h => by simp [stickfullaw13_TrimEdges.j3] at h, fun _ _ _ _ _ _ _ r h => by simp [stickfullaw13_TrimEdges.l1] at h⟩
  | k + 1 => by
    obtain ⟨ih0, ih1, ih2, ih3, ih4⟩ := stickfullaw13_TrimEdges.mono_l k
    refine ⟨?_, ?_, ?_, ?_, ?_⟩
    · intro y0 y1 y2 y3
      unfold stickfullaw13_TrimEdges.j0
      repeat' first
      | (with_reducible exact ih0 _ _ _ _)
      | (with_reducible exact ih1 _ _ _ _ _)
      | (with_reducible exact ih2 _ _ _ _ _ _)
      | (with_reducible exact ih3 _ _ _ _ _ _ _)
      | (with_reducible exact ih4 _ _ _ _ _ _ _)
      | (with_reducible exact stickfullaw13_head.mono _)
      | (with_reducible exact stickfullaw13_some.mono _ _)
      | (with_reducible exact LeO.refl _)
      | (with_reducible exact LeO.none _)
      | (with_reducible refine LeO.ite ?_ ?_)
      | (with_reducible refine LeO.bind ?_ (fun _ => ?_))
      | exact ih0 _ _ _ _
      | exact ih1 _ _ _ _ _
      | exact ih2 _ _ _ _ _ _
      | exact ih3 _ _ _ _ _ _ _
      | exact ih4 _ _ _ _ _ _ _
      | exact stickfullaw13_head.mono _
      | exact stickfullaw13_some.mono _ _
      | exact LeO.none _
      | refine LeO.ite ?_ ?_
      | refine LeO.bind ?_ (fun _ => ?_)
    · intro y0 y1 y2 y3 y4
      unfold stickfullaw13_TrimEdges.l0
      repeat' first
      | (with_reducible exact ih0 _ _ _ _)
      | (with_reducible exact ih1 _ _ _ _ _)
      | (with_reducible exact ih2 _ _ _ _ _ _)
      | (with_reducible exact ih3 _ _ _ _ _ _ _)
      | (with_reducible exact ih4 _ _ _ _ _ _ _)
      | (with_reducible exact stickfullaw13_head.mono _)
      | (with_reducible exact stickfullaw13_some.mono _ _)
      | (with_reducible exact LeO.refl _)
      | (with_reducible exact LeO.none _)
      | (with_reducible refine LeO.ite ?_ ?_)
      | (with_reducible refine LeO.bind ?_ (fun _ => ?_))
      | exact ih0 _ _ _ _
      | exact ih1 _ _ _ _ _
      | exact ih2 _ _ _ _ _ _
      | exact ih3 _ _ _ _ _ _ _
      | exact ih4 _ _ _ _ _ _ _
      | exact stickfullaw13_head.mono _
      | exact stickfullaw13_some.mono _ _
      | exact LeO.none _
      | refine LeO.ite ?_ ?_
      | refine LeO.bind ?_ (fun _ => ?_)
    · intro y0 y1 y2 y3 y4 y5
      unfold stickfullaw13_TrimEdges.j2
      repeat' first
      | (with_reducible exact ih0 _ _ _ _)
      | (with_reducible exact ih1 _ _ _ _ _)
      | (with_reducible exact ih2 _ _ _ _ _ _)
      | (with_reducible exact ih3 _ _ _ _ _ _ _)
      | (with_reducible exact ih4 _ _ _ _ _ _ _)
      | (with_reducible exact stickfullaw13_head.mono _)
      | (with_reducible exact stickfullaw13_some.mono _ _)
      | (with_reducible exact LeO.refl _)
      | (with_reducible exact LeO.none _)
      | (with_reducible refine LeO.ite ?_ ?_)
      | (with_reducible refine LeO.bind ?_ (fun _ => ?_))
      | exact ih0 _ _ _ _
      | exact ih1 _ _ _ _ _
      | exact ih2 _ _ _ _ _ _
      | exact ih3 _ _ _ _ _ _ _
      | exact ih4 _ _ _ _ _ _ _
      | exact stickfullaw13_head.mono _
      | exact stickfullaw13_some.mono _ _
      | exact LeO.none _
      | refine LeO.ite ?_ ?_
      | refine LeO.bind ?_ (fun _ => ?_)
    · intro y0 y1 y2 y3 y4 y5 y6
      unfold stickfullaw13_TrimEdges.j3
      repeat' first
      | (with_reducible exact ih0 _ _ _ _)
      | (with_reducible exact ih1 _ _ _ _ _)
      | (with_reducible exact ih2 _ _ _ _ _ _)
      | (with_reducible exact ih3 _ _ _ _ _ _ _)
      | (with_reducible exact ih4 _ _ _ _ _ _ _)
      | (with_reducible exact stickfullaw13_head.mono _)
      | (with_reducible exact stickfullaw13_some.mono _ _)
      | (with_reducible exact LeO.refl _)
      | (with_reducible exact LeO.none _)
      | (with_reducible refine LeO.ite ?_ ?_)
      | (with_reducible refine LeO.bind ?_ (fun _ => ?_))
      | exact ih0 _ _ _ _
      | exact ih1 _ _ _ _ _
      | exact ih2 _ _ _ _ _ _
      | exact ih3 _ _ _ _ _ _ _
      | exact ih4 _ _ _ _ _ _ _
      | exact stickfullaw13_head.mono _
      | exact stickfullaw13_some.mono _ _
      | exact LeO.none _
      | refine LeO.ite ?_ ?_
      | refine LeO.bind ?_ (fun _ => ?_)
    · intro y0 y1 y2 y3 y4 y5 y6
      unfold stickfullaw13_TrimEdges.l1
      repeat' first
      | (with_reducible exact ih0 _ _ _ _)
      | (with_reducible exact ih1 _ _ _ _ _)
      | (with_reducible exact ih2 _ _ _ _ _ _)
      | (with_reducible exact ih3 _ _ _ _ _ _ _)
      | (with_reducible exact ih4 _ _ _ _ _ _ _)
      | (with_reducible exact stickfullaw13_head.mono _)
      | (with_reducible exact stickfullaw13_some.mono _ _)
      | (with_reducible exact LeO.refl _)
      | (with_reducible exact LeO.none _)
      | (with_reducible refine LeO.ite ?_ ?_)
      | (with_reducible refine LeO.bind ?_ (fun _ => ?_))
      | exact ih0 _ _ _ _
      | exact ih1 _ _ _ _ _
      | exact ih2 _ _ _ _ _ _
      | exact ih3 _ _ _ _ _ _ _
      | exact ih4 _ _ _ _ _ _ _
      | exact stickfullaw13_head.mono _
      | exact stickfullaw13_some.mono _ _
      | exact LeO.none _
      | refine LeO.ite ?_ ?_
      | refine LeO.bind ?_ (fun _ => ?_)
theorem stickfullaw13_TrimEdges.mono : ∀ a0 a1 a2 k, LeO (stickfullaw13_TrimEdges.f k a0 a1 a2) (stickfullaw13_TrimEdges.f (k + 1) a0 a1 a2) := by
  intro a0 a1 a2 k
  obtain ⟨ih0, ih1, ih2, ih3, ih4⟩ := stickfullaw13_TrimEdges.mono_l k
  unfold stickfullaw13_TrimEdges.f
  repeat' first
      | (with_reducible exact ih0 _ _ _ _)
      | (with_reducible exact ih1 _ _ _ _ _)
      | (with_reducible exact ih2 _ _ _ _ _ _)
      | (with_reducible exact ih3 _ _ _ _ _ _ _)
      | (with_reducible exact ih4 _ _ _ _ _ _ _)
      | (with_reducible exact stickfullaw13_head.mono _)
      | (with_reducible exact stickfullaw13_some.mono _ _)
      | (with_reducible exact LeO.refl _)
      | (with_reducible exact LeO.none _)
      | (with_reducible refine LeO.ite ?_ ?_)
      | (with_reducible refine LeO.bind ?_ (fun _ => ?_))
      | exact ih0 _ _ _ _
      | exact ih1 _ _ _ _ _
      | exact ih2 _ _ _ _ _ _
      | exact ih3 _ _ _ _ _ _ _
      | exact ih4 _ _ _ _ _ _ _
      | exact stickfullaw13_head.mono _
      | exact stickfullaw13_some.mono _ _
      | exact LeO.none _
      | refine LeO.ite ?_ ?_
      | refine LeO.bind ?_ (fun _ => ?_)
set_option maxHeartbeats 8000000 in
set_option maxRecDepth 100000 in
theorem stickfullaw13_TrimEdges.calls_t (k : Nat) (A0 : Option Addr) (c0 : Nat) (l0 : List (S35)) (A1 : Option Addr) (c1 : Nat) (l1 : List (S35)) (A2 : Option Addr) (c2 : Nat) (l2 : List (S35)) (r : Bool) (w : World) (hr0 : Kd.C k35 w A0 l0.length l0) (hc0 : l0.length ≤ c0) (hr1 : Kd.C k35 w A1 l1.length l1) (hc1 : l1.length ≤ c1) (hr2 : Kd.C k35 w A2 l2.length l2) (hc2 : l2.length ≤ c2) (h : stickfullaw13_TrimEdges.f k l0 l1 l2 = some r) (hr_ : r = true) :
    Calls Try.prog 5 #[.slice A0 l0.length c0, .slice A1 l1.length c1, .slice A2 l2.length c2] w fun e w' => e = .returned (.bool r) ∧ Below w.heap.size w w' := by
  have HR_ := Aside0.mk hr_
  clear hr_
  have HR0 := Aside0.mk hr0
  have HC0 := Aside0.mk hc0
  clear hr0 hc0
  have HR1 := Aside0.mk hr1
  have HC1 := Aside0.mk hc1
  clear hr1 hc1
  have HR2 := Aside0.mk hr2
  have HC2 := Aside0.mk hc2
  clear hr2 hc2
  have HB := Aside0.mk (Below.refl w.heap.size w)
  have H : (if (l0.length : Int) > 150 then (stickfullaw13_TrimEdges.j0 k l0 l1 l2 true) else (if (l1.length : Int) > 50 then (stickfullaw13_TrimEdges.j0 k l0 l1 l2 true) else (if (l2.length : Int) > 50 then (stickfullaw13_TrimEdges.j0 k l0 l1 l2 true) else ((stickfullaw13_some.f k l1).bind fun t357 => ((stickfullaw13_some.f k l2).bind fun t358 => (stickfullaw13_TrimEdges.j0 k l0 l1 l2 (decide ((wrap64 (t357 + t358)) > 0)))))))) = some r := h
  clear h
  have HC4 := Aside0.mk H
  clear H
  go_enter Try.func5, Try.ntmps5
  go_upto_region 1 with (fail)
  repeat (go_quiet (fail); go_upto_region 1 with (fail))
  go_cut [41] (fun v41 wc => ∃ (kq : Nat) (x41_3 : Bool), v41 = .bool x41_3 ∧ Aside0 (stickfullaw13_TrimEdges.j0 kq l0 l1 l2 x41_3 = some r) ∧ Aside0 (kq ≤ k) ∧ Aside0 (Below w.heap.size w wc))
  case first =>
    have H := HC4.out
    clear HC4
    by_cases c5 : (l0.length : Int) > 150
    · rw [if_pos c5] at H
      have c5b0 : decide (150 < (l0.length : Int)) = true := decide_eq_true c5
      have c5b1 : decide (150 < l0.length) = true := decide_eq_true (by omega)
      clear c5
      (first | rw [c5b0] | (simp only [i64_w, i32_w]; rw [c5b0]) | skip)
      have H' := Aside0.mk H
      clear H
      go_wp2
      repeat (go_quiet (fail); try go_wp2)
      go_meet
      case rel => exact ⟨_, (true), (by first | rfl | (simp; done) | (simp [*]; done)), H', ⟨by first | omega | exact Nat.le_refl _⟩, ⟨by repeat (first | (with_reducible first | exact HB.out | apply below_alloc | apply pw_below_drewN | apply below_drew1) | exact HB.out)⟩⟩
    · rw [if_neg c5] at H
      have c5b0 : decide (150 < (l0.length : Int)) = false := decide_eq_false c5
      have c5b1 : decide (150 < l0.length) = false := decide_eq_false (by omega)
      clear c5
      (first | rw [c5b0] | (simp only [i64_w, i32_w]; rw [c5b0]) | skip)
      by_cases c6 : (l1.length : Int) > 50
      · rw [if_pos c6] at H
        have c6b0 : decide (50 < (l1.length : Int)) = true := decide_eq_true c6
        have c6b1 : decide (50 < l1.length) = true := decide_eq_true (by omega)
        clear c6
        have H' := Aside0.mk H
        clear H
        go_wp2
        repeat (go_quiet (fail); try go_wp2)
        go_meet
        case rel => exact ⟨_, (true), (by first | rfl | (simp; done) | (simp [*]; done)), H', ⟨by first | omega | exact Nat.le_refl _⟩, ⟨by repeat (first | (with_reducible first | exact HB.out | apply below_alloc | apply pw_below_drewN | apply below_drew1) | exact HB.out)⟩⟩
      · rw [if_neg c6] at H
        have c6b0 : decide (50 < (l1.length : Int)) = false := decide_eq_false c6
        have c6b1 : decide (50 < l1.length) = false := decide_eq_false (by omega)
        clear c6
        by_cases c7 : (l2.length : Int) > 50
        · rw [if_pos c7] at H
          have c7b0 : decide (50 < (l2.length : Int)) = true := decide_eq_true c7
          have c7b1 : decide (50 < l2.length) = true := decide_eq_true (by omega)
          clear c7
          have H' := Aside0.mk H
          clear H
          go_wp2
          repeat (go_quiet (fail); try go_wp2)
          go_meet
          case rel => exact ⟨_, (true), (by first | rfl | (simp; done) | (simp [*]; done)), H', ⟨by first | omega | exact Nat.le_refl _⟩, ⟨by repeat (first | (with_reducible first | exact HB.out | apply below_alloc | apply pw_below_drewN | apply below_drew1) | exact HB.out)⟩⟩
        · rw [if_neg c7] at H
          have c7b0 : decide (50 < (l2.length : Int)) = false := decide_eq_false c7
          have c7b1 : decide (50 < l2.length) = false := decide_eq_false (by omega)
          clear c7
          replace H := Option.bind_eq_some_iff.mp H
          obtain ⟨t357, A80, H⟩ := H
          replace H : ((stickfullaw13_some.f k l2).bind fun t358 => (stickfullaw13_TrimEdges.j0 k l0 l1 l2 (decide ((wrap64 (t357 + t358)) > 0)))) = some r := H
          have A8 := Aside0.mk A80
          clear A80
          replace H := Option.bind_eq_some_iff.mp H
          obtain ⟨t358, A90, H⟩ := H
          replace H : (stickfullaw13_TrimEdges.j0 k l0 l1 l2 (decide ((wrap64 (t357 + t358)) > 0))) = some r := H
          have A9 := Aside0.mk A90
          clear A90
          have H' := Aside0.mk H
          clear H
          go_wp2_with (first | (go_at_call 21; (with_reducible refine (stickfullaw13_some.calls k _ _ l1 t357 _ ?side1 ?side2 A8.out).mono ?_); (case side1 => repeat (first | exact (Kd.C_below HR1.out HB.out) | (with_reducible refine Kd.C_alloc ?_ _) | (with_reducible refine Kd.C_drewN ?_ _) | (with_reducible refine Kd.C_drew ?_))); (case side2 => exact HC1.out); rintro e w' ⟨rfl, ⟨nd, rfl⟩⟩; (try first | exact ⟨rfl, _, World.drewN_drewN _ _ _⟩ | exact ⟨rfl, _, Eq.trans (World.drewN_drewN _ _ _) (congrArg (World.drewN _) (Nat.add_assoc _ _ _))⟩)) | (go_at_call 21; (with_reducible refine (stickfullaw13_some.calls k _ _ l2 t358 _ ?side1 ?side2 A9.out).mono ?_); (case side1 => repeat (first | exact (Kd.C_below HR2.out (bw HB)) | (with_reducible refine Kd.C_alloc ?_ _) | (with_reducible refine Kd.C_drewN ?_ _) | (with_reducible refine Kd.C_drew ?_))); (case side2 => exact HC2.out); rintro e w' ⟨rfl, ⟨nd, rfl⟩⟩; (try first | exact ⟨rfl, _, World.drewN_drewN _ _ _⟩ | exact ⟨rfl, _, Eq.trans (World.drewN_drewN _ _ _) (congrArg (World.drewN _) (Nat.add_assoc _ _ _))⟩)))
          repeat (go_quiet (first | (go_at_call 21; (with_reducible refine (stickfullaw13_some.calls k _ _ l1 t357 _ ?side1 ?side2 A8.out).mono ?_); (case side1 => repeat (first | exact (Kd.C_below HR1.out HB.out) | (with_reducible refine Kd.C_alloc ?_ _) | (with_reducible refine Kd.C_drewN ?_ _) | (with_reducible refine Kd.C_drew ?_))); (case side2 => exact HC1.out); rintro e w' ⟨rfl, ⟨nd, rfl⟩⟩; (try first | exact ⟨rfl, _, World.drewN_drewN _ _ _⟩ | exact ⟨rfl, _, Eq.trans (World.drewN_drewN _ _ _) (congrArg (World.drewN _) (Nat.add_assoc _ _ _))⟩)) | (go_at_call 21; (with_reducible refine (stickfullaw13_some.calls k _ _ l2 t358 _ ?side1 ?side2 A9.out).mono ?_); (case side1 => repeat (first | exact (Kd.C_below HR2.out (bw HB)) | (with_reducible refine Kd.C_alloc ?_ _) | (with_reducible refine Kd.C_drewN ?_ _) | (with_reducible refine Kd.C_drew ?_))); (case side2 => exact HC2.out); rintro e w' ⟨rfl, ⟨nd, rfl⟩⟩; (try first | exact ⟨rfl, _, World.drewN_drewN _ _ _⟩ | exact ⟨rfl, _, Eq.trans (World.drewN_drewN _ _ _) (congrArg (World.drewN _) (Nat.add_assoc _ _ _))⟩))); try go_wp2_with (first | (go_at_call 21; (with_reducible refine (stickfullaw13_some.calls k _ _ l1 t357 _ ?side1 ?side2 A8.out).mono ?_); (case side1 => repeat (first | exact (Kd.C_below HR1.out HB.out) | (with_reducible refine Kd.C_alloc ?_ _) | (with_reducible refine Kd.C_drewN ?_ _) | (with_reducible refine Kd.C_drew ?_))); (case side2 => exact HC1.out); rintro e w' ⟨rfl, ⟨nd, rfl⟩⟩; (try first | exact ⟨rfl, _, World.drewN_drewN _ _ _⟩ | exact ⟨rfl, _, Eq.trans (World.drewN_drewN _ _ _) (congrArg (World.drewN _) (Nat.add_assoc _ _ _))⟩)) | (go_at_call 21; (with_reducible refine (stickfullaw13_some.calls k _ _ l2 t358 _ ?side1 ?side2 A9.out).mono ?_); (case side1 => repeat (first | exact (Kd.C_below HR2.out (bw HB)) | (with_reducible refine Kd.C_alloc ?_ _) | (with_reducible refine Kd.C_drewN ?_ _) | (with_reducible refine Kd.C_drew ?_))); (case side2 => exact HC2.out); rintro e w' ⟨rfl, ⟨nd, rfl⟩⟩; (try first | exact ⟨rfl, _, World.drewN_drewN _ _ _⟩ | exact ⟨rfl, _, Eq.trans (World.drewN_drewN _ _ _) (congrArg (World.drewN _) (Nat.add_assoc _ _ _))⟩))))
          go_meet
          case rel => exact ⟨_, (decide ((wrap64 (t357 + t358)) > 0)), (by first | rfl | (simp; done) | (simp [*]; done)), H', ⟨by first | omega | exact Nat.le_refl _⟩, ⟨by repeat (first | (with_reducible first | exact HB.out | apply below_alloc | apply pw_below_drewN | apply below_drew1) | exact HB.out)⟩⟩
  case rest =>
    clear HC4
    try clear c1
    try clear c2
    try clear p2
    try clear c5
    try clear c5b0
    try clear c5b1
    try clear c6
    try clear c6b0
    try clear c6b1
    try clear p6
    try clear c7
    try clear c7b0
    try clear c7b1
    obtain ⟨kq, x41_3, rfl, HA, HJ3, HB⟩ := hcut
    cases kq with
    | zero => exact absurd HA.out (by simp [stickfullaw13_TrimEdges.j0])
    | succ kj3 =>
      have H := HA.out
      clear HA
      simp only [stickfullaw13_TrimEdges.j0] at H
      by_cases c10 : x41_3 = true
      · subst c10
        have H1 : ((stickfullaw13_head.f kj3).bind fun t359 => (some t359)) = some r := by rw [if_pos rfl] at H; exact H
        clear H
        have H := H1
        clear H1
        replace H := Option.bind_eq_some_iff.mp H
        obtain ⟨t359, A110, H⟩ := H
        replace H : (some t359) = some r := H
        have A11 := Aside0.mk A110
        clear A110
        obtain rfl := Option.some.inj H
        go_wp2_with (first | (go_at_call 11; (with_reducible refine (stickfullaw13_head.calls kj3  t359 _ A11.out).mono ?_); rintro e w12 ⟨rfl, hb⟩; have n0_ := Aside0.mk (below_step (bw HB) hb); clear HB; have HB := n0_; clear n0_; (try clear hb); (try clear hb2); (try clear hk); (try clear hi)))
        repeat (go_quiet (first | (go_at_call 11; (with_reducible refine (stickfullaw13_head.calls kj3  t359 _ A11.out).mono ?_); rintro e w12 ⟨rfl, hb⟩; replace HB := bh HB hb; (try clear hb); (try clear hb2); (try clear hk); (try clear hi))); try go_wp2_with (first | (go_at_call 11; (with_reducible refine (stickfullaw13_head.calls kj3  t359 _ A11.out).mono ?_); rintro e w12 ⟨rfl, hb⟩; replace HB := bh HB hb; (try clear hb); (try clear hb2); (try clear hk); (try clear hi))))
        go_ret
        exact ⟨by first | rfl | (simp [errW_none, errW_some] <;> rfl) | (simp [*, errW_none, errW_some] <;> rfl), by repeat (first | (with_reducible first | exact HB.out | apply below_alloc | apply pw_below_drewN | apply below_drew1) | exact HB.out)⟩
      · replace c10 := Bool.eq_false_iff.mpr c10
        subst c10
        have H1 : ((some (([] : List (S35)) : List (S35))).bind fun y360 => (if y360.length + l1.length < 3518437208883 then ((some (y360 ++ l1 : List (S35))).bind fun y363 => (if y363.length + l0.length < 3518437208883 then ((some (y363 ++ l0 : List (S35))).bind fun y366 => (if y366.length + l2.length < 3518437208883 then (stickfullaw13_TrimEdges.l0 kj3 l0 l1 (y366 ++ l2) 0 0) else (none))) else (none))) else (none))) = some r := by rw [if_neg (show ¬ (false = true) by decide)] at H; exact H
        clear H
        have H := H1
        clear H1
        obtain ⟨y360, hy360⟩ : ∃ y_ : List (S35), y_ = (([] : List (S35))) := ⟨_, rfl⟩
        replace H : (if y360.length + l1.length < 3518437208883 then ((some (y360 ++ l1 : List (S35))).bind fun y363 => (if y363.length + l0.length < 3518437208883 then ((some (y363 ++ l0 : List (S35))).bind fun y366 => (if y366.length + l2.length < 3518437208883 then (stickfullaw13_TrimEdges.l0 kj3 l0 l1 (y366 ++ l2) 0 0) else (none))) else (none))) else (none)) = some r := by first | (rw [hy360]; with_reducible exact H) | (have H2_ := (Option.bind_some _ _).symm.trans H; rw [hy360]; with_reducible exact H2_) | (have H2_ := (Option.bind_some _ _).symm.trans H; with_reducible exact H2_) | with_reducible exact H | (rw [hy360]; exact H) | exact H
        have Ny360 := Aside0.mk hy360
        clear hy360
        by_cases c13 : y360.length + l1.length < 3518437208883
        · rw [if_pos c13] at H
          have LMc13 := Aside0.mk c13
          clear c13
          obtain ⟨y363, hy363⟩ : ∃ y_ : List (S35), y_ = (y360 ++ l1) := ⟨_, rfl⟩
          replace H : (if y363.length + l0.length < 3518437208883 then ((some (y363 ++ l0 : List (S35))).bind fun y366 => (if y366.length + l2.length < 3518437208883 then (stickfullaw13_TrimEdges.l0 kj3 l0 l1 (y366 ++ l2) 0 0) else (none))) else (none)) = some r := by first | (rw [hy363]; with_reducible exact H) | (have H2_ := (Option.bind_some _ _).symm.trans H; rw [hy363]; with_reducible exact H2_) | (have H2_ := (Option.bind_some _ _).symm.trans H; with_reducible exact H2_) | with_reducible exact H | (rw [hy363]; exact H) | exact H
          have Ny363 := Aside0.mk hy363
          clear hy363
          by_cases c14 : y363.length + l0.length < 3518437208883
          · rw [if_pos c14] at H
            have LMc14 := Aside0.mk c14
            clear c14
            obtain ⟨y366, hy366⟩ : ∃ y_ : List (S35), y_ = (y363 ++ l0) := ⟨_, rfl⟩
            replace H : (if y366.length + l2.length < 3518437208883 then (stickfullaw13_TrimEdges.l0 kj3 l0 l1 (y366 ++ l2) 0 0) else (none)) = some r := by first | (rw [hy366]; with_reducible exact H) | (have H2_ := (Option.bind_some _ _).symm.trans H; rw [hy366]; with_reducible exact H2_) | (have H2_ := (Option.bind_some _ _).symm.trans H; with_reducible exact H2_) | with_reducible exact H | (rw [hy366]; exact H) | exact H
            have Ny366 := Aside0.mk hy366
            clear hy366
            by_cases c15 : y366.length + l2.length < 3518437208883
            · rw [if_pos c15] at H
              have LMc15 := Aside0.mk c15
              clear c15
              obtain ⟨y369, hy369⟩ : ∃ y_ : List (S35), y_ = (y366 ++ l2) := ⟨_, rfl⟩
              replace H : (stickfullaw13_TrimEdges.l0 kj3 l0 l1 y369 0 0) = some r := by first | (rw [hy369]; with_reducible exact H) | (have H2_ := (Option.bind_some _ _).symm.trans H; rw [hy369]; with_reducible exact H2_) | (have H2_ := (Option.bind_some _ _).symm.trans H; with_reducible exact H2_) | with_reducible exact H | (rw [hy369]; exact H) | exact H
              have Ny369 := Aside0.mk hy369
              clear hy369
              have H' := Aside0.mk H
              clear H
              go_wp2_with (first | ((with_reducible refine gate_dst (N := 43) rfl ?_); (try (refine gate_guard (by rfl) ?_; dsimp only)); refine Kd.R_lit k35 _ 35 ?hg (N := 43) ?hd (xs := ([] : List (S35))) (inner := []) (ok := fun _ => True) (okp := fun _ => True) ?hr ?hp (fun _ hk => hk) trivial (Below.refl _ _) (Nat.le_refl _) (by simp) ?_; (case hd => rfl); (case hg => rfl); (case hr => first | (go_simp; done) | (go_simp; rfl)); (case hp => exact (Reps.none _ _)); intro v361 w16 ho17 hb hg_ hnew_; clear hg_ hnew_; (first | rw [← Ny360.out] at ho17 | (simp only [Int.reduceToNat] at ho17; rw [← Ny360.out] at ho17)); have HO362 := Aside0.mk (Kd.R_lower ho17 (below_size (bw HB))); replace HB := bh HB hb; clear hb ho17) | ((with_reducible refine gate_builtin (b := .append) (xs := #[.tmp 43, .tmp 44]) rfl ?_); (try (refine gate_guard (by rfl) ?_; dsimp only)); at_builtin; refine Kd.R_append_rows k35 (w0 := w) w.heap.size rfl (.tmp 43) (.tmp 44) 22 35 (.agg #[(.int .u8 0), (.int .i64 0), (.int .i64 0), (.int .i64 0), (.bool false), (.bool false)]) 40 rfl Try.underlying22 info35 rfl (by decide) (by omega) v361 y360 l1 _ _ _ (fun _ => True) (fun _ => False) rfl rfl ?aO ?aR (fun _ _ h => h) (fun _ h => h.elim) ?aF ?aB ?aS ?aL ?_; (case aR => repeat (first | exact (Kd.C_below HR1.out HB.out) | (with_reducible refine Kd.C_alloc ?_ _) | (with_reducible refine Kd.C_drewN ?_ _) | (with_reducible refine Kd.C_drew ?_))); (case aB => exact (bw HB)); (case aF => exact (fun _ _ => trivial)); (case aO => exact (rx HO362)); (case aS => exact (below_size (bw HB))); (case aL => have := LMc13.out; omega); intro v364 w18 ho hb hg hat; rw [← Ny363.out] at ho; replace HB := Aside0.mk (hb); have HO365 := Aside0.mk (ho); clear HO362; clear ho hb hg hat) | ((with_reducible refine gate_builtin (b := .append) (xs := #[.tmp 45, .tmp 46]) rfl ?_); (try (refine gate_guard (by rfl) ?_; dsimp only)); at_builtin; refine Kd.R_append_rows k35 (w0 := w) w.heap.size rfl (.tmp 45) (.tmp 46) 22 35 (.agg #[(.int .u8 0), (.int .i64 0), (.int .i64 0), (.int .i64 0), (.bool false), (.bool false)]) 40 rfl Try.underlying22 info35 rfl (by decide) (by omega) v364 y363 l0 _ _ _ (fun _ => True) (fun _ => False) rfl rfl ?aO ?aR (fun _ _ h => h) (fun _ h => h.elim) ?aF ?aB ?aS ?aL ?_; (case aR => repeat (first | exact (Kd.C_below HR0.out HB.out) | (with_reducible refine Kd.C_alloc ?_ _) | (with_reducible refine Kd.C_drewN ?_ _) | (with_reducible refine Kd.C_drew ?_))); (case aB => exact (bw HB)); (case aF => exact (fun _ _ => trivial)); (case aO => exact (rx HO365)); (case aS => exact (below_size (bw HB))); (case aL => have := LMc14.out; omega); intro v367 w19 ho hb hg hat; rw [← Ny366.out] at ho; replace HB := Aside0.mk (hb); have HO368 := Aside0.mk (ho); clear HO365; clear ho hb hg hat) | ((with_reducible refine gate_builtin (b := .append) (xs := #[.tmp 47, .tmp 48]) rfl ?_); (try (refine gate_guard (by rfl) ?_; dsimp only)); at_builtin; refine Kd.R_append_rows k35 (w0 := w) w.heap.size rfl (.tmp 47) (.tmp 48) 22 35 (.agg #[(.int .u8 0), (.int .i64 0), (.int .i64 0), (.int .i64 0), (.bool false), (.bool false)]) 40 rfl Try.underlying22 info35 rfl (by decide) (by omega) v367 y366 l2 _ _ _ (fun _ => True) (fun _ => False) rfl rfl ?aO ?aR (fun _ _ h => h) (fun _ h => h.elim) ?aF ?aB ?aS ?aL ?_; (case aR => repeat (first | exact (Kd.C_below HR2.out HB.out) | (with_reducible refine Kd.C_alloc ?_ _) | (with_reducible refine Kd.C_drewN ?_ _) | (with_reducible refine Kd.C_drew ?_))); (case aB => exact (bw HB)); (case aF => exact (fun _ _ => trivial)); (case aO => exact (rx HO368)); (case aS => exact (below_size (bw HB))); (case aL => have := LMc15.out; omega); intro v370 w20 ho hb hg hat; rw [← Ny369.out] at ho; replace HB := Aside0.mk (hb); have HO371 := Aside0.mk (ho); clear HO368; clear ho hb hg hat))
              repeat (go_quiet (first | ((with_reducible refine gate_dst (N := 43) rfl ?_); (try (refine gate_guard (by rfl) ?_; dsimp only)); refine Kd.R_lit k35 _ 35 ?hg (N := 43) ?hd (xs := ([] : List (S35))) (inner := []) (ok := fun _ => True) (okp := fun _ => True) ?hr ?hp (fun _ hk => hk) trivial (Below.refl _ _) (Nat.le_refl _) (by simp) ?_; (case hd => rfl); (case hg => rfl); (case hr => first | (go_simp; done) | (go_simp; rfl)); (case hp => exact (Reps.none _ _)); intro v361 w16 ho17 hb hg_ hnew_; clear hg_ hnew_; (first | rw [← Ny360.out] at ho17 | (simp only [Int.reduceToNat] at ho17; rw [← Ny360.out] at ho17)); have HO362 := Aside0.mk (Kd.R_lower ho17 (below_size (bw HB))); replace HB := bh HB hb; clear hb ho17) | ((with_reducible refine gate_builtin (b := .append) (xs := #[.tmp 43, .tmp 44]) rfl ?_); (try (refine gate_guard (by rfl) ?_; dsimp only)); at_builtin; refine Kd.R_append_rows k35 (w0 := w) w.heap.size rfl (.tmp 43) (.tmp 44) 22 35 (.agg #[(.int .u8 0), (.int .i64 0), (.int .i64 0), (.int .i64 0), (.bool false), (.bool false)]) 40 rfl Try.underlying22 info35 rfl (by decide) (by omega) v361 y360 l1 _ _ _ (fun _ => True) (fun _ => False) rfl rfl ?aO ?aR (fun _ _ h => h) (fun _ h => h.elim) ?aF ?aB ?aS ?aL ?_; (case aR => repeat (first | exact (Kd.C_below HR1.out HB.out) | (with_reducible refine Kd.C_alloc ?_ _) | (with_reducible refine Kd.C_drewN ?_ _) | (with_reducible refine Kd.C_drew ?_))); (case aB => exact (bw HB)); (case aF => exact (fun _ _ => trivial)); (case aO => exact (rx HO362)); (case aS => exact (below_size (bw HB))); (case aL => have := LMc13.out; omega); intro v364 w18 ho hb hg hat; rw [← Ny363.out] at ho; replace HB := Aside0.mk (hb); have HO365 := Aside0.mk (ho); clear HO362; clear ho hb hg hat) | ((with_reducible refine gate_builtin (b := .append) (xs := #[.tmp 45, .tmp 46]) rfl ?_); (try (refine gate_guard (by rfl) ?_; dsimp only)); at_builtin; refine Kd.R_append_rows k35 (w0 := w) w.heap.size rfl (.tmp 45) (.tmp 46) 22 35 (.agg #[(.int .u8 0), (.int .i64 0), (.int .i64 0), (.int .i64 0), (.bool false), (.bool false)]) 40 rfl Try.underlying22 info35 rfl (by decide) (by omega) v364 y363 l0 _ _ _ (fun _ => True) (fun _ => False) rfl rfl ?aO ?aR (fun _ _ h => h) (fun _ h => h.elim) ?aF ?aB ?aS ?aL ?_; (case aR => repeat (first | exact (Kd.C_below HR0.out HB.out) | (with_reducible refine Kd.C_alloc ?_ _) | (with_reducible refine Kd.C_drewN ?_ _) | (with_reducible refine Kd.C_drew ?_))); (case aB => exact (bw HB)); (case aF => exact (fun _ _ => trivial)); (case aO => exact (rx HO365)); (case aS => exact (below_size (bw HB))); (case aL => have := LMc14.out; omega); intro v367 w19 ho hb hg hat; rw [← Ny366.out] at ho; replace HB := Aside0.mk (hb); have HO368 := Aside0.mk (ho); clear HO365; clear ho hb hg hat) | ((with_reducible refine gate_builtin (b := .append) (xs := #[.tmp 47, .tmp 48]) rfl ?_); (try (refine gate_guard (by rfl) ?_; dsimp only)); at_builtin; refine Kd.R_append_rows k35 (w0 := w) w.heap.size rfl (.tmp 47) (.tmp 48) 22 35 (.agg #[(.int .u8 0), (.int .i64 0), (.int .i64 0), (.int .i64 0), (.bool false), (.bool false)]) 40 rfl Try.underlying22 info35 rfl (by decide) (by omega) v367 y366 l2 _ _ _ (fun _ => True) (fun _ => False) rfl rfl ?aO ?aR (fun _ _ h => h) (fun _ h => h.elim) ?aF ?aB ?aS ?aL ?_; (case aR => repeat (first | exact (Kd.C_below HR2.out HB.out) | (with_reducible refine Kd.C_alloc ?_ _) | (with_reducible refine Kd.C_drewN ?_ _) | (with_reducible refine Kd.C_drew ?_))); (case aB => exact (bw HB)); (case aF => exact (fun _ _ => trivial)); (case aO => exact (rx HO368)); (case aS => exact (below_size (bw HB))); (case aL => have := LMc15.out; omega); intro v370 w20 ho hb hg hat; rw [← Ny369.out] at ho; replace HB := Aside0.mk (hb); have HO371 := Aside0.mk (ho); clear HO368; clear ho hb hg hat)); try go_wp2_with (first | ((with_reducible refine gate_dst (N := 43) rfl ?_); (try (refine gate_guard (by rfl) ?_; dsimp only)); refine Kd.R_lit k35 _ 35 ?hg (N := 43) ?hd (xs := ([] : List (S35))) (inner := []) (ok := fun _ => True) (okp := fun _ => True) ?hr ?hp (fun _ hk => hk) trivial (Below.refl _ _) (Nat.le_refl _) (by simp) ?_; (case hd => rfl); (case hg => rfl); (case hr => first | (go_simp; done) | (go_simp; rfl)); (case hp => exact (Reps.none _ _)); intro v361 w16 ho17 hb hg_ hnew_; clear hg_ hnew_; (first | rw [← Ny360.out] at ho17 | (simp only [Int.reduceToNat] at ho17; rw [← Ny360.out] at ho17)); have HO362 := Aside0.mk (Kd.R_lower ho17 (below_size (bw HB))); replace HB := bh HB hb; clear hb ho17) | ((with_reducible refine gate_builtin (b := .append) (xs := #[.tmp 43, .tmp 44]) rfl ?_); (try (refine gate_guard (by rfl) ?_; dsimp only)); at_builtin; refine Kd.R_append_rows k35 (w0 := w) w.heap.size rfl (.tmp 43) (.tmp 44) 22 35 (.agg #[(.int .u8 0), (.int .i64 0), (.int .i64 0), (.int .i64 0), (.bool false), (.bool false)]) 40 rfl Try.underlying22 info35 rfl (by decide) (by omega) v361 y360 l1 _ _ _ (fun _ => True) (fun _ => False) rfl rfl ?aO ?aR (fun _ _ h => h) (fun _ h => h.elim) ?aF ?aB ?aS ?aL ?_; (case aR => repeat (first | exact (Kd.C_below HR1.out HB.out) | (with_reducible refine Kd.C_alloc ?_ _) | (with_reducible refine Kd.C_drewN ?_ _) | (with_reducible refine Kd.C_drew ?_))); (case aB => exact (bw HB)); (case aF => exact (fun _ _ => trivial)); (case aO => exact (rx HO362)); (case aS => exact (below_size (bw HB))); (case aL => have := LMc13.out; omega); intro v364 w18 ho hb hg hat; rw [← Ny363.out] at ho; replace HB := Aside0.mk (hb); have HO365 := Aside0.mk (ho); clear HO362; clear ho hb hg hat) | ((with_reducible refine gate_builtin (b := .append) (xs := #[.tmp 45, .tmp 46]) rfl ?_); (try (refine gate_guard (by rfl) ?_; dsimp only)); at_builtin; refine Kd.R_append_rows k35 (w0 := w) w.heap.size rfl (.tmp 45) (.tmp 46) 22 35 (.agg #[(.int .u8 0), (.int .i64 0), (.int .i64 0), (.int .i64 0), (.bool false), (.bool false)]) 40 rfl Try.underlying22 info35 rfl (by decide) (by omega) v364 y363 l0 _ _ _ (fun _ => True) (fun _ => False) rfl rfl ?aO ?aR (fun _ _ h => h) (fun _ h => h.elim) ?aF ?aB ?aS ?aL ?_; (case aR => repeat (first | exact (Kd.C_below HR0.out HB.out) | (with_reducible refine Kd.C_alloc ?_ _) | (with_reducible refine Kd.C_drewN ?_ _) | (with_reducible refine Kd.C_drew ?_))); (case aB => exact (bw HB)); (case aF => exact (fun _ _ => trivial)); (case aO => exact (rx HO365)); (case aS => exact (below_size (bw HB))); (case aL => have := LMc14.out; omega); intro v367 w19 ho hb hg hat; rw [← Ny366.out] at ho; replace HB := Aside0.mk (hb); have HO368 := Aside0.mk (ho); clear HO365; clear ho hb hg hat) | ((with_reducible refine gate_builtin (b := .append) (xs := #[.tmp 47, .tmp 48]) rfl ?_); (try (refine gate_guard (by rfl) ?_; dsimp only)); at_builtin; refine Kd.R_append_rows k35 (w0 := w) w.heap.size rfl (.tmp 47) (.tmp 48) 22 35 (.agg #[(.int .u8 0), (.int .i64 0), (.int .i64 0), (.int .i64 0), (.bool false), (.bool false)]) 40 rfl Try.underlying22 info35 rfl (by decide) (by omega) v367 y366 l2 _ _ _ (fun _ => True) (fun _ => False) rfl rfl ?aO ?aR (fun _ _ h => h) (fun _ h => h.elim) ?aF ?aB ?aS ?aL ?_; (case aR => repeat (first | exact (Kd.C_below HR2.out HB.out) | (with_reducible refine Kd.C_alloc ?_ _) | (with_reducible refine Kd.C_drewN ?_ _) | (with_reducible refine Kd.C_drew ?_))); (case aB => exact (bw HB)); (case aF => exact (fun _ _ => trivial)); (case aO => exact (rx HO368)); (case aS => exact (below_size (bw HB))); (case aL => have := LMc15.out; omega); intro v370 w20 ho hb hg hat; rw [← Ny369.out] at ho; replace HB := Aside0.mk (hb); have HO371 := Aside0.mk (ho); clear HO368; clear ho hb hg hat)))
              go_loopg [8, 9] kj3 (fun kq v8 v9 w' => ∃ (x8_2 x9_2 : Int), v8 = .int .i64 x8_2 ∧ v9 = .int .i64 x9_2 ∧ Aside0 (stickfullaw13_TrimEdges.l0 kq l0 l1 y369 x8_2 x9_2 = some r) ∧ Aside0 (kq ≤ kj3) ∧ Aside0 (Kd.R k35 35 w' w.heap.size (fun _ => True) v370 y369) ∧ Aside0 (Below w.heap.size w w'))
              case atStart => exact ⟨(0), (0), (by first | rfl | (simp; done) | (simp [*]; done)), (by first | rfl | (simp; done) | (simp [*]; done)), H', ⟨Nat.le_refl _⟩, ⟨by (with_reducible repeat (first | apply Kd.R_alloc | apply Kd.R_drewN | apply Kd.R_drew)); exact HO371.out⟩, ⟨by repeat (first | (with_reducible first | exact HB.out | apply below_alloc | apply pw_below_drewN | apply below_drew1) | exact HB.out)⟩⟩
              case round =>
                clear H'
                try clear c1
                try clear c2
                try clear p2
                try clear c5
                try clear c5b0
                try clear c5b1
                try clear c6
                try clear c6b0
                try clear c6b1
                try clear p6
                try clear c7
                try clear c7b0
                try clear c7b1
                try clear c10
                try clear c13
                try clear c14
                try clear c15
                try clear p2
                try clear p6
                obtain ⟨x8_2, x9_2, rfl, rfl, HA, HK2, HO_7, HB⟩ := hrel
                cases gk with
                | zero => exact absurd HA.out (by simp [stickfullaw13_TrimEdges.l0])
                | succ k2 =>
                  have H := HA.out
                  clear HA
                  simp only [stickfullaw13_TrimEdges.l0] at H
                  by_cases c21 : x9_2 < (y369.length : Int)
                  · rw [if_pos c21] at H
                    have c21b0 : decide (x9_2 < (y369.length : Int)) = true := decide_eq_true c21
                    clear c21
                    have HC22 := Aside0.mk H
                    clear H
                    obtain ⟨Ao23, co23, eo23⟩ := Kd.R_slice HO_7.out
                    subst eo23
                    go_upto_region 8 with (fail)
                    repeat (go_quiet (fail); go_upto_region 8 with (fail))
                    go_cut [77] (fun v77 wc => ∃ (kq : Nat) (x77_21 : Bool), v77 = .bool x77_21 ∧ Aside0 (stickfullaw13_TrimEdges.j2 kq l0 l1 y369 x8_2 x9_2 x77_21 = some r) ∧ Aside0 (kq ≤ k2) ∧ Aside0 (Kd.R k35 35 wc w.heap.size (fun _ => True) (.slice Ao23 y369.length co23) y369) ∧ Aside0 (Below w.heap.size w wc))
                    case first =>
                      have H := HC22.out
                      clear HC22
                      by_cases c24 : 0 ≤ x9_2
                      · rw [if_pos c24] at H
                        have c24b0 : decide (0 ≤ x9_2) = true := decide_eq_true c24
                        clear c24
                        (first | rw [c24b0] | (simp only [i64_w, i32_w]; rw [c24b0]) | skip)
                        by_cases c25 : ((rd_T35 y369 x9_2).f3) > 1099511627776
                        · rw [if_pos c25] at H
                          have c25b0 : decide (1099511627776 < ((rd_T35 y369 x9_2).f3)) = true := decide_eq_true c25
                          clear c25
                          have H' := Aside0.mk H
                          clear H
                          have p372 : 0 ≤ (x9_2 : Int) := of_decide_eq_true (by first | (with_reducible assumption) | assumption)
                          have q372 : x9_2 < (y369.length : Int) := of_decide_eq_true (by first | (with_reducible assumption) | assumption)
                          obtain ⟨ad372, e372, hx372_0, hx372_1, hx372_2, hx372_3, hx372_4, hx372_5⟩ := at_T35 (Kd.R_reads' HO_7.out).2.2 x9_2 p372 q372
                          cases e372
                          replace p372 := eq_true p372
                          replace q372 := eq_true q372
                          go_wp2
                          repeat (go_quiet (fail); try go_wp2)
                          go_meet
                          case rel => exact ⟨_, (true), (by first | rfl | (simp; done) | (simp [*]; done)), H', ⟨by have := HJ3.out; have := HK2.out; first | omega | exact Nat.le_refl _⟩, ⟨by (with_reducible repeat (first | apply Kd.R_alloc | apply Kd.R_drewN | apply Kd.R_drew)); exact HO_7.out⟩, ⟨by repeat (first | (with_reducible first | exact HB.out | apply below_alloc | apply pw_below_drewN | apply below_drew1) | exact HB.out)⟩⟩
                        · rw [if_neg c25] at H
                          have c25b0 : decide (1099511627776 < ((rd_T35 y369 x9_2).f3)) = false := decide_eq_false c25
                          clear c25
                          by_cases c26 : ((rd_T35 y369 x9_2).f3) < (-1099511627776)
                          · rw [if_pos c26] at H
                            have c26b0 : decide (((rd_T35 y369 x9_2).f3) < (-1099511627776)) = true := decide_eq_true c26
                            clear c26
                            have H' := Aside0.mk H
                            clear H
                            have p372 : 0 ≤ (x9_2 : Int) := of_decide_eq_true (by first | (with_reducible assumption) | assumption)
                            have q372 : x9_2 < (y369.length : Int) := of_decide_eq_true (by first | (with_reducible assumption) | assumption)
                            obtain ⟨ad372, e372, hx372_0, hx372_1, hx372_2, hx372_3, hx372_4, hx372_5⟩ := at_T35 (Kd.R_reads' HO_7.out).2.2 x9_2 p372 q372
                            cases e372
                            replace p372 := eq_true p372
                            replace q372 := eq_true q372
                            have p373 : 0 ≤ (x9_2 : Int) := of_decide_eq_true (by first | (with_reducible assumption) | assumption)
                            have q373 : x9_2 < (y369.length : Int) := of_decide_eq_true (by first | (with_reducible assumption) | assumption)
                            obtain ⟨ad373, e373, hx373_0, hx373_1, hx373_2, hx373_3, hx373_4, hx373_5⟩ := at_T35 (Kd.R_reads' HO_7.out).2.2 x9_2 p373 q373
                            obtain rfl : ad372 = ad373 := (by injection e373)
                            replace p373 := eq_true p373
                            replace q373 := eq_true q373
                            go_wp2
                            repeat (go_quiet (fail); try go_wp2)
                            go_meet
                            case rel => exact ⟨_, (true), (by first | rfl | (simp; done) | (simp [*]; done)), H', ⟨by have := HJ3.out; have := HK2.out; first | omega | exact Nat.le_refl _⟩, ⟨by (with_reducible repeat (first | apply Kd.R_alloc | apply Kd.R_drewN | apply Kd.R_drew)); exact HO_7.out⟩, ⟨by repeat (first | (with_reducible first | exact HB.out | apply below_alloc | apply pw_below_drewN | apply below_drew1) | exact HB.out)⟩⟩
                          · rw [if_neg c26] at H
                            have c26b0 : decide (((rd_T35 y369 x9_2).f3) < (-1099511627776)) = false := decide_eq_false c26
                            clear c26
                            have H' := Aside0.mk H
                            clear H
                            have p372 : 0 ≤ (x9_2 : Int) := of_decide_eq_true (by first | (with_reducible assumption) | assumption)
                            have q372 : x9_2 < (y369.length : Int) := of_decide_eq_true (by first | (with_reducible assumption) | assumption)
                            obtain ⟨ad372, e372, hx372_0, hx372_1, hx372_2, hx372_3, hx372_4, hx372_5⟩ := at_T35 (Kd.R_reads' HO_7.out).2.2 x9_2 p372 q372
                            cases e372
                            replace p372 := eq_true p372
                            replace q372 := eq_true q372
                            have p373 : 0 ≤ (x9_2 : Int) := of_decide_eq_true (by first | (with_reducible assumption) | assumption)
                            have q373 : x9_2 < (y369.length : Int) := of_decide_eq_true (by first | (with_reducible assumption) | assumption)
                            obtain ⟨ad373, e373, hx373_0, hx373_1, hx373_2, hx373_3, hx373_4, hx373_5⟩ := at_T35 (Kd.R_reads' HO_7.out).2.2 x9_2 p373 q373
                            obtain rfl : ad372 = ad373 := (by injection e373)
                            replace p373 := eq_true p373
                            replace q373 := eq_true q373
                            have p374 : 0 ≤ (x9_2 : Int) := of_decide_eq_true (by first | (with_reducible assumption) | assumption)
                            have q374 : x9_2 < (y369.length : Int) := of_decide_eq_true (by first | (with_reducible assumption) | assumption)
                            obtain ⟨ad374, e374, hx374_0, hx374_1, hx374_2, hx374_3, hx374_4, hx374_5⟩ := at_T35 (Kd.R_reads' HO_7.out).2.2 x9_2 p374 q374
                            obtain rfl : ad372 = ad374 := (by injection e374)
                            replace p374 := eq_true p374
                            replace q374 := eq_true q374
                            go_wp2
                            repeat (go_quiet (fail); try go_wp2)
                            go_meet
                            case rel => exact ⟨_, ((((rd_T35 y369 x9_2).f0) == 4)), (by first | rfl | (simp; done) | (simp [*]; done)), H', ⟨by have := HJ3.out; have := HK2.out; first | omega | exact Nat.le_refl _⟩, ⟨by (with_reducible repeat (first | apply Kd.R_alloc | apply Kd.R_drewN | apply Kd.R_drew)); exact HO_7.out⟩, ⟨by repeat (first | (with_reducible first | exact HB.out | apply below_alloc | apply pw_below_drewN | apply below_drew1) | exact HB.out)⟩⟩
                      · rw [if_neg c24] at H
                        exact absurd H (by simp)
                    case rest =>
                      clear HC22
                      try clear c1
                      try clear c2
                      try clear p2
                      try clear p3
                      try clear q3
                      try clear hx3
                      try clear c5
                      try clear c5b0
                      try clear c5b1
                      try clear c6
                      try clear c6b0
                      try clear c6b1
                      try clear p6
                      try clear c7
                      try clear c7b0
                      try clear c7b1
                      try clear c10
                      try clear c13
                      try clear c14
                      try clear c15
                      try clear c21
                      try clear c21b0
                      try clear c24
                      try clear c24b0
                      try clear c25
                      try clear c25b0
                      try clear c26
                      try clear c26b0
                      try clear hx372_0
                      try clear hx372_1
                      try clear hx372_2
                      try clear hx372_3
                      try clear hx372_4
                      try clear hx372_5
                      try clear hx373_0
                      try clear hx373_1
                      try clear hx373_2
                      try clear hx373_3
                      try clear hx373_4
                      try clear hx373_5
                      try clear hx374_0
                      try clear hx374_1
                      try clear hx374_2
                      try clear hx374_3
                      try clear hx374_4
                      try clear hx374_5
                      try clear p2
                      try clear p372
                      try clear p373
                      try clear p374
                      try clear p6
                      try clear q372
                      try clear q373
                      try clear q374
                      obtain ⟨kq, x77_21, rfl, HA, HJ21, HO_7, HB⟩ := hcut
                      cases kq with
                      | zero => exact absurd HA.out (by simp [stickfullaw13_TrimEdges.j2])
                      | succ kj21 =>
                        have H := HA.out
                        clear HA
                        simp only [stickfullaw13_TrimEdges.j2] at H
                        by_cases c27 : x77_21 = true
                        · subst c27
                          have H1 : ((stickfullaw13_head.f kj21).bind fun t375 => (some t375)) = some r := by rw [if_pos rfl] at H; exact H
                          clear H
                          have H := H1
                          clear H1
                          replace H := Option.bind_eq_some_iff.mp H
                          obtain ⟨t375, A280, H⟩ := H
                          replace H : (some t375) = some r := H
                          have A28 := Aside0.mk A280
                          clear A280
                          obtain rfl := Option.some.inj H
                          go_wp2_with (first | (go_at_call 11; (with_reducible refine (stickfullaw13_head.calls kj21  t375 _ A28.out).mono ?_); rintro e w29 ⟨rfl, hb⟩; replace HO_7 := Aside0.mk (Kd.R_below (rx HO_7) hb); replace HB := bh HB hb; (try clear hb); (try clear hb2); (try clear hk); (try clear hi)))
                          repeat (go_quiet (first | (go_at_call 11; (with_reducible refine (stickfullaw13_head.calls kj21  t375 _ A28.out).mono ?_); rintro e w29 ⟨rfl, hb⟩; replace HO_7 := Aside0.mk (Kd.R_below (rx HO_7) hb); replace HB := bh HB hb; (try clear hb); (try clear hb2); (try clear hk); (try clear hi))); try go_wp2_with (first | (go_at_call 11; (with_reducible refine (stickfullaw13_head.calls kj21  t375 _ A28.out).mono ?_); rintro e w29 ⟨rfl, hb⟩; replace HO_7 := Aside0.mk (Kd.R_below (rx HO_7) hb); replace HB := bh HB hb; (try clear hb); (try clear hb2); (try clear hk); (try clear hi))))
                          go_ret
                          exact ⟨by first | rfl | (simp [errW_none, errW_some] <;> rfl) | (simp [*, errW_none, errW_some] <;> rfl), by repeat (first | (with_reducible first | exact HB.out | apply below_alloc | apply pw_below_drewN | apply below_drew1) | exact HB.out)⟩
                        · replace c27 := Bool.eq_false_iff.mpr c27
                          subst c27
                          have H1 : (if x9_2 < (l1.length : Int) then (if 0 ≤ x9_2 then (if x9_2 < (y369.length : Int) then (stickfullaw13_TrimEdges.l0 kj21 l0 l1 y369 (wrap64 (x8_2 + ((rd_T35 y369 x9_2).f3))) (wrap64 (x9_2 + 1))) else (none)) else (none)) else (if x9_2 ≥ (wrap64 ((l1.length : Int) + (l0.length : Int))) then (if 0 ≤ x9_2 then (if x9_2 < (y369.length : Int) then (stickfullaw13_TrimEdges.l0 kj21 l0 l1 y369 (wrap64 (x8_2 + ((rd_T35 y369 x9_2).f3))) (wrap64 (x9_2 + 1))) else (none)) else (none)) else (stickfullaw13_TrimEdges.l0 kj21 l0 l1 y369 x8_2 (wrap64 (x9_2 + 1))))) = some r := by rw [if_neg (show ¬ (false = true) by decide)] at H; exact H
                          clear H
                          have H := H1
                          clear H1
                          by_cases c30 : x9_2 < (l1.length : Int)
                          · rw [if_pos c30] at H
                            have c30b0 : decide (x9_2 < (l1.length : Int)) = true := decide_eq_true c30
                            clear c30
                            by_cases c31 : 0 ≤ x9_2
                            · rw [if_pos c31] at H
                              have c31b0 : decide (0 ≤ x9_2) = true := decide_eq_true c31
                              clear c31
                              by_cases c32 : x9_2 < (y369.length : Int)
                              · rw [if_pos c32] at H
                                have c32b0 : decide (x9_2 < (y369.length : Int)) = true := decide_eq_true c32
                                clear c32
                                have H' := Aside0.mk H
                                clear H
                                have p376 : 0 ≤ (x9_2 : Int) := of_decide_eq_true (by first | (with_reducible assumption) | assumption)
                                have q376 : x9_2 < (y369.length : Int) := of_decide_eq_true (by first | (with_reducible assumption) | assumption)
                                obtain ⟨ad376, e376, hx376_0, hx376_1, hx376_2, hx376_3, hx376_4, hx376_5⟩ := at_T35 (Kd.R_reads' HO_7.out).2.2 x9_2 p376 q376
                                cases e376
                                replace p376 := eq_true p376
                                replace q376 := eq_true q376
                                go_wp2
                                repeat (go_quiet (fail); try go_wp2)
                                go_roundg kj21
                                case measure => have := HJ3.out; have := HK2.out; have := HJ21.out; omega
                                case rel => exact ⟨(wrap64 (x8_2 + ((rd_T35 y369 x9_2).f3))), (wrap64 (x9_2 + 1)), (by first | rfl | (simp; done) | (simp [*]; done)), (by first | rfl | (simp; done) | (simp [*]; done)), H', ⟨by have := HJ3.out; have := HK2.out; have := HJ21.out; omega⟩, ⟨by (with_reducible repeat (first | apply Kd.R_alloc | apply Kd.R_drewN | apply Kd.R_drew)); exact HO_7.out⟩, ⟨by repeat (first | (with_reducible first | exact HB.out | apply below_alloc | apply pw_below_drewN | apply below_drew1) | exact HB.out)⟩⟩
                              · rw [if_neg c32] at H
                                exact absurd H (by simp)
                            · rw [if_neg c31] at H
                              exact absurd H (by simp)
                          · rw [if_neg c30] at H
                            have c30b0 : decide (x9_2 < (l1.length : Int)) = false := decide_eq_false c30
                            clear c30
                            by_cases c33 : x9_2 ≥ (wrap64 ((l1.length : Int) + (l0.length : Int)))
                            · rw [if_pos c33] at H
                              have c33b0 : decide ((wrap64 ((l1.length : Int) + (l0.length : Int))) ≤ x9_2) = true := decide_eq_true c33
                              clear c33
                              by_cases c34 : 0 ≤ x9_2
                              · rw [if_pos c34] at H
                                have c34b0 : decide (0 ≤ x9_2) = true := decide_eq_true c34
                                clear c34
                                by_cases c35 : x9_2 < (y369.length : Int)
                                · rw [if_pos c35] at H
                                  have c35b0 : decide (x9_2 < (y369.length : Int)) = true := decide_eq_true c35
                                  clear c35
                                  have H' := Aside0.mk H
                                  clear H
                                  have p377 : 0 ≤ (x9_2 : Int) := of_decide_eq_true (by first | (with_reducible assumption) | assumption)
                                  have q377 : x9_2 < (y369.length : Int) := of_decide_eq_true (by first | (with_reducible assumption) | assumption)
                                  obtain ⟨ad377, e377, hx377_0, hx377_1, hx377_2, hx377_3, hx377_4, hx377_5⟩ := at_T35 (Kd.R_reads' HO_7.out).2.2 x9_2 p377 q377
                                  cases e377
                                  replace p377 := eq_true p377
                                  replace q377 := eq_true q377
                                  go_wp2
                                  repeat (go_quiet (fail); try go_wp2)
                                  go_roundg kj21
                                  case measure => have := HJ3.out; have := HK2.out; have := HJ21.out; omega
                                  case rel => exact ⟨(wrap64 (x8_2 + ((rd_T35 y369 x9_2).f3))), (wrap64 (x9_2 + 1)), (by first | rfl | (simp; done) | (simp [*]; done)), (by first | rfl | (simp; done) | (simp [*]; done)), H', ⟨by have := HJ3.out; have := HK2.out; have := HJ21.out; omega⟩, ⟨by (with_reducible repeat (first | apply Kd.R_alloc | apply Kd.R_drewN | apply Kd.R_drew)); exact HO_7.out⟩, ⟨by repeat (first | (with_reducible first | exact HB.out | apply below_alloc | apply pw_below_drewN | apply below_drew1) | exact HB.out)⟩⟩
                                · rw [if_neg c35] at H
                                  exact absurd H (by simp)
                              · rw [if_neg c34] at H
                                exact absurd H (by simp)
                            · rw [if_neg c33] at H
                              have c33b0 : decide ((wrap64 ((l1.length : Int) + (l0.length : Int))) ≤ x9_2) = false := decide_eq_false c33
                              clear c33
                              have H' := Aside0.mk H
                              clear H
                              go_wp2
                              repeat (go_quiet (fail); try go_wp2)
                              go_roundg kj21
                              case measure => have := HJ3.out; have := HK2.out; have := HJ21.out; omega
                              case rel => exact ⟨(x8_2), (wrap64 (x9_2 + 1)), (by first | rfl | (simp; done) | (simp [*]; done)), (by first | rfl | (simp; done) | (simp [*]; done)), H', ⟨by have := HJ3.out; have := HK2.out; have := HJ21.out; omega⟩, ⟨by (with_reducible repeat (first | apply Kd.R_alloc | apply Kd.R_drewN | apply Kd.R_drew)); exact HO_7.out⟩, ⟨by repeat (first | (with_reducible first | exact HB.out | apply below_alloc | apply pw_below_drewN | apply below_drew1) | exact HB.out)⟩⟩
                  · rw [if_neg c21] at H
                    have c21b0 : decide (x9_2 < (y369.length : Int)) = false := decide_eq_false c21
                    clear c21
                    replace H := Option.bind_eq_some_iff.mp H
                    obtain ⟨t378, A360, H⟩ := H
                    replace H : ((trim_Roles.f y369).bind fun t381 => (if (t381.length : Int) = (y369.length : Int) then (stickfullaw13_TrimEdges.j3 k2 l0 l1 y369 x8_2 t378 t381 ((t378.length : Int) != (l0.length : Int))) else (stickfullaw13_TrimEdges.j3 k2 l0 l1 y369 x8_2 t378 t381 true))) = some r := H
                    have A36 := Aside0.mk A360
                    clear A360
                    replace H := Option.bind_eq_some_iff.mp H
                    obtain ⟨t381, A370, H⟩ := H
                    replace H : (if (t381.length : Int) = (y369.length : Int) then (stickfullaw13_TrimEdges.j3 k2 l0 l1 y369 x8_2 t378 t381 ((t378.length : Int) != (l0.length : Int))) else (stickfullaw13_TrimEdges.j3 k2 l0 l1 y369 x8_2 t378 t381 true)) = some r := H
                    have A37 := Aside0.mk A370
                    clear A370
                    have HC38 := Aside0.mk H
                    clear H
                    obtain ⟨Ao39, co39, eo39⟩ := Kd.R_slice HO_7.out
                    subst eo39
                    go_upto_region 13 with (first | (go_at_call 17; (with_reducible refine (trim_Roles.calls _ _ l0 t378 _ ?side1 ?side2 A36.out).mono ?_); (case side1 => repeat (first | exact (Kd.C_below HR0.out HB.out) | (with_reducible refine Kd.C_alloc ?_ _) | (with_reducible refine Kd.C_drewN ?_ _) | (with_reducible refine Kd.C_drew ?_))); (case side2 => exact HC0.out); rintro e w40 ⟨v379, rfl, ho0, hb⟩; replace HO_7 := Aside0.mk (Kd.R_below (rx HO_7) hb); have HO380 := Aside0.mk (Kd.R_lower ho0 (below_size (bw HB))); replace HB := bh HB hb; (try clear hb); (try clear hb2); (try clear hk); (try clear hi); (try clear ho0)) | (go_at_call 17; (with_reducible refine (trim_Roles.calls _ _ y369 t381 _ ?side1 ?side2 A37.out).mono ?_); (case side1 => repeat (first | exact (Kd.R_reads' HO_7.out).2.2 | (with_reducible refine Kd.C_alloc ?_ _) | (with_reducible refine Kd.C_drewN ?_ _) | (with_reducible refine Kd.C_drew ?_))); (case side2 => exact (Kd.R_reads' HO_7.out).2.1); rintro e w41 ⟨v382, rfl, ho0, hb⟩; replace HO_7 := Aside0.mk (Kd.R_below (rx HO_7) hb); have HO383 := Aside0.mk (Kd.R_lower (Kd.R_new' ho0 (Kd.R_lt (rx HO380))) (below_size (bw HB))); replace HO380 := Aside0.mk (Kd.R_elder' (rx HO380) (Kd.R_base ho0) hb); replace HB := bh HB hb; (try clear hb); (try clear hb2); (try clear hk); (try clear hi); (try clear ho0)))
                    repeat (go_quiet (first | (go_at_call 17; (with_reducible refine (trim_Roles.calls _ _ l0 t378 _ ?side1 ?side2 A36.out).mono ?_); (case side1 => repeat (first | exact (Kd.C_below HR0.out HB.out) | (with_reducible refine Kd.C_alloc ?_ _) | (with_reducible refine Kd.C_drewN ?_ _) | (with_reducible refine Kd.C_drew ?_))); (case side2 => exact HC0.out); rintro e w40 ⟨v379, rfl, ho0, hb⟩; replace HO_7 := Aside0.mk (Kd.R_below (rx HO_7) hb); have HO380 := Aside0.mk (Kd.R_lower ho0 (below_size (bw HB))); replace HB := bh HB hb; (try clear hb); (try clear hb2); (try clear hk); (try clear hi); (try clear ho0)) | (go_at_call 17; (with_reducible refine (trim_Roles.calls _ _ y369 t381 _ ?side1 ?side2 A37.out).mono ?_); (case side1 => repeat (first | exact (Kd.R_reads' HO_7.out).2.2 | (with_reducible refine Kd.C_alloc ?_ _) | (with_reducible refine Kd.C_drewN ?_ _) | (with_reducible refine Kd.C_drew ?_))); (case side2 => exact (Kd.R_reads' HO_7.out).2.1); rintro e w41 ⟨v382, rfl, ho0, hb⟩; replace HO_7 := Aside0.mk (Kd.R_below (rx HO_7) hb); have HO383 := Aside0.mk (Kd.R_lower (Kd.R_new' ho0 (Kd.R_lt (rx HO380))) (below_size (bw HB))); replace HO380 := Aside0.mk (Kd.R_elder' (rx HO380) (Kd.R_base ho0) hb); replace HB := bh HB hb; (try clear hb); (try clear hb2); (try clear hk); (try clear hi); (try clear ho0))); go_upto_region 13 with (first | (go_at_call 17; (with_reducible refine (trim_Roles.calls _ _ l0 t378 _ ?side1 ?side2 A36.out).mono ?_); (case side1 => repeat (first | exact (Kd.C_below HR0.out HB.out) | (with_reducible refine Kd.C_alloc ?_ _) | (with_reducible refine Kd.C_drewN ?_ _) | (with_reducible refine Kd.C_drew ?_))); (case side2 => exact HC0.out); rintro e w40 ⟨v379, rfl, ho0, hb⟩; replace HO_7 := Aside0.mk (Kd.R_below (rx HO_7) hb); have HO380 := Aside0.mk (Kd.R_lower ho0 (below_size (bw HB))); replace HB := bh HB hb; (try clear hb); (try clear hb2); (try clear hk); (try clear hi); (try clear ho0)) | (go_at_call 17; (with_reducible refine (trim_Roles.calls _ _ y369 t381 _ ?side1 ?side2 A37.out).mono ?_); (case side1 => repeat (first | exact (Kd.R_reads' HO_7.out).2.2 | (with_reducible refine Kd.C_alloc ?_ _) | (with_reducible refine Kd.C_drewN ?_ _) | (with_reducible refine Kd.C_drew ?_))); (case side2 => exact (Kd.R_reads' HO_7.out).2.1); rintro e w41 ⟨v382, rfl, ho0, hb⟩; replace HO_7 := Aside0.mk (Kd.R_below (rx HO_7) hb); have HO383 := Aside0.mk (Kd.R_lower (Kd.R_new' ho0 (Kd.R_lt (rx HO380))) (below_size (bw HB))); replace HO380 := Aside0.mk (Kd.R_elder' (rx HO380) (Kd.R_base ho0) hb); replace HB := bh HB hb; (try clear hb); (try clear hb2); (try clear hk); (try clear hi); (try clear ho0))))
                    (try simp only [Act.put, List.setIfInBounds_toArray, List.set_cons_zero, List.set_cons_succ])
                    go_cut [114] (fun v114 wc => ∃ (kq : Nat) (x114_37 : Bool), v114 = .bool x114_37 ∧ Aside0 (stickfullaw13_TrimEdges.j3 kq l0 l1 y369 x8_2 t378 t381 x114_37 = some r) ∧ Aside0 (kq ≤ k2) ∧ Aside0 (Kd.R k35 35 wc w.heap.size (fun _ => True) (.slice Ao39 y369.length co39) y369) ∧ Aside0 (Kd.R (Kd.int .u8) 5 wc w.heap.size (fun k_ => some k_ ≠ (v382 : Value).ownBlock) v379 t378) ∧ Aside0 (Kd.R (Kd.int .u8) 5 wc w.heap.size (fun k_ => some k_ ≠ (v379 : Value).ownBlock) v382 t381) ∧ Aside0 (Below w.heap.size w wc))
                    case first =>
                      have H := HC38.out
                      clear HC38
                      by_cases c42 : (t381.length : Int) = (y369.length : Int)
                      · rw [if_pos c42] at H
                        have c42b0 : ((t381.length : Int) == (y369.length : Int)) = true := beq_iff_eq.mpr c42
                        have c42b1 : ((t381.length : Int) != (y369.length : Int)) = false := bne_eq_false_iff_eq.mpr c42
                        have c42b2 : (t381.length == y369.length) = true := by first | simpa using c42 | (simp at c42 ⊢; omega)
                        clear c42
                        (first | rw [c42b0] | (simp only [i64_w, i32_w]; rw [c42b0]) | skip)
                        have H' := Aside0.mk H
                        clear H
                        obtain ⟨Ao43, co43, eo43⟩ := Kd.R_slice HO383.out
                        subst eo43
                        obtain ⟨Ao44, co44, eo44⟩ := Kd.R_slice HO380.out
                        subst eo44
                        go_wp2
                        repeat (go_quiet (fail); try go_wp2)
                        go_meet
                        case rel => exact ⟨_, (((t378.length : Int) != (l0.length : Int))), (by first | rfl | (simp; done) | (simp [*]; done)), H', ⟨by have := HJ3.out; have := HK2.out; first | omega | exact Nat.le_refl _⟩, ⟨by (with_reducible repeat (first | apply Kd.R_alloc | apply Kd.R_drewN | apply Kd.R_drew)); exact HO_7.out⟩, ⟨by (with_reducible repeat (first | apply Kd.R_alloc | apply Kd.R_drewN | apply Kd.R_drew)); exact Kd.R_mono HO380.out (fun _ hk => hk.2)⟩, ⟨by (with_reducible repeat (first | apply Kd.R_alloc | apply Kd.R_drewN | apply Kd.R_drew)); exact Kd.R_mono HO383.out (fun _ hk => hk.2)⟩, ⟨by repeat (first | (with_reducible first | exact HB.out | apply below_alloc | apply pw_below_drewN | apply below_drew1) | exact HB.out)⟩⟩
                      · rw [if_neg c42] at H
                        have c42b0 : ((t381.length : Int) == (y369.length : Int)) = false := beq_eq_false_iff_ne.mpr c42
                        have c42b1 : ((t381.length : Int) != (y369.length : Int)) = true := bne_iff_ne.mpr c42
                        have c42b2 : (t381.length == y369.length) = false := by first | simpa using c42 | (simp at c42 ⊢; omega)
                        (first | rw [c42b0] | (simp only [i64_w, i32_w]; rw [c42b0]) | skip)
                        have H' := Aside0.mk H
                        clear H
                        obtain ⟨Ao45, co45, eo45⟩ := Kd.R_slice HO383.out
                        subst eo45
                        go_wp2
                        repeat (go_quiet (fail); try go_wp2)
                        go_meet
                        case rel => exact ⟨_, (true), (by first | rfl | (simp; done) | (simp [*]; done)), H', ⟨by have := HJ3.out; have := HK2.out; first | omega | exact Nat.le_refl _⟩, ⟨by (with_reducible repeat (first | apply Kd.R_alloc | apply Kd.R_drewN | apply Kd.R_drew)); exact HO_7.out⟩, ⟨by (with_reducible repeat (first | apply Kd.R_alloc | apply Kd.R_drewN | apply Kd.R_drew)); exact Kd.R_mono HO380.out (fun _ hk => hk.2)⟩, ⟨by (with_reducible repeat (first | apply Kd.R_alloc | apply Kd.R_drewN | apply Kd.R_drew)); exact Kd.R_mono HO383.out (fun _ hk => hk.2)⟩, ⟨by repeat (first | (with_reducible first | exact HB.out | apply below_alloc | apply pw_below_drewN | apply below_drew1) | exact HB.out)⟩⟩
                    case rest =>
                      clear HC38
                      try clear c1
                      try clear c2
                      try clear p2
                      try clear c3
                      try clear p3
                      try clear q3
                      try clear hx3
                      try clear c4
                      try clear c5
                      try clear c5b0
                      try clear c5b1
                      try clear c6
                      try clear c6b0
                      try clear c6b1
                      try clear p6
                      try clear c7
                      try clear c7b0
                      try clear c7b1
                      try clear c10
                      try clear c13
                      try clear c14
                      try clear c15
                      try clear c21
                      try clear c21b0
                      try clear c24
                      try clear c24b0
                      try clear c25
                      try clear c25b0
                      try clear c26
                      try clear c26b0
                      try clear c27
                      try clear c30
                      try clear c30b0
                      try clear c31
                      try clear c31b0
                      try clear c32
                      try clear c32b0
                      try clear c33
                      try clear c33b0
                      try clear c34
                      try clear c34b0
                      try clear c35
                      try clear c35b0
                      try clear p37
                      try clear q37
                      try clear hx37
                      try clear c42
                      try clear c42b0
                      try clear c42b1
                      try clear c42b2
                      try clear hx372_0
                      try clear hx372_1
                      try clear hx372_2
                      try clear hx372_3
                      try clear hx372_4
                      try clear hx372_5
                      try clear hx373_0
                      try clear hx373_1
                      try clear hx373_2
                      try clear hx373_3
                      try clear hx373_4
                      try clear hx373_5
                      try clear hx374_0
                      try clear hx374_1
                      try clear hx374_2
                      try clear hx374_3
                      try clear hx374_4
                      try clear hx374_5
                      try clear hx376_0
                      try clear hx376_1
                      try clear hx376_2
                      try clear hx376_3
                      try clear hx376_4
                      try clear hx376_5
                      try clear hx377_0
                      try clear hx377_1
                      try clear hx377_2
                      try clear hx377_3
                      try clear hx377_4
                      try clear hx377_5
                      try clear p2
                      try clear p3
                      try clear p372
                      try clear p373
                      try clear p374
                      try clear p376
                      try clear p377
                      try clear p6
                      try clear q3
                      try clear q372
                      try clear q373
                      try clear q374
                      try clear q376
                      try clear q377
                      obtain ⟨kq, x114_37, rfl, HA, HJ37, HO_7, HO_10, HO_11, HB⟩ := hcut
                      cases kq with
                      | zero => exact absurd HA.out (by simp [stickfullaw13_TrimEdges.j3])
                      | succ kj37 =>
                        have H := HA.out
                        clear HA
                        simp only [stickfullaw13_TrimEdges.j3] at H
                        by_cases c46 : x114_37 = true
                        · subst c46
                          have H1 : (some false) = some r := by rw [if_pos rfl] at H; exact H
                          clear H
                          have H := H1
                          clear H1
                          exact absurd ((Option.some.inj H).trans HR_.out) (by decide)
                        · replace c46 := Bool.eq_false_iff.mpr c46
                          subst c46
                          have H1 : (stickfullaw13_TrimEdges.l1 kj37 l0 l1 y369 x8_2 t378 t381 0) = some r := by rw [if_neg (show ¬ (false = true) by decide)] at H; exact H
                          clear H
                          have H := H1
                          clear H1
                          have H' := Aside0.mk H
                          clear H
                          go_wp2
                          repeat (go_quiet (fail); try go_wp2)
                          go_loopg [12] kj37 (fun kq v12 w' => ∃ (x12_4 : Int), v12 = .int .i64 x12_4 ∧ Aside0 (stickfullaw13_TrimEdges.l1 kq l0 l1 y369 x8_2 t378 t381 x12_4 = some r) ∧ Aside0 (kq ≤ kj37) ∧ Aside0 (Kd.R k35 35 w' w.heap.size (fun _ => True) (.slice Ao39 y369.length co39) y369) ∧ Aside0 (Kd.R (Kd.int .u8) 5 w' w.heap.size (fun k_ => some k_ ≠ (v382 : Value).ownBlock) v379 t378) ∧ Aside0 (Kd.R (Kd.int .u8) 5 w' w.heap.size (fun k_ => some k_ ≠ (v379 : Value).ownBlock) v382 t381) ∧ Aside0 (Below w.heap.size w w'))
                          case atStart => exact ⟨(0), (by first | rfl | (simp; done) | (simp [*]; done)), H', ⟨Nat.le_refl _⟩, ⟨by (with_reducible repeat (first | apply Kd.R_alloc | apply Kd.R_drewN | apply Kd.R_drew)); exact HO_7.out⟩, ⟨by (with_reducible repeat (first | apply Kd.R_alloc | apply Kd.R_drewN | apply Kd.R_drew)); exact HO_10.out⟩, ⟨by (with_reducible repeat (first | apply Kd.R_alloc | apply Kd.R_drewN | apply Kd.R_drew)); exact HO_11.out⟩, ⟨by repeat (first | (with_reducible first | exact HB.out | apply below_alloc | apply pw_below_drewN | apply below_drew1) | exact HB.out)⟩⟩
                          case round =>
                            clear H'
                            try clear c1
                            try clear c2
                            try clear p2
                            try clear c3
                            try clear p3
                            try clear q3
                            try clear hx3
                            try clear c4
                            try clear c5
                            try clear c5b0
                            try clear c5b1
                            try clear c6
                            try clear c6b0
                            try clear c6b1
                            try clear p6
                            try clear c7
                            try clear c7b0
                            try clear c7b1
                            try clear c10
                            try clear c13
                            try clear c14
                            try clear c15
                            try clear c21
                            try clear c21b0
                            try clear c24
                            try clear c24b0
                            try clear c25
                            try clear c25b0
                            try clear c26
                            try clear c26b0
                            try clear c27
                            try clear c30
                            try clear c30b0
                            try clear c31
                            try clear c31b0
                            try clear c32
                            try clear c32b0
                            try clear c33
                            try clear c33b0
                            try clear c34
                            try clear c34b0
                            try clear c35
                            try clear c35b0
                            try clear p37
                            try clear q37
                            try clear hx37
                            try clear c42
                            try clear c42b0
                            try clear c42b1
                            try clear c42b2
                            try clear c46
                            try clear hx372_0
                            try clear hx372_1
                            try clear hx372_2
                            try clear hx372_3
                            try clear hx372_4
                            try clear hx372_5
                            try clear hx373_0
                            try clear hx373_1
                            try clear hx373_2
                            try clear hx373_3
                            try clear hx373_4
                            try clear hx373_5
                            try clear hx374_0
                            try clear hx374_1
                            try clear hx374_2
                            try clear hx374_3
                            try clear hx374_4
                            try clear hx374_5
                            try clear hx376_0
                            try clear hx376_1
                            try clear hx376_2
                            try clear hx376_3
                            try clear hx376_4
                            try clear hx376_5
                            try clear hx377_0
                            try clear hx377_1
                            try clear hx377_2
                            try clear hx377_3
                            try clear hx377_4
                            try clear hx377_5
                            try clear p2
                            try clear p3
                            try clear p37
                            try clear p372
                            try clear p373
                            try clear p374
                            try clear p376
                            try clear p377
                            try clear p6
                            try clear q3
                            try clear q37
                            try clear q372
                            try clear q373
                            try clear q374
                            try clear q376
                            try clear q377
                            obtain ⟨x12_4, rfl, HA, HK4, HO_7, HO_10, HO_11, HB⟩ := hrel
                            cases gk with
                            | zero => exact absurd HA.out (by simp [stickfullaw13_TrimEdges.l1])
                            | succ k4 =>
                              have H := HA.out
                              clear HA
                              simp only [stickfullaw13_TrimEdges.l1] at H
                              by_cases c47 : x12_4 < (l0.length : Int)
                              · rw [if_pos c47] at H
                                have c47b0 : decide (x12_4 < (l0.length : Int)) = true := decide_eq_true c47
                                clear c47
                                by_cases c48 : 0 ≤ x12_4
                                · rw [if_pos c48] at H
                                  have c48b0 : decide (0 ≤ x12_4) = true := decide_eq_true c48
                                  clear c48
                                  by_cases c49 : x12_4 < (t378.length : Int)
                                  · rw [if_pos c49] at H
                                    have c49b0 : decide (x12_4 < (t378.length : Int)) = true := decide_eq_true c49
                                    clear c49
                                    obtain ⟨ji50, hji50⟩ : ∃ j_ : Int, (wrap64 ((l1.length : Int) + x12_4)) = j_ := ⟨_, rfl⟩
                                    replace H : (if 0 ≤ (ji50) then (if (ji50) < (t381.length : Int) then (if (rd t378 x12_4) = (rd t381 (ji50)) then (stickfullaw13_TrimEdges.l1 k4 l0 l1 y369 x8_2 t378 t381 (wrap64 (x12_4 + 1))) else (some false)) else (none)) else (none)) = some r := by first | (rw [hji50] at H; exact H) | (simp only [hji50] at H ⊢; exact H)
                                    have hji50w : (IntKind.i64.wrap ((l1.length : Int) + x12_4)) = ji50 := (i64_w _).trans hji50
                                    by_cases c51 : 0 ≤ (ji50)
                                    · rw [if_pos c51] at H
                                      have c51b0 : decide (0 ≤ (ji50)) = true := decide_eq_true c51
                                      clear c51
                                      by_cases c52 : (ji50) < (t381.length : Int)
                                      · rw [if_pos c52] at H
                                        have c52b0 : decide ((ji50) < (t381.length : Int)) = true := decide_eq_true c52
                                        clear c52
                                        by_cases c53 : (rd t378 x12_4) = (rd t381 (ji50))
                                        · rw [if_pos c53] at H
                                          have c53b0 : ((rd t378 x12_4) == (rd t381 (ji50))) = true := beq_iff_eq.mpr c53
                                          have c53b1 : ((rd t378 x12_4) != (rd t381 (ji50))) = false := bne_eq_false_iff_eq.mpr c53
                                          clear c53
                                          have H' := Aside0.mk H
                                          clear H
                                          obtain ⟨Ao54, co54, eo54⟩ := Kd.R_slice HO_10.out
                                          subst eo54
                                          have p384 : 0 ≤ (x12_4 : Int) := of_decide_eq_true (by first | (with_reducible assumption) | assumption)
                                          have q384 : x12_4 < (t378.length : Int) := of_decide_eq_true (by first | (with_reducible assumption) | assumption)
                                          obtain ⟨ad384, e384, hx384_0⟩ := Kd.at_int (Kd.R_reads' HO_10.out).2.2 x12_4 p384 q384
                                          cases e384
                                          replace p384 := eq_true p384
                                          replace q384 := eq_true q384
                                          obtain ⟨Ao55, co55, eo55⟩ := Kd.R_slice HO_11.out
                                          subst eo55
                                          have p385 : 0 ≤ ((ji50) : Int) := of_decide_eq_true (by first | (with_reducible assumption) | assumption)
                                          have q385 : (ji50) < (t381.length : Int) := of_decide_eq_true (by first | (with_reducible assumption) | assumption)
                                          obtain ⟨ad385, e385, hx385_0⟩ := Kd.at_int (Kd.R_reads' HO_11.out).2.2 (ji50) p385 q385
                                          cases e385
                                          replace p385 := eq_true p385
                                          replace q385 := eq_true q385
                                          go_wp2
                                          repeat (go_quiet (fail); try go_wp2)
                                          go_roundg k4
                                          case measure => have := HJ3.out; have := HK2.out; have := HJ37.out; have := HK4.out; omega
                                          case rel => exact ⟨(wrap64 (x12_4 + 1)), (by first | rfl | (simp; done) | (simp [*]; done)), H', ⟨by have := HJ3.out; have := HK2.out; have := HJ37.out; have := HK4.out; omega⟩, ⟨by (with_reducible repeat (first | apply Kd.R_alloc | apply Kd.R_drewN | apply Kd.R_drew)); exact HO_7.out⟩, ⟨by (with_reducible repeat (first | apply Kd.R_alloc | apply Kd.R_drewN | apply Kd.R_drew)); exact HO_10.out⟩, ⟨by (with_reducible repeat (first | apply Kd.R_alloc | apply Kd.R_drewN | apply Kd.R_drew)); exact HO_11.out⟩, ⟨by repeat (first | (with_reducible first | exact HB.out | apply below_alloc | apply pw_below_drewN | apply below_drew1) | exact HB.out)⟩⟩
                                        · rw [if_neg c53] at H
                                          have c53b0 : ((rd t378 x12_4) == (rd t381 (ji50))) = false := beq_eq_false_iff_ne.mpr c53
                                          have c53b1 : ((rd t378 x12_4) != (rd t381 (ji50))) = true := bne_iff_ne.mpr c53
                                          exact absurd ((Option.some.inj H).trans HR_.out) (by decide)
                                      · rw [if_neg c52] at H
                                        exact absurd H (by simp)
                                    · rw [if_neg c51] at H
                                      exact absurd H (by simp)
                                  · rw [if_neg c49] at H
                                    exact absurd H (by simp)
                                · rw [if_neg c48] at H
                                  exact absurd H (by simp)
                              · rw [if_neg c47] at H
                                have c47b0 : decide (x12_4 < (l0.length : Int)) = false := decide_eq_false c47
                                clear c47
                                replace H := Option.bind_eq_some_iff.mp H
                                obtain ⟨⟨t386, t387⟩, A560, H⟩ := H
                                replace H : ((trim_Fits.f y369 0).bind fun bt388 => ((trim_Goes.f l0 0).bind fun bt390 => ((trim_Goes.f y369 0).bind fun bt392 => (if t387 = 0 then (if bt388.2 = 0 then (if bt390.2 = 0 then (if bt392.2 = 0 then (if (wrap64 (bt388.1 - t386)) = x8_2 then (if (wrap64 (bt392.1 - bt390.1)) = x8_2 then ((stickfullaw13_head.f k4).bind fun t394 => (some t394)) else (some false)) else (some false)) else (some false)) else (some false)) else (some false)) else (some false))))) = some r := H
                                have A56 := Aside0.mk A560
                                clear A560
                                replace H := Option.bind_eq_some_iff.mp H
                                obtain ⟨⟨t388, t389⟩, A570, H⟩ := H
                                replace H : ((trim_Goes.f l0 0).bind fun bt390 => ((trim_Goes.f y369 0).bind fun bt392 => (if t387 = 0 then (if t389 = 0 then (if bt390.2 = 0 then (if bt392.2 = 0 then (if (wrap64 (t388 - t386)) = x8_2 then (if (wrap64 (bt392.1 - bt390.1)) = x8_2 then ((stickfullaw13_head.f k4).bind fun t394 => (some t394)) else (some false)) else (some false)) else (some false)) else (some false)) else (some false)) else (some false)))) = some r := H
                                have A57 := Aside0.mk A570
                                clear A570
                                replace H := Option.bind_eq_some_iff.mp H
                                obtain ⟨⟨t390, t391⟩, A580, H⟩ := H
                                replace H : ((trim_Goes.f y369 0).bind fun bt392 => (if t387 = 0 then (if t389 = 0 then (if t391 = 0 then (if bt392.2 = 0 then (if (wrap64 (t388 - t386)) = x8_2 then (if (wrap64 (bt392.1 - t390)) = x8_2 then ((stickfullaw13_head.f k4).bind fun t394 => (some t394)) else (some false)) else (some false)) else (some false)) else (some false)) else (some false)) else (some false))) = some r := H
                                have A58 := Aside0.mk A580
                                clear A580
                                replace H := Option.bind_eq_some_iff.mp H
                                obtain ⟨⟨t392, t393⟩, A590, H⟩ := H
                                replace H : (if t387 = 0 then (if t389 = 0 then (if t391 = 0 then (if t393 = 0 then (if (wrap64 (t388 - t386)) = x8_2 then (if (wrap64 (t392 - t390)) = x8_2 then ((stickfullaw13_head.f k4).bind fun t394 => (some t394)) else (some false)) else (some false)) else (some false)) else (some false)) else (some false)) else (some false)) = some r := H
                                have A59 := Aside0.mk A590
                                clear A590
                                by_cases c60 : t387 = 0
                                · rw [if_pos c60] at H
                                  have c60b0 : (t387 == 0) = true := beq_iff_eq.mpr c60
                                  have c60b1 : (t387 != 0) = false := bne_eq_false_iff_eq.mpr c60
                                  clear c60
                                  by_cases c61 : t389 = 0
                                  · rw [if_pos c61] at H
                                    have c61b0 : (t389 == 0) = true := beq_iff_eq.mpr c61
                                    have c61b1 : (t389 != 0) = false := bne_eq_false_iff_eq.mpr c61
                                    clear c61
                                    by_cases c62 : t391 = 0
                                    · rw [if_pos c62] at H
                                      have c62b0 : (t391 == 0) = true := beq_iff_eq.mpr c62
                                      have c62b1 : (t391 != 0) = false := bne_eq_false_iff_eq.mpr c62
                                      clear c62
                                      by_cases c63 : t393 = 0
                                      · rw [if_pos c63] at H
                                        have c63b0 : (t393 == 0) = true := beq_iff_eq.mpr c63
                                        have c63b1 : (t393 != 0) = false := bne_eq_false_iff_eq.mpr c63
                                        clear c63
                                        by_cases c64 : (wrap64 (t388 - t386)) = x8_2
                                        · rw [if_pos c64] at H
                                          have c64b0 : ((wrap64 (t388 - t386)) == x8_2) = true := beq_iff_eq.mpr c64
                                          have c64b1 : ((wrap64 (t388 - t386)) != x8_2) = false := bne_eq_false_iff_eq.mpr c64
                                          clear c64
                                          by_cases c65 : (wrap64 (t392 - t390)) = x8_2
                                          · rw [if_pos c65] at H
                                            have c65b0 : ((wrap64 (t392 - t390)) == x8_2) = true := beq_iff_eq.mpr c65
                                            have c65b1 : ((wrap64 (t392 - t390)) != x8_2) = false := bne_eq_false_iff_eq.mpr c65
                                            clear c65
                                            replace H := Option.bind_eq_some_iff.mp H
                                            obtain ⟨t394, A660, H⟩ := H
                                            replace H : (some t394) = some r := H
                                            have A66 := Aside0.mk A660
                                            clear A660
                                            obtain rfl := Option.some.inj H
                                            go_wp2_with (first | (go_at_call 12; (with_reducible refine (trim_Fits.calls _ _ l0 0 t386 t387 _ ?side1 ?side2 A56.out).mono ?_); (case side1 => repeat (first | exact (Kd.C_below HR0.out HB.out) | (with_reducible refine Kd.C_alloc ?_ _) | (with_reducible refine Kd.C_drewN ?_ _) | (with_reducible refine Kd.C_drew ?_))); (case side2 => exact HC0.out); rintro e w67 ⟨rfl, hb⟩; replace HO_7 := Aside0.mk (Kd.R_below (rx HO_7) hb); replace HO_10 := Aside0.mk (Kd.R_below (rx HO_10) hb); replace HO_11 := Aside0.mk (Kd.R_below (rx HO_11) hb); replace HB := bh HB hb; (try clear hb); (try clear hb2); (try clear hk); (try clear hi)) | (go_at_call 12; (with_reducible refine (trim_Fits.calls _ _ y369 0 t388 t389 _ ?side1 ?side2 A57.out).mono ?_); (case side1 => repeat (first | exact (Kd.R_reads' HO_7.out).2.2 | (with_reducible refine Kd.C_alloc ?_ _) | (with_reducible refine Kd.C_drewN ?_ _) | (with_reducible refine Kd.C_drew ?_))); (case side2 => exact (Kd.R_reads' HO_7.out).2.1); rintro e w68 ⟨rfl, hb⟩; replace HO_7 := Aside0.mk (Kd.R_below (rx HO_7) hb); replace HO_10 := Aside0.mk (Kd.R_below (rx HO_10) hb); replace HO_11 := Aside0.mk (Kd.R_below (rx HO_11) hb); replace HB := bh HB hb; (try clear hb); (try clear hb2); (try clear hk); (try clear hi)) | (go_at_call 14; (with_reducible refine (trim_Goes.calls _ _ l0 0 t390 t391 _ ?side1 ?side2 A58.out).mono ?_); (case side1 => repeat (first | exact (Kd.C_below HR0.out HB.out) | (with_reducible refine Kd.C_alloc ?_ _) | (with_reducible refine Kd.C_drewN ?_ _) | (with_reducible refine Kd.C_drew ?_))); (case side2 => exact HC0.out); rintro e w69 ⟨rfl, hb⟩; replace HO_7 := Aside0.mk (Kd.R_below (rx HO_7) hb); replace HO_10 := Aside0.mk (Kd.R_below (rx HO_10) hb); replace HO_11 := Aside0.mk (Kd.R_below (rx HO_11) hb); replace HB := bh HB hb; (try clear hb); (try clear hb2); (try clear hk); (try clear hi)) | (go_at_call 14; (with_reducible refine (trim_Goes.calls _ _ y369 0 t392 t393 _ ?side1 ?side2 A59.out).mono ?_); (case side1 => repeat (first | exact (Kd.R_reads' HO_7.out).2.2 | (with_reducible refine Kd.C_alloc ?_ _) | (with_reducible refine Kd.C_drewN ?_ _) | (with_reducible refine Kd.C_drew ?_))); (case side2 => exact (Kd.R_reads' HO_7.out).2.1); rintro e w70 ⟨rfl, hb⟩; replace HO_7 := Aside0.mk (Kd.R_below (rx HO_7) hb); replace HO_10 := Aside0.mk (Kd.R_below (rx HO_10) hb); replace HO_11 := Aside0.mk (Kd.R_below (rx HO_11) hb); replace HB := bh HB hb; (try clear hb); (try clear hb2); (try clear hk); (try clear hi)) | (go_at_call 11; (with_reducible refine (stickfullaw13_head.calls k4  t394 _ A66.out).mono ?_); rintro e w71 ⟨rfl, hb⟩; replace HO_7 := Aside0.mk (Kd.R_below (rx HO_7) hb); replace HO_10 := Aside0.mk (Kd.R_below (rx HO_10) hb); replace HO_11 := Aside0.mk (Kd.R_below (rx HO_11) hb); replace HB := bh HB hb; (try clear hb); (try clear hb2); (try clear hk); (try clear hi)))
                                            repeat (go_quiet (first | (go_at_call 12; (with_reducible refine (trim_Fits.calls _ _ l0 0 t386 t387 _ ?side1 ?side2 A56.out).mono ?_); (case side1 => repeat (first | exact (Kd.C_below HR0.out HB.out) | (with_reducible refine Kd.C_alloc ?_ _) | (with_reducible refine Kd.C_drewN ?_ _) | (with_reducible refine Kd.C_drew ?_))); (case side2 => exact HC0.out); rintro e w67 ⟨rfl, hb⟩; replace HO_7 := Aside0.mk (Kd.R_below (rx HO_7) hb); replace HO_10 := Aside0.mk (Kd.R_below (rx HO_10) hb); replace HO_11 := Aside0.mk (Kd.R_below (rx HO_11) hb); replace HB := bh HB hb; (try clear hb); (try clear hb2); (try clear hk); (try clear hi)) | (go_at_call 12; (with_reducible refine (trim_Fits.calls _ _ y369 0 t388 t389 _ ?side1 ?side2 A57.out).mono ?_); (case side1 => repeat (first | exact (Kd.R_reads' HO_7.out).2.2 | (with_reducible refine Kd.C_alloc ?_ _) | (with_reducible refine Kd.C_drewN ?_ _) | (with_reducible refine Kd.C_drew ?_))); (case side2 => exact (Kd.R_reads' HO_7.out).2.1); rintro e w68 ⟨rfl, hb⟩; replace HO_7 := Aside0.mk (Kd.R_below (rx HO_7) hb); replace HO_10 := Aside0.mk (Kd.R_below (rx HO_10) hb); replace HO_11 := Aside0.mk (Kd.R_below (rx HO_11) hb); replace HB := bh HB hb; (try clear hb); (try clear hb2); (try clear hk); (try clear hi)) | (go_at_call 14; (with_reducible refine (trim_Goes.calls _ _ l0 0 t390 t391 _ ?side1 ?side2 A58.out).mono ?_); (case side1 => repeat (first | exact (Kd.C_below HR0.out HB.out) | (with_reducible refine Kd.C_alloc ?_ _) | (with_reducible refine Kd.C_drewN ?_ _) | (with_reducible refine Kd.C_drew ?_))); (case side2 => exact HC0.out); rintro e w69 ⟨rfl, hb⟩; replace HO_7 := Aside0.mk (Kd.R_below (rx HO_7) hb); replace HO_10 := Aside0.mk (Kd.R_below (rx HO_10) hb); replace HO_11 := Aside0.mk (Kd.R_below (rx HO_11) hb); replace HB := bh HB hb; (try clear hb); (try clear hb2); (try clear hk); (try clear hi)) | (go_at_call 14; (with_reducible refine (trim_Goes.calls _ _ y369 0 t392 t393 _ ?side1 ?side2 A59.out).mono ?_); (case side1 => repeat (first | exact (Kd.R_reads' HO_7.out).2.2 | (with_reducible refine Kd.C_alloc ?_ _) | (with_reducible refine Kd.C_drewN ?_ _) | (with_reducible refine Kd.C_drew ?_))); (case side2 => exact (Kd.R_reads' HO_7.out).2.1); rintro e w70 ⟨rfl, hb⟩; replace HO_7 := Aside0.mk (Kd.R_below (rx HO_7) hb); replace HO_10 := Aside0.mk (Kd.R_below (rx HO_10) hb); replace HO_11 := Aside0.mk (Kd.R_below (rx HO_11) hb); replace HB := bh HB hb; (try clear hb); (try clear hb2); (try clear hk); (try clear hi)) | (go_at_call 11; (with_reducible refine (stickfullaw13_head.calls k4  t394 _ A66.out).mono ?_); rintro e w71 ⟨rfl, hb⟩; replace HO_7 := Aside0.mk (Kd.R_below (rx HO_7) hb); replace HO_10 := Aside0.mk (Kd.R_below (rx HO_10) hb); replace HO_11 := Aside0.mk (Kd.R_below (rx HO_11) hb); replace HB := bh HB hb; (try clear hb); (try clear hb2); (try clear hk); (try clear hi))); try go_wp2_with (first | (go_at_call 12; (with_reducible refine (trim_Fits.calls _ _ l0 0 t386 t387 _ ?side1 ?side2 A56.out).mono ?_); (case side1 => repeat (first | exact (Kd.C_below HR0.out HB.out) | (with_reducible refine Kd.C_alloc ?_ _) | (with_reducible refine Kd.C_drewN ?_ _) | (with_reducible refine Kd.C_drew ?_))); (case side2 => exact HC0.out); rintro e w67 ⟨rfl, hb⟩; replace HO_7 := Aside0.mk (Kd.R_below (rx HO_7) hb); replace HO_10 := Aside0.mk (Kd.R_below (rx HO_10) hb); replace HO_11 := Aside0.mk (Kd.R_below (rx HO_11) hb); replace HB := bh HB hb; (try clear hb); (try clear hb2); (try clear hk); (try clear hi)) | (go_at_call 12; (with_reducible refine (trim_Fits.calls _ _ y369 0 t388 t389 _ ?side1 ?side2 A57.out).mono ?_); (case side1 => repeat (first | exact (Kd.R_reads' HO_7.out).2.2 | (with_reducible refine Kd.C_alloc ?_ _) | (with_reducible refine Kd.C_drewN ?_ _) | (with_reducible refine Kd.C_drew ?_))); (case side2 => exact (Kd.R_reads' HO_7.out).2.1); rintro e w68 ⟨rfl, hb⟩; replace HO_7 := Aside0.mk (Kd.R_below (rx HO_7) hb); replace HO_10 := Aside0.mk (Kd.R_below (rx HO_10) hb); replace HO_11 := Aside0.mk (Kd.R_below (rx HO_11) hb); replace HB := bh HB hb; (try clear hb); (try clear hb2); (try clear hk); (try clear hi)) | (go_at_call 14; (with_reducible refine (trim_Goes.calls _ _ l0 0 t390 t391 _ ?side1 ?side2 A58.out).mono ?_); (case side1 => repeat (first | exact (Kd.C_below HR0.out HB.out) | (with_reducible refine Kd.C_alloc ?_ _) | (with_reducible refine Kd.C_drewN ?_ _) | (with_reducible refine Kd.C_drew ?_))); (case side2 => exact HC0.out); rintro e w69 ⟨rfl, hb⟩; replace HO_7 := Aside0.mk (Kd.R_below (rx HO_7) hb); replace HO_10 := Aside0.mk (Kd.R_below (rx HO_10) hb); replace HO_11 := Aside0.mk (Kd.R_below (rx HO_11) hb); replace HB := bh HB hb; (try clear hb); (try clear hb2); (try clear hk); (try clear hi)) | (go_at_call 14; (with_reducible refine (trim_Goes.calls _ _ y369 0 t392 t393 _ ?side1 ?side2 A59.out).mono ?_); (case side1 => repeat (first | exact (Kd.R_reads' HO_7.out).2.2 | (with_reducible refine Kd.C_alloc ?_ _) | (with_reducible refine Kd.C_drewN ?_ _) | (with_reducible refine Kd.C_drew ?_))); (case side2 => exact (Kd.R_reads' HO_7.out).2.1); rintro e w70 ⟨rfl, hb⟩; replace HO_7 := Aside0.mk (Kd.R_below (rx HO_7) hb); replace HO_10 := Aside0.mk (Kd.R_below (rx HO_10) hb); replace HO_11 := Aside0.mk (Kd.R_below (rx HO_11) hb); replace HB := bh HB hb; (try clear hb); (try clear hb2); (try clear hk); (try clear hi)) | (go_at_call 11; (with_reducible refine (stickfullaw13_head.calls k4  t394 _ A66.out).mono ?_); rintro e w71 ⟨rfl, hb⟩; replace HO_7 := Aside0.mk (Kd.R_below (rx HO_7) hb); replace HO_10 := Aside0.mk (Kd.R_below (rx HO_10) hb); replace HO_11 := Aside0.mk (Kd.R_below (rx HO_11) hb); replace HB := bh HB hb; (try clear hb); (try clear hb2); (try clear hk); (try clear hi))))
                                            go_ret
                                            exact ⟨by first | rfl | (simp [errW_none, errW_some] <;> rfl) | (simp [*, errW_none, errW_some] <;> rfl), by repeat (first | (with_reducible first | exact HB.out | apply below_alloc | apply pw_below_drewN | apply below_drew1) | exact HB.out)⟩
                                          · rw [if_neg c65] at H
                                            have c65b0 : ((wrap64 (t392 - t390)) == x8_2) = false := beq_eq_false_iff_ne.mpr c65
                                            have c65b1 : ((wrap64 (t392 - t390)) != x8_2) = true := bne_iff_ne.mpr c65
                                            exact absurd ((Option.some.inj H).trans HR_.out) (by decide)
                                        · rw [if_neg c64] at H
                                          have c64b0 : ((wrap64 (t388 - t386)) == x8_2) = false := beq_eq_false_iff_ne.mpr c64
                                          have c64b1 : ((wrap64 (t388 - t386)) != x8_2) = true := bne_iff_ne.mpr c64
                                          exact absurd ((Option.some.inj H).trans HR_.out) (by decide)
                                      · rw [if_neg c63] at H
                                        have c63b0 : (t393 == 0) = false := beq_eq_false_iff_ne.mpr c63
                                        have c63b1 : (t393 != 0) = true := bne_iff_ne.mpr c63
                                        exact absurd ((Option.some.inj H).trans HR_.out) (by decide)
                                    · rw [if_neg c62] at H
                                      have c62b0 : (t391 == 0) = false := beq_eq_false_iff_ne.mpr c62
                                      have c62b1 : (t391 != 0) = true := bne_iff_ne.mpr c62
                                      exact absurd ((Option.some.inj H).trans HR_.out) (by decide)
                                  · rw [if_neg c61] at H
                                    have c61b0 : (t389 == 0) = false := beq_eq_false_iff_ne.mpr c61
                                    have c61b1 : (t389 != 0) = true := bne_iff_ne.mpr c61
                                    exact absurd ((Option.some.inj H).trans HR_.out) (by decide)
                                · rw [if_neg c60] at H
                                  have c60b0 : (t387 == 0) = false := beq_eq_false_iff_ne.mpr c60
                                  have c60b1 : (t387 != 0) = true := bne_iff_ne.mpr c60
                                  exact absurd ((Option.some.inj H).trans HR_.out) (by decide)
            · rw [if_neg c15] at H
              exact absurd H (by simp)
          · rw [if_neg c14] at H
            exact absurd H (by simp)
        · rw [if_neg c13] at H
          exact absurd H (by simp)

end Go.Proofs.Ytkegnlidlabjeaa.HTrim
