-- Written by this claim's own program over the kit's print.
import Derived.Test.YtdkhjhckdjhiiaaHTabsb
import Derived.Test.YtdkhjhckdjhiiaaHTabsx0
import Derived.Test.YtdkhjhckdjhiiaaHTabsx4
import Derived.Test.YtdkhjhckdjhiiaaHTabsx5
namespace Go.Proofs.Ytdkhjhckdjhiiaa.HTabs
open Go.RowKit Go.Proofs.YtdkhjhckdjhiiaaW.PrintWords Go.Proofs.YtdkhjhckdjhiiaaW.PrintLast Go.Proofs.YtdkhjhckdjhiiaaW.PrintMore Go.Proofs.Ytdkhjhckdjhiiaa.Hand
attribute [local go_sem] max2_int min2_int max_two min_two max_three min_three max_four min_four   -- for this text's walks alone
set_option linter.unusedVariables false
set_option linter.unusedSimpArgs false

/-! ### stickfullaw12_TabsStops: function 4 -/
mutual
def stickfullaw12_TabsStops.j0 : Nat → List (S31) → Int → Int → Bool → Option (Bool)
  | 0, _, _, _, _ => none
  | k + 1, x0, x1, x2, x34 => if x34 = true then ((stickfullaw12_head.f k).bind fun t225 => (some t225)) else ((tabs_Pens.f x0 ([] : List Int) x1).bind fun bt226 => (if bt226.2 = 0 then (stickfullaw12_TabsStops.j1 k x0 x1 x2 bt226.1 bt226.2 ((bt226.1.length : Int) != (wrap64 ((x0.length : Int) + 1)))) else (stickfullaw12_TabsStops.j1 k x0 x1 x2 bt226.1 bt226.2 true)))
def stickfullaw12_TabsStops.j1 : Nat → List (S31) → Int → Int → List Int → Int → Bool → Option (Bool)
  | 0, _, _, _, _, _, _ => none
  | k + 1, x0, x1, x2, x7, x8, x51 => if x51 = true then (if x8 = 0 then (some false) else ((stickfullaw12_head.f k).bind fun t230 => (some t230))) else (stickfullaw12_TabsStops.l0 k x0 x1 x2 x7 false 0)
def stickfullaw12_TabsStops.l0 : Nat → List (S31) → Int → Int → List Int → Bool → Int → Option (Bool)
  | 0, _, _, _, _, _, _ => none
  | k + 1, x0, x1, x2, x7, x9, x10 => if x10 < (x0.length : Int) then (if 0 ≤ x10 then (if 0 ≤ (wrap64 (x10 + 1)) then (if (wrap64 (x10 + 1)) < (x7.length : Int) then (if x10 < (x7.length : Int) then (if ((rd_T31 x0 x10).f3) > 1099511627776 then (stickfullaw12_TabsStops.j3 k x0 x1 x2 x7 x9 x10 ((rd_T31 x0 x10).f3) (wrap64 ((rd x7 (wrap64 (x10 + 1))) - (rd x7 x10))) true) else (stickfullaw12_TabsStops.j3 k x0 x1 x2 x7 x9 x10 ((rd_T31 x0 x10).f3) (wrap64 ((rd x7 (wrap64 (x10 + 1))) - (rd x7 x10))) (decide (((rd_T31 x0 x10).f3) < (-1099511627776))))) else (none)) else (none)) else (none)) else (none)) else ((tabs_Pens.f x0 ([] : List Int) (wrap64 (x1 + x2))).bind fun bt240 => (if bt240.2 = 0 then (stickfullaw12_TabsStops.j4 k x2 x7 x9 bt240.1 ((bt240.1.length : Int) != (x7.length : Int))) else (stickfullaw12_TabsStops.j4 k x2 x7 x9 bt240.1 true)))
def stickfullaw12_TabsStops.j3 : Nat → List (S31) → Int → Int → List Int → Bool → Int → Int → Int → Bool → Option (Bool)
  | 0, _, _, _, _, _, _, _, _, _ => none
  | k + 1, x0, x1, x2, x7, x9, x10, x11, x12, x91 => if x91 = true then ((stickfullaw12_head.f k).bind fun t236 => (some t236)) else (if 0 ≤ x10 then (if x10 < (x0.length : Int) then (if ((rd_T31 x0 x10).f0) = 4 then (if x11 = 0 then (if x12 = 0 then (if x11 > 0 then (if x12 < 1 then (some false) else (if x12 > x11 then (some false) else (if 0 ≤ (wrap64 (x10 + 1)) then (if (wrap64 (x10 + 1)) < (x7.length : Int) then (none) else (none)) else (none)))) else (stickfullaw12_TabsStops.l0 k x0 x1 x2 x7 true (wrap64 (x10 + 1)))) else (some false)) else (if x11 > 0 then (if x12 < 1 then (some false) else (if x12 > x11 then (some false) else (if 0 ≤ (wrap64 (x10 + 1)) then (if (wrap64 (x10 + 1)) < (x7.length : Int) then (if (Int.tmod (rd x7 (wrap64 (x10 + 1))) x11) = 0 then (stickfullaw12_TabsStops.l0 k x0 x1 x2 x7 true (wrap64 (x10 + 1))) else (some false)) else (none)) else (none)))) else (stickfullaw12_TabsStops.l0 k x0 x1 x2 x7 true (wrap64 (x10 + 1))))) else (if x12 = x11 then (stickfullaw12_TabsStops.l0 k x0 x1 x2 x7 x9 (wrap64 (x10 + 1))) else (some false))) else (none)) else (none))
def stickfullaw12_TabsStops.j4 : Nat → Int → List Int → Bool → List Int → Bool → Option (Bool)
  | 0, _, _, _, _, _ => none
  | k + 1, x2, x7, x9, x13, x147 => if x147 = true then (some false) else (stickfullaw12_TabsStops.l1 k x2 x7 x9 x13 0)
def stickfullaw12_TabsStops.l1 : Nat → Int → List Int → Bool → List Int → Int → Option (Bool)
  | 0, _, _, _, _, _ => none
  | k + 1, x2, x7, x9, x13, x15 => if x15 < (x7.length : Int) then (stickfullaw12_TabsStops.j6 k x2 x7 x9 x13 x15 (!x9)) else (stickfullaw12_TabsStops.j6 k x2 x7 x9 x13 x15 false)
def stickfullaw12_TabsStops.j6 : Nat → Int → List Int → Bool → List Int → Int → Bool → Option (Bool)
  | 0, _, _, _, _, _, _ => none
  | k + 1, x2, x7, x9, x13, x15, x155 => if x155 = true then (if 0 ≤ x15 then (if x15 < (x13.length : Int) then (if x15 < (x7.length : Int) then (if (wrap64 ((rd x13 x15) - (rd x7 x15))) = x2 then (stickfullaw12_TabsStops.l1 k x2 x7 x9 x13 (wrap64 (x15 + 1))) else (some false)) else (none)) else (none)) else (none)) else ((stickfullaw12_head.f k).bind fun t246 => (some t246))
end
def stickfullaw12_TabsStops.f (k : Nat) (l0 : List (S31)) (a1 a2 : Int) : Option (Bool) := if (l0.length : Int) > 200 then (stickfullaw12_TabsStops.j0 k l0 a1 a2 true) else (if a1 > 1099511627776 then (stickfullaw12_TabsStops.j0 k l0 a1 a2 true) else (if a1 < (-1099511627776) then (stickfullaw12_TabsStops.j0 k l0 a1 a2 true) else (if a2 > 1099511627776 then (stickfullaw12_TabsStops.j0 k l0 a1 a2 true) else (stickfullaw12_TabsStops.j0 k l0 a1 a2 (decide (a2 < (-1099511627776)))))))
theorem stickfullaw12_TabsStops.mono_l : ∀ k, (∀ y0 y1 y2 y3, LeO (stickfullaw12_TabsStops.j0 k y0 y1 y2 y3) (stickfullaw12_TabsStops.j0 (k + 1) y0 y1 y2 y3)) ∧ (∀ y0 y1 y2 y3 y4 y5, LeO (stickfullaw12_TabsStops.j1 k y0 y1 y2 y3 y4 y5) (stickfullaw12_TabsStops.j1 (k + 1) y0 y1 y2 y3 y4 y5)) ∧ (∀ y0 y1 y2 y3 y4 y5, LeO (stickfullaw12_TabsStops.l0 k y0 y1 y2 y3 y4 y5) (stickfullaw12_TabsStops.l0 (k + 1) y0 y1 y2 y3 y4 y5)) ∧ (∀ y0 y1 y2 y3 y4 y5 y6 y7 y8, LeO (stickfullaw12_TabsStops.j3 k y0 y1 y2 y3 y4 y5 y6 y7 y8) (stickfullaw12_TabsStops.j3 (k + 1) y0 y1 y2 y3 y4 y5 y6 y7 y8)) ∧ (∀ y0 y1 y2 y3 y4, LeO (stickfullaw12_TabsStops.j4 k y0 y1 y2 y3 y4) (stickfullaw12_TabsStops.j4 (k + 1) y0 y1 y2 y3 y4)) ∧ (∀ y0 y1 y2 y3 y4, LeO (stickfullaw12_TabsStops.l1 k y0 y1 y2 y3 y4) (stickfullaw12_TabsStops.l1 (k + 1) y0 y1 y2 y3 y4)) ∧ (∀ y0 y1 y2 y3 y4 y5, LeO (stickfullaw12_TabsStops.j6 k y0 y1 y2 y3 y4 y5) (stickfullaw12_TabsStops.j6 (k + 1) y0 y1 y2 y3 y4 y5))
  | 0 => ⟨fun _ _ _ _ r h => by simp [stickfullaw12_TabsStops.j0] at h, fun _ _ _ _ _ _ r h => by simp [stickfullaw12_TabsStops.j1] at h, fun _ _ _ _ _ _ r h => by simp [stickfullaw12_TabsStops.l0] at h, fun _ _ _ _ _ _ _ _ _ r h => by simp [stickfullaw12_TabsStops.j3] at h, fun _ _ _ _ _ r h => by simp [stickfullaw12_TabsStops.j4] at h, fun _ _ _ _ _ r h => by simp [stickfullaw12_TabsStops.l1] at h, fun _ _ _ _ _ _ r h => by simp [stickfullaw12_TabsStops.j6] at h⟩
  | k + 1 => by
    obtain ⟨ih0, ih1, ih2, ih3, ih4, ih5, ih6⟩ := stickfullaw12_TabsStops.mono_l k
    refine ⟨?_, ?_, ?_, ?_, ?_, ?_, ?_⟩
    · intro y0 y1 y2 y3
      unfold stickfullaw12_TabsStops.j0
      repeat' first
      | (with_reducible exact ih0 _ _ _ _)
      | (with_reducible exact ih1 _ _ _ _ _ _)
      | (with_reducible exact ih2 _ _ _ _ _ _)
      | (with_reducible exact ih3 _ _ _ _ _ _ _ _ _)
      | (with_reducible exact ih4 _ _ _ _ _)
      | (with_reducible exact ih5 _ _ _ _ _)
      | (with_reducible exact ih6 _ _ _ _ _ _)
      | (with_reducible exact stickfullaw12_head.mono _)
      | (with_reducible exact LeO.refl _)
      | (with_reducible exact LeO.none _)
      | (with_reducible refine LeO.ite ?_ ?_)
      | (with_reducible refine LeO.bind ?_ (fun _ => ?_))
      | exact ih0 _ _ _ _
      | exact ih1 _ _ _ _ _ _
      | exact ih2 _ _ _ _ _ _
      | exact ih3 _ _ _ _ _ _ _ _ _
      | exact ih4 _ _ _ _ _
      | exact ih5 _ _ _ _ _
      | exact ih6 _ _ _ _ _ _
      | exact stickfullaw12_head.mono _
      | exact LeO.none _
      | refine LeO.ite ?_ ?_
      | refine LeO.bind ?_ (fun _ => ?_)
    · intro y0 y1 y2 y3 y4 y5
      unfold stickfullaw12_TabsStops.j1
      repeat' first
      | (with_reducible exact ih0 _ _ _ _)
      | (with_reducible exact ih1 _ _ _ _ _ _)
      | (with_reducible exact ih2 _ _ _ _ _ _)
      | (with_reducible exact ih3 _ _ _ _ _ _ _ _ _)
      | (with_reducible exact ih4 _ _ _ _ _)
      | (with_reducible exact ih5 _ _ _ _ _)
      | (with_reducible exact ih6 _ _ _ _ _ _)
      | (with_reducible exact stickfullaw12_head.mono _)
      | (with_reducible exact LeO.refl _)
      | (with_reducible exact LeO.none _)
      | (with_reducible refine LeO.ite ?_ ?_)
      | (with_reducible refine LeO.bind ?_ (fun _ => ?_))
      | exact ih0 _ _ _ _
      | exact ih1 _ _ _ _ _ _
      | exact ih2 _ _ _ _ _ _
      | exact ih3 _ _ _ _ _ _ _ _ _
      | exact ih4 _ _ _ _ _
      | exact ih5 _ _ _ _ _
      | exact ih6 _ _ _ _ _ _
      | exact stickfullaw12_head.mono _
      | exact LeO.none _
      | refine LeO.ite ?_ ?_
      | refine LeO.bind ?_ (fun _ => ?_)
    · intro y0 y1 y2 y3 y4 y5
      unfold stickfullaw12_TabsStops.l0
      repeat' first
      | (with_reducible exact ih0 _ _ _ _)
      | (with_reducible exact ih1 _ _ _ _ _ _)
      | (with_reducible exact ih2 _ _ _ _ _ _)
      | (with_reducible exact ih3 _ _ _ _ _ _ _ _ _)
      | (with_reducible exact ih4 _ _ _ _ _)
      | (with_reducible exact ih5 _ _ _ _ _)
      | (with_reducible exact ih6 _ _ _ _ _ _)
      | (with_reducible exact stickfullaw12_head.mono _)
      | (with_reducible exact LeO.refl _)
      | (with_reducible exact LeO.none _)
      | (with_reducible refine LeO.ite ?_ ?_)
      | (with_reducible refine LeO.bind ?_ (fun _ => ?_))
      | exact ih0 _ _ _ _
      | exact ih1 _ _ _ _ _ _
      | exact ih2 _ _ _ _ _ _
      | exact ih3 _ _ _ _ _ _ _ _ _
      | exact ih4 _ _ _ _ _
      | exact ih5 _ _ _ _ _
      | exact ih6 _ _ _ _ _ _
      | exact stickfullaw12_head.mono _
      | exact LeO.none _
      | refine LeO.ite ?_ ?_
      | refine LeO.bind ?_ (fun _ => ?_)
    · intro y0 y1 y2 y3 y4 y5 y6 y7 y8
      unfold stickfullaw12_TabsStops.j3
      repeat' first
      | (with_reducible exact ih0 _ _ _ _)
      | (with_reducible exact ih1 _ _ _ _ _ _)
      | (with_reducible exact ih2 _ _ _ _ _ _)
      | (with_reducible exact ih3 _ _ _ _ _ _ _ _ _)
      | (with_reducible exact ih4 _ _ _ _ _)
      | (with_reducible exact ih5 _ _ _ _ _)
      | (with_reducible exact ih6 _ _ _ _ _ _)
      | (with_reducible exact stickfullaw12_head.mono _)
      | (with_reducible exact LeO.refl _)
      | (with_reducible exact LeO.none _)
      | (with_reducible refine LeO.ite ?_ ?_)
      | (with_reducible refine LeO.bind ?_ (fun _ => ?_))
      | exact ih0 _ _ _ _
      | exact ih1 _ _ _ _ _ _
      | exact ih2 _ _ _ _ _ _
      | exact ih3 _ _ _ _ _ _ _ _ _
      | exact ih4 _ _ _ _ _
      | exact ih5 _ _ _ _ _
      | exact ih6 _ _ _ _ _ _
      | exact stickfullaw12_head.mono _
      | exact LeO.none _
      | refine LeO.ite ?_ ?_
      | refine LeO.bind ?_ (fun _ => ?_)
    · intro y0 y1 y2 y3 y4
      unfold stickfullaw12_TabsStops.j4
      repeat' first
      | (with_reducible exact ih0 _ _ _ _)
      | (with_reducible exact ih1 _ _ _ _ _ _)
      | (with_reducible exact ih2 _ _ _ _ _ _)
      | (with_reducible exact ih3 _ _ _ _ _ _ _ _ _)
      | (with_reducible exact ih4 _ _ _ _ _)
      | (with_reducible exact ih5 _ _ _ _ _)
      | (with_reducible exact ih6 _ _ _ _ _ _)
      | (with_reducible exact stickfullaw12_head.mono _)
      | (with_reducible exact LeO.refl _)
      | (with_reducible exact LeO.none _)
      | (with_reducible refine LeO.ite ?_ ?_)
      | (with_reducible refine LeO.bind ?_ (fun _ => ?_))
      | exact ih0 _ _ _ _
      | exact ih1 _ _ _ _ _ _
      | exact ih2 _ _ _ _ _ _
      | exact ih3 _ _ _ _ _ _ _ _ _
      | exact ih4 _ _ _ _ _
      | exact ih5 _ _ _ _ _
      | exact ih6 _ _ _ _ _ _
      | exact stickfullaw12_head.mono _
      | exact LeO.none _
      | refine LeO.ite ?_ ?_
      | refine LeO.bind ?_ (fun _ => ?_)
    · intro y0 y1 y2 y3 y4
      unfold stickfullaw12_TabsStops.l1
      repeat' first
      | (with_reducible exact ih0 _ _ _ _)
      | (with_reducible exact ih1 _ _ _ _ _ _)
      | (with_reducible exact ih2 _ _ _ _ _ _)
      | (with_reducible exact ih3 _ _ _ _ _ _ _ _ _)
      | (with_reducible exact ih4 _ _ _ _ _)
      | (with_reducible exact ih5 _ _ _ _ _)
      | (with_reducible exact ih6 _ _ _ _ _ _)
      | (with_reducible exact stickfullaw12_head.mono _)
      | (with_reducible exact LeO.refl _)
      | (with_reducible exact LeO.none _)
      | (with_reducible refine LeO.ite ?_ ?_)
      | (with_reducible refine LeO.bind ?_ (fun _ => ?_))
      | exact ih0 _ _ _ _
      | exact ih1 _ _ _ _ _ _
      | exact ih2 _ _ _ _ _ _
      | exact ih3 _ _ _ _ _ _ _ _ _
      | exact ih4 _ _ _ _ _
      | exact ih5 _ _ _ _ _
      | exact ih6 _ _ _ _ _ _
      | exact stickfullaw12_head.mono _
      | exact LeO.none _
      | refine LeO.ite ?_ ?_
      | refine LeO.bind ?_ (fun _ => ?_)
    · intro y0 y1 y2 y3 y4 y5
      unfold stickfullaw12_TabsStops.j6
      repeat' first
      | (with_reducible exact ih0 _ _ _ _)
      | (with_reducible exact ih1 _ _ _ _ _ _)
      | (with_reducible exact ih2 _ _ _ _ _ _)
      | (with_reducible exact ih3 _ _ _ _ _ _ _ _ _)
      | (with_reducible exact ih4 _ _ _ _ _)
      | (with_reducible exact ih5 _ _ _ _ _)
      | (with_reducible exact ih6 _ _ _ _ _ _)
      | (with_reducible exact stickfullaw12_head.mono _)
      | (with_reducible exact LeO.refl _)
      | (with_reducible exact LeO.none _)
      | (with_reducible refine LeO.ite ?_ ?_)
      | (with_reducible refine LeO.bind ?_ (fun _ => ?_))
      | exact ih0 _ _ _ _
      | exact ih1 _ _ _ _ _ _
      | exact ih2 _ _ _ _ _ _
      | exact ih3 _ _ _ _ _ _ _ _ _
      | exact ih4 _ _ _ _ _
      | exact ih5 _ _ _ _ _
      | exact ih6 _ _ _ _ _ _
      | exact stickfullaw12_head.mono _
      | exact LeO.none _
      | refine LeO.ite ?_ ?_
      | refine LeO.bind ?_ (fun _ => ?_)
theorem stickfullaw12_TabsStops.mono : ∀ a0 a1 a2 k, LeO (stickfullaw12_TabsStops.f k a0 a1 a2) (stickfullaw12_TabsStops.f (k + 1) a0 a1 a2) := by
  intro a0 a1 a2 k
  obtain ⟨ih0, ih1, ih2, ih3, ih4, ih5, ih6⟩ := stickfullaw12_TabsStops.mono_l k
  unfold stickfullaw12_TabsStops.f
  repeat' first
      | (with_reducible exact ih0 _ _ _ _)
      | (with_reducible exact ih1 _ _ _ _ _ _)
      | (with_reducible exact ih2 _ _ _ _ _ _)
      | (with_reducible exact ih3 _ _ _ _ _ _ _ _ _)
      | (with_reducible exact ih4 _ _ _ _ _)
      | (with_reducible exact ih5 _ _ _ _ _)
      | (with_reducible exact ih6 _ _ _ _ _ _)
      | (with_reducible exact stickfullaw12_head.mono _)
      | (with_reducible exact LeO.refl _)
      | (with_reducible exact LeO.none _)
      | (with_reducible refine LeO.ite ?_ ?_)
      | (with_reducible refine LeO.bind ?_ (fun _ => ?_))
      | exact ih0 _ _ _ _
      | exact ih1 _ _ _ _ _ _
      | exact ih2 _ _ _ _ _ _
      | exact ih3 _ _ _ _ _ _ _ _ _
      | exact ih4 _ _ _ _ _
      | exact ih5 _ _ _ _ _
      | exact ih6 _ _ _ _ _ _
      | exact stickfullaw12_head.mono _
      | exact LeO.none _
      | refine LeO.ite ?_ ?_
      | refine LeO.bind ?_ (fun _ => ?_)
set_option maxHeartbeats 8000000 in
set_option maxRecDepth 100000 in
theorem stickfullaw12_TabsStops.calls_t (k : Nat) (A0 : Option Addr) (c0 : Nat) (l0 : List (S31)) (a1 a2 : Int) (r : Bool) (w : World) (hr0 : Kd.C k31 w A0 l0.length l0) (hc0 : l0.length ≤ c0) (h : stickfullaw12_TabsStops.f k l0 a1 a2 = some r) (hr_ : r = true) :
    Calls Try.prog 4 #[.slice A0 l0.length c0, .int .i64 a1, .int .i64 a2] w fun e w' => e = .returned (.bool r) ∧ Below w.heap.size w w' := by
  have HR_ := Aside0.mk hr_
  clear hr_
  have HR0 := Aside0.mk hr0
  have HC0 := Aside0.mk hc0
  clear hr0 hc0
  have HB := Aside0.mk (Below.refl w.heap.size w)
  have H : (if (l0.length : Int) > 200 then (stickfullaw12_TabsStops.j0 k l0 a1 a2 true) else (if a1 > 1099511627776 then (stickfullaw12_TabsStops.j0 k l0 a1 a2 true) else (if a1 < (-1099511627776) then (stickfullaw12_TabsStops.j0 k l0 a1 a2 true) else (if a2 > 1099511627776 then (stickfullaw12_TabsStops.j0 k l0 a1 a2 true) else (stickfullaw12_TabsStops.j0 k l0 a1 a2 (decide (a2 < (-1099511627776)))))))) = some r := h
  clear h
  have HC4 := Aside0.mk H
  clear H
  go_enter Try.func4, Try.ntmps4
  go_upto_region 1 with (fail)
  repeat (go_quiet (fail); go_upto_region 1 with (fail))
  go_cut [34] (fun v34 wc => ∃ (kq : Nat) (x34_3 : Bool), v34 = .bool x34_3 ∧ Aside0 (stickfullaw12_TabsStops.j0 kq l0 a1 a2 x34_3 = some r) ∧ Aside0 (kq ≤ k) ∧ Aside0 (Below w.heap.size w wc))
  case first =>
    have H := HC4.out
    clear HC4
    by_cases c5 : (l0.length : Int) > 200
    · rw [if_pos c5] at H
      have c5b0 : decide (200 < (l0.length : Int)) = true := decide_eq_true c5
      have c5b1 : decide (200 < l0.length) = true := decide_eq_true (by omega)
      clear c5
      (first | rw [c5b0] | (simp only [i64_w, i32_w]; rw [c5b0]) | skip)
      have H' := Aside0.mk H
      clear H
      go_wp2
      repeat (go_quiet (fail); try go_wp2)
      go_meet
      case rel => exact ⟨_, (true), (by first | rfl | (simp; done) | (simp [*]; done)), H', ⟨by first | omega | exact Nat.le_refl _⟩, ⟨by repeat (first | (with_reducible first | exact HB.out | apply below_alloc | apply pw_below_drewN | apply below_drew1) | exact HB.out)⟩⟩
    · rw [if_neg c5] at H
      have c5b0 : decide (200 < (l0.length : Int)) = false := decide_eq_false c5
      have c5b1 : decide (200 < l0.length) = false := decide_eq_false (by omega)
      clear c5
      (first | rw [c5b0] | (simp only [i64_w, i32_w]; rw [c5b0]) | skip)
      by_cases c6 : a1 > 1099511627776
      · rw [if_pos c6] at H
        have c6b0 : decide (1099511627776 < a1) = true := decide_eq_true c6
        clear c6
        have H' := Aside0.mk H
        clear H
        go_wp2
        repeat (go_quiet (fail); try go_wp2)
        go_meet
        case rel => exact ⟨_, (true), (by first | rfl | (simp; done) | (simp [*]; done)), H', ⟨by first | omega | exact Nat.le_refl _⟩, ⟨by repeat (first | (with_reducible first | exact HB.out | apply below_alloc | apply pw_below_drewN | apply below_drew1) | exact HB.out)⟩⟩
      · rw [if_neg c6] at H
        have c6b0 : decide (1099511627776 < a1) = false := decide_eq_false c6
        clear c6
        by_cases c7 : a1 < (-1099511627776)
        · rw [if_pos c7] at H
          have c7b0 : decide (a1 < (-1099511627776)) = true := decide_eq_true c7
          clear c7
          have H' := Aside0.mk H
          clear H
          go_wp2
          repeat (go_quiet (fail); try go_wp2)
          go_meet
          case rel => exact ⟨_, (true), (by first | rfl | (simp; done) | (simp [*]; done)), H', ⟨by first | omega | exact Nat.le_refl _⟩, ⟨by repeat (first | (with_reducible first | exact HB.out | apply below_alloc | apply pw_below_drewN | apply below_drew1) | exact HB.out)⟩⟩
        · rw [if_neg c7] at H
          have c7b0 : decide (a1 < (-1099511627776)) = false := decide_eq_false c7
          clear c7
          by_cases c8 : a2 > 1099511627776
          · rw [if_pos c8] at H
            have c8b0 : decide (1099511627776 < a2) = true := decide_eq_true c8
            clear c8
            have H' := Aside0.mk H
            clear H
            go_wp2
            repeat (go_quiet (fail); try go_wp2)
            go_meet
            case rel => exact ⟨_, (true), (by first | rfl | (simp; done) | (simp [*]; done)), H', ⟨by first | omega | exact Nat.le_refl _⟩, ⟨by repeat (first | (with_reducible first | exact HB.out | apply below_alloc | apply pw_below_drewN | apply below_drew1) | exact HB.out)⟩⟩
          · rw [if_neg c8] at H
            have c8b0 : decide (1099511627776 < a2) = false := decide_eq_false c8
            clear c8
            have H' := Aside0.mk H
            clear H
            go_wp2
            repeat (go_quiet (fail); try go_wp2)
            go_meet
            case rel => exact ⟨_, (decide (a2 < (-1099511627776))), (by first | rfl | (simp; done) | (simp [*]; done)), H', ⟨by first | omega | exact Nat.le_refl _⟩, ⟨by repeat (first | (with_reducible first | exact HB.out | apply below_alloc | apply pw_below_drewN | apply below_drew1) | exact HB.out)⟩⟩
  case rest =>
    clear HC4
    try clear p2
    try clear c4
    try clear c5
    try clear c5b0
    try clear c5b1
    try clear c6
    try clear c6b0
    try clear c7
    try clear c7b0
    try clear c8
    try clear c8b0
    obtain ⟨kq, x34_3, rfl, HA, HJ3, HB⟩ := hcut
    cases kq with
    | zero => exact absurd HA.out (by simp [stickfullaw12_TabsStops.j0])
    | succ kj3 =>
      have H := HA.out
      clear HA
      simp only [stickfullaw12_TabsStops.j0] at H
      by_cases c9 : x34_3 = true
      · subst c9
        have H1 : ((stickfullaw12_head.f kj3).bind fun t225 => (some t225)) = some r := by rw [if_pos rfl] at H; exact H
        clear H
        have H := H1
        clear H1
        replace H := Option.bind_eq_some_iff.mp H
        obtain ⟨t225, A100, H⟩ := H
        replace H : (some t225) = some r := H
        have A10 := Aside0.mk A100
        clear A100
        obtain rfl := Option.some.inj H
        go_wp2_with (first | (go_at_call 7; (with_reducible refine (stickfullaw12_head.calls kj3  t225 _ A10.out).mono ?_); rintro e w11 ⟨rfl, hb⟩; have n0_ := Aside0.mk (below_step (bw HB) hb); clear HB; have HB := n0_; clear n0_; (try clear hb); (try clear hb2); (try clear hk); (try clear hi)))
        repeat (go_quiet (first | (go_at_call 7; (with_reducible refine (stickfullaw12_head.calls kj3  t225 _ A10.out).mono ?_); rintro e w11 ⟨rfl, hb⟩; replace HB := bh HB hb; (try clear hb); (try clear hb2); (try clear hk); (try clear hi))); try go_wp2_with (first | (go_at_call 7; (with_reducible refine (stickfullaw12_head.calls kj3  t225 _ A10.out).mono ?_); rintro e w11 ⟨rfl, hb⟩; replace HB := bh HB hb; (try clear hb); (try clear hb2); (try clear hk); (try clear hi))))
        go_ret
        exact ⟨by first | rfl | (simp [errW_none, errW_some] <;> rfl) | (simp [*, errW_none, errW_some] <;> rfl), by repeat (first | (with_reducible first | exact HB.out | apply below_alloc | apply pw_below_drewN | apply below_drew1) | exact HB.out)⟩
      · replace c9 := Bool.eq_false_iff.mpr c9
        subst c9
        have H1 : ((tabs_Pens.f l0 ([] : List Int) a1).bind fun bt226 => (if bt226.2 = 0 then (stickfullaw12_TabsStops.j1 kj3 l0 a1 a2 bt226.1 bt226.2 ((bt226.1.length : Int) != (wrap64 ((l0.length : Int) + 1)))) else (stickfullaw12_TabsStops.j1 kj3 l0 a1 a2 bt226.1 bt226.2 true))) = some r := by rw [if_neg (show ¬ (false = true) by decide)] at H; exact H
        clear H
        have H := H1
        clear H1
        replace H := Option.bind_eq_some_iff.mp H
        obtain ⟨⟨t226, t227⟩, A120, H⟩ := H
        replace H : (if t227 = 0 then (stickfullaw12_TabsStops.j1 kj3 l0 a1 a2 t226 t227 ((t226.length : Int) != (wrap64 ((l0.length : Int) + 1)))) else (stickfullaw12_TabsStops.j1 kj3 l0 a1 a2 t226 t227 true)) = some r := H
        have A12 := Aside0.mk A120
        clear A120
        have HC13 := Aside0.mk H
        clear H
        go_upto_region 4 with (first | (go_at_call 8; (refine (tabs_Pens.calls _ _ l0 _ _ ([] : List Int) a1 t226 t227 _ ?side1 ?side2 ?side3 ?side4 A12.out).mono ?_); (case side1 => repeat (first | exact (Kd.C_below HR0.out HB.out) | (with_reducible refine Kd.C_alloc ?_ _) | (with_reducible refine Kd.C_drewN ?_ _) | (with_reducible refine Kd.C_drew ?_))); (case side2 => exact HC0.out); (case side3 => exact Kd.C_nil _ _); (case side4 => exact Nat.le_refl _); rintro e w14 ⟨v228, rfl, ho0, hb⟩; have HO229 := Aside0.mk (Kd.R_lower ho0 (below_size (bw HB))); replace HB := bh HB hb; (try clear hb); (try clear hb2); (try clear hk); (try clear hi); (try clear ho0); (try clear A12)))
        repeat (go_quiet (first | (go_at_call 8; (refine (tabs_Pens.calls _ _ l0 _ _ ([] : List Int) a1 t226 t227 _ ?side1 ?side2 ?side3 ?side4 A12.out).mono ?_); (case side1 => repeat (first | exact (Kd.C_below HR0.out HB.out) | (with_reducible refine Kd.C_alloc ?_ _) | (with_reducible refine Kd.C_drewN ?_ _) | (with_reducible refine Kd.C_drew ?_))); (case side2 => exact HC0.out); (case side3 => exact Kd.C_nil _ _); (case side4 => exact Nat.le_refl _); rintro e w14 ⟨v228, rfl, ho0, hb⟩; have HO229 := Aside0.mk (Kd.R_lower ho0 (below_size (bw HB))); replace HB := bh HB hb; (try clear hb); (try clear hb2); (try clear hk); (try clear hi); (try clear ho0); (try clear A12))); go_upto_region 4 with (first | (go_at_call 8; (refine (tabs_Pens.calls _ _ l0 _ _ ([] : List Int) a1 t226 t227 _ ?side1 ?side2 ?side3 ?side4 A12.out).mono ?_); (case side1 => repeat (first | exact (Kd.C_below HR0.out HB.out) | (with_reducible refine Kd.C_alloc ?_ _) | (with_reducible refine Kd.C_drewN ?_ _) | (with_reducible refine Kd.C_drew ?_))); (case side2 => exact HC0.out); (case side3 => exact Kd.C_nil _ _); (case side4 => exact Nat.le_refl _); rintro e w14 ⟨v228, rfl, ho0, hb⟩; have HO229 := Aside0.mk (Kd.R_lower ho0 (below_size (bw HB))); replace HB := bh HB hb; (try clear hb); (try clear hb2); (try clear hk); (try clear hi); (try clear ho0); (try clear A12))))
        (try simp only [Act.put, List.setIfInBounds_toArray, List.set_cons_zero, List.set_cons_succ])
        go_cut [51] (fun v51 wc => ∃ (kq : Nat) (x51_12 : Bool), v51 = .bool x51_12 ∧ Aside0 (stickfullaw12_TabsStops.j1 kq l0 a1 a2 t226 t227 x51_12 = some r) ∧ Aside0 (kq ≤ kj3) ∧ Aside0 (Kd.R (Kd.int .i64) 2 wc w.heap.size (fun _ => True) v228 t226) ∧ Aside0 (Below w.heap.size w wc))
        case first =>
          have H := HC13.out
          clear HC13
          by_cases c15 : t227 = 0
          · rw [if_pos c15] at H
            have c15b0 : (t227 == 0) = true := beq_iff_eq.mpr c15
            have c15b1 : (t227 != 0) = false := bne_eq_false_iff_eq.mpr c15
            clear c15
            (first | rw [c15b0] | (simp only [i64_w, i32_w]; rw [c15b0]) | skip)
            have H' := Aside0.mk H
            clear H
            obtain ⟨Ao16, co16, eo16⟩ := Kd.R_slice HO229.out
            subst eo16
            go_wp2
            repeat (go_quiet (fail); try go_wp2)
            go_meet
            case rel => exact ⟨_, (((t226.length : Int) != (wrap64 ((l0.length : Int) + 1)))), (by first | rfl | (simp; done) | (simp [*]; done)), H', ⟨by have := HJ3.out; first | omega | exact Nat.le_refl _⟩, ⟨by (with_reducible repeat (first | apply Kd.R_alloc | apply Kd.R_drewN | apply Kd.R_drew)); exact HO229.out⟩, ⟨by repeat (first | (with_reducible first | exact HB.out | apply below_alloc | apply pw_below_drewN | apply below_drew1) | exact HB.out)⟩⟩
          · rw [if_neg c15] at H
            have c15b0 : (t227 == 0) = false := beq_eq_false_iff_ne.mpr c15
            have c15b1 : (t227 != 0) = true := bne_iff_ne.mpr c15
            (first | rw [c15b0] | (simp only [i64_w, i32_w]; rw [c15b0]) | skip)
            have H' := Aside0.mk H
            clear H
            go_wp2
            repeat (go_quiet (fail); try go_wp2)
            go_meet
            case rel => exact ⟨_, (true), (by first | rfl | (simp; done) | (simp [*]; done)), H', ⟨by have := HJ3.out; first | omega | exact Nat.le_refl _⟩, ⟨by (with_reducible repeat (first | apply Kd.R_alloc | apply Kd.R_drewN | apply Kd.R_drew)); exact HO229.out⟩, ⟨by repeat (first | (with_reducible first | exact HB.out | apply below_alloc | apply pw_below_drewN | apply below_drew1) | exact HB.out)⟩⟩
        case rest =>
          clear HC13
          try clear c1
          try clear p2
          try clear c4
          try clear c5
          try clear c5b0
          try clear c5b1
          try clear c6
          try clear c6b0
          try clear p6
          try clear c7
          try clear c7b0
          try clear c8
          try clear c8b0
          try clear c9
          try clear c15
          try clear c15b0
          try clear c15b1
          try clear p2
          obtain ⟨kq, x51_12, rfl, HA, HJ12, HO_7, HB⟩ := hcut
          cases kq with
          | zero => exact absurd HA.out (by simp [stickfullaw12_TabsStops.j1])
          | succ kj12 =>
            have H := HA.out
            clear HA
            simp only [stickfullaw12_TabsStops.j1] at H
            by_cases c17 : x51_12 = true
            · subst c17
              have H1 : (if t227 = 0 then (some false) else ((stickfullaw12_head.f kj12).bind fun t230 => (some t230))) = some r := by rw [if_pos rfl] at H; exact H
              clear H
              have H := H1
              clear H1
              by_cases c18 : t227 = 0
              · rw [if_pos c18] at H
                have c18b0 : (t227 == 0) = true := beq_iff_eq.mpr c18
                have c18b1 : (t227 != 0) = false := bne_eq_false_iff_eq.mpr c18
                clear c18
                exact absurd ((Option.some.inj H).trans HR_.out) (by decide)
              · rw [if_neg c18] at H
                have c18b0 : (t227 == 0) = false := beq_eq_false_iff_ne.mpr c18
                have c18b1 : (t227 != 0) = true := bne_iff_ne.mpr c18
                replace H := Option.bind_eq_some_iff.mp H
                obtain ⟨t230, A190, H⟩ := H
                replace H : (some t230) = some r := H
                have A19 := Aside0.mk A190
                clear A190
                obtain rfl := Option.some.inj H
                go_wp2_with (first | (go_at_call 7; (with_reducible refine (stickfullaw12_head.calls kj12  t230 _ A19.out).mono ?_); rintro e w20 ⟨rfl, hb⟩; replace HO_7 := Aside0.mk (Kd.R_below (rx HO_7) hb); replace HB := bh HB hb; (try clear hb); (try clear hb2); (try clear hk); (try clear hi)))
                repeat (go_quiet (first | (go_at_call 7; (with_reducible refine (stickfullaw12_head.calls kj12  t230 _ A19.out).mono ?_); rintro e w20 ⟨rfl, hb⟩; replace HO_7 := Aside0.mk (Kd.R_below (rx HO_7) hb); replace HB := bh HB hb; (try clear hb); (try clear hb2); (try clear hk); (try clear hi))); try go_wp2_with (first | (go_at_call 7; (with_reducible refine (stickfullaw12_head.calls kj12  t230 _ A19.out).mono ?_); rintro e w20 ⟨rfl, hb⟩; replace HO_7 := Aside0.mk (Kd.R_below (rx HO_7) hb); replace HB := bh HB hb; (try clear hb); (try clear hb2); (try clear hk); (try clear hi))))
                go_ret
                exact ⟨by first | rfl | (simp [errW_none, errW_some] <;> rfl) | (simp [*, errW_none, errW_some] <;> rfl), by repeat (first | (with_reducible first | exact HB.out | apply below_alloc | apply pw_below_drewN | apply below_drew1) | exact HB.out)⟩
            · replace c17 := Bool.eq_false_iff.mpr c17
              subst c17
              have H1 : (stickfullaw12_TabsStops.l0 kj12 l0 a1 a2 t226 false 0) = some r := by rw [if_neg (show ¬ (false = true) by decide)] at H; exact H
              clear H
              have H := H1
              clear H1
              have H' := Aside0.mk H
              clear H
              go_wp2
              repeat (go_quiet (fail); try go_wp2)
              go_loopg [9, 10] kj12 (fun kq v9 v10 w' => ∃ (x9_3 : Bool) (x10_3 : Int), v9 = .bool x9_3 ∧ v10 = .int .i64 x10_3 ∧ Aside0 (stickfullaw12_TabsStops.l0 kq l0 a1 a2 t226 x9_3 x10_3 = some r) ∧ Aside0 (kq ≤ kj12) ∧ Aside0 (Kd.R (Kd.int .i64) 2 w' w.heap.size (fun _ => True) v228 t226) ∧ Aside0 (Below w.heap.size w w'))
              case atStart => exact ⟨(false), (0), (by first | rfl | (simp; done) | (simp [*]; done)), (by first | rfl | (simp; done) | (simp [*]; done)), H', ⟨Nat.le_refl _⟩, ⟨by (with_reducible repeat (first | apply Kd.R_alloc | apply Kd.R_drewN | apply Kd.R_drew)); exact HO_7.out⟩, ⟨by repeat (first | (with_reducible first | exact HB.out | apply below_alloc | apply pw_below_drewN | apply below_drew1) | exact HB.out)⟩⟩
              case round =>
                clear H'
                try clear c1
                try clear p2
                try clear c4
                try clear c5
                try clear c5b0
                try clear c5b1
                try clear c6
                try clear c6b0
                try clear p6
                try clear c7
                try clear c7b0
                try clear c8
                try clear c8b0
                try clear c9
                try clear c15
                try clear c15b0
                try clear c15b1
                try clear c17
                try clear c18
                try clear c18b0
                try clear c18b1
                try clear p2
                try clear p6
                obtain ⟨x9_3, x10_3, rfl, rfl, HA, HK3, HO_7, HB⟩ := hrel
                cases gk with
                | zero => exact absurd HA.out (by simp [stickfullaw12_TabsStops.l0])
                | succ k3 =>
                  have H := HA.out
                  clear HA
                  simp only [stickfullaw12_TabsStops.l0] at H
                  by_cases c21 : x10_3 < (l0.length : Int)
                  · rw [if_pos c21] at H
                    have c21b0 : decide (x10_3 < (l0.length : Int)) = true := decide_eq_true c21
                    clear c21
                    by_cases c22 : 0 ≤ x10_3
                    · rw [if_pos c22] at H
                      have c22b0 : decide (0 ≤ x10_3) = true := decide_eq_true c22
                      clear c22
                      obtain ⟨ji23, hji23⟩ : ∃ j_ : Int, (wrap64 (x10_3 + 1)) = j_ := ⟨_, rfl⟩
                      replace H : (if 0 ≤ (ji23) then (if (ji23) < (t226.length : Int) then (if x10_3 < (t226.length : Int) then (if ((rd_T31 l0 x10_3).f3) > 1099511627776 then (stickfullaw12_TabsStops.j3 k3 l0 a1 a2 t226 x9_3 x10_3 ((rd_T31 l0 x10_3).f3) (wrap64 ((rd t226 (ji23)) - (rd t226 x10_3))) true) else (stickfullaw12_TabsStops.j3 k3 l0 a1 a2 t226 x9_3 x10_3 ((rd_T31 l0 x10_3).f3) (wrap64 ((rd t226 (ji23)) - (rd t226 x10_3))) (decide (((rd_T31 l0 x10_3).f3) < (-1099511627776))))) else (none)) else (none)) else (none)) = some r := by first | (rw [hji23] at H; exact H) | (simp only [hji23] at H ⊢; exact H)
                      have hji23w : (IntKind.i64.wrap (x10_3 + 1)) = ji23 := (i64_w _).trans hji23
                      by_cases c24 : 0 ≤ (ji23)
                      · rw [if_pos c24] at H
                        have c24b0 : decide (0 ≤ (ji23)) = true := decide_eq_true c24
                        clear c24
                        by_cases c25 : (ji23) < (t226.length : Int)
                        · rw [if_pos c25] at H
                          have c25b0 : decide ((ji23) < (t226.length : Int)) = true := decide_eq_true c25
                          clear c25
                          by_cases c26 : x10_3 < (t226.length : Int)
                          · rw [if_pos c26] at H
                            have c26b0 : decide (x10_3 < (t226.length : Int)) = true := decide_eq_true c26
                            clear c26
                            have HC27 := Aside0.mk H
                            clear H
                            have p231 : 0 ≤ (x10_3 : Int) := of_decide_eq_true (by first | (with_reducible assumption) | assumption)
                            have q231 : x10_3 < (l0.length : Int) := of_decide_eq_true (by first | (with_reducible assumption) | assumption)
                            obtain ⟨ad231, e231, hx231_0, hx231_1, hx231_2, hx231_3, hx231_4, hx231_5⟩ := at_T31 HR0.out x10_3 p231 q231
                            cases e231
                            replace hx231_0 := (HB.out.cell (World.block_lt_of_cell? w _ hx231_0)).trans hx231_0
                            replace hx231_1 := (HB.out.cell (World.block_lt_of_cell? w _ hx231_1)).trans hx231_1
                            replace hx231_2 := (HB.out.cell (World.block_lt_of_cell? w _ hx231_2)).trans hx231_2
                            replace hx231_3 := (HB.out.cell (World.block_lt_of_cell? w _ hx231_3)).trans hx231_3
                            replace hx231_4 := (HB.out.cell (World.block_lt_of_cell? w _ hx231_4)).trans hx231_4
                            replace hx231_5 := (HB.out.cell (World.block_lt_of_cell? w _ hx231_5)).trans hx231_5
                            replace p231 := eq_true p231
                            replace q231 := eq_true q231
                            obtain ⟨Ao28, co28, eo28⟩ := Kd.R_slice HO_7.out
                            subst eo28
                            have p232 : 0 ≤ ((ji23) : Int) := of_decide_eq_true (by first | (with_reducible assumption) | assumption)
                            have q232 : (ji23) < (t226.length : Int) := of_decide_eq_true (by first | (with_reducible assumption) | assumption)
                            obtain ⟨ad232, e232, hx232_0⟩ := Kd.at_int (Kd.R_reads' HO_7.out).2.2 (ji23) p232 q232
                            cases e232
                            replace p232 := eq_true p232
                            replace q232 := eq_true q232
                            have p233 : 0 ≤ (x10_3 : Int) := of_decide_eq_true (by first | (with_reducible assumption) | assumption)
                            have q233 : x10_3 < (t226.length : Int) := of_decide_eq_true (by first | (with_reducible assumption) | assumption)
                            obtain ⟨ad233, e233, hx233_0⟩ := Kd.at_int (Kd.R_reads' HO_7.out).2.2 x10_3 p233 q233
                            obtain rfl : ad232 = ad233 := (by injection e233)
                            replace p233 := eq_true p233
                            replace q233 := eq_true q233
                            go_upto_region 11 with (fail)
                            repeat (go_quiet (fail); go_upto_region 11 with (fail))
                            go_cut [91] (fun v91 wc => ∃ (kq : Nat) (x91_26 : Bool), v91 = .bool x91_26 ∧ Aside0 (stickfullaw12_TabsStops.j3 kq l0 a1 a2 t226 x9_3 x10_3 ((rd_T31 l0 x10_3).f3) (wrap64 ((rd t226 (ji23)) - (rd t226 x10_3))) x91_26 = some r) ∧ Aside0 (kq ≤ k3) ∧ Aside0 (Kd.R (Kd.int .i64) 2 wc w.heap.size (fun _ => True) (.slice (some ad232) t226.length co28) t226) ∧ Aside0 (Below w.heap.size w wc))
                            case first =>
                              have H := HC27.out
                              clear HC27
                              by_cases c29 : ((rd_T31 l0 x10_3).f3) > 1099511627776
                              · rw [if_pos c29] at H
                                have c29b0 : decide (1099511627776 < ((rd_T31 l0 x10_3).f3)) = true := decide_eq_true c29
                                clear c29
                                (first | rw [c29b0] | (simp only [i64_w, i32_w]; rw [c29b0]) | skip)
                                have H' := Aside0.mk H
                                clear H
                                have p234 : 0 ≤ (x10_3 : Int) := of_decide_eq_true (by first | (with_reducible assumption) | assumption)
                                have q234 : x10_3 < (l0.length : Int) := of_decide_eq_true (by first | (with_reducible assumption) | assumption)
                                obtain ⟨ad234, e234, hx234_0, hx234_1, hx234_2, hx234_3, hx234_4, hx234_5⟩ := at_T31 HR0.out x10_3 p234 q234
                                obtain rfl : ad231 = ad234 := (by injection e234)
                                replace hx234_0 := (HB.out.cell (World.block_lt_of_cell? w _ hx234_0)).trans hx234_0
                                replace hx234_1 := (HB.out.cell (World.block_lt_of_cell? w _ hx234_1)).trans hx234_1
                                replace hx234_2 := (HB.out.cell (World.block_lt_of_cell? w _ hx234_2)).trans hx234_2
                                replace hx234_3 := (HB.out.cell (World.block_lt_of_cell? w _ hx234_3)).trans hx234_3
                                replace hx234_4 := (HB.out.cell (World.block_lt_of_cell? w _ hx234_4)).trans hx234_4
                                replace hx234_5 := (HB.out.cell (World.block_lt_of_cell? w _ hx234_5)).trans hx234_5
                                replace p234 := eq_true p234
                                replace q234 := eq_true q234
                                go_wp2
                                repeat (go_quiet (fail); try go_wp2)
                                go_meet
                                case rel => exact ⟨_, (true), (by first | rfl | (simp; done) | (simp [*]; done)), H', ⟨by have := HJ3.out; have := HJ12.out; have := HK3.out; first | omega | exact Nat.le_refl _⟩, ⟨by (with_reducible repeat (first | apply Kd.R_alloc | apply Kd.R_drewN | apply Kd.R_drew)); exact HO_7.out⟩, ⟨by repeat (first | (with_reducible first | exact HB.out | apply below_alloc | apply pw_below_drewN | apply below_drew1) | exact HB.out)⟩⟩
                              · rw [if_neg c29] at H
                                have c29b0 : decide (1099511627776 < ((rd_T31 l0 x10_3).f3)) = false := decide_eq_false c29
                                clear c29
                                (first | rw [c29b0] | (simp only [i64_w, i32_w]; rw [c29b0]) | skip)
                                have H' := Aside0.mk H
                                clear H
                                have p234 : 0 ≤ (x10_3 : Int) := of_decide_eq_true (by first | (with_reducible assumption) | assumption)
                                have q234 : x10_3 < (l0.length : Int) := of_decide_eq_true (by first | (with_reducible assumption) | assumption)
                                obtain ⟨ad234, e234, hx234_0, hx234_1, hx234_2, hx234_3, hx234_4, hx234_5⟩ := at_T31 HR0.out x10_3 p234 q234
                                obtain rfl : ad231 = ad234 := (by injection e234)
                                replace hx234_0 := (HB.out.cell (World.block_lt_of_cell? w _ hx234_0)).trans hx234_0
                                replace hx234_1 := (HB.out.cell (World.block_lt_of_cell? w _ hx234_1)).trans hx234_1
                                replace hx234_2 := (HB.out.cell (World.block_lt_of_cell? w _ hx234_2)).trans hx234_2
                                replace hx234_3 := (HB.out.cell (World.block_lt_of_cell? w _ hx234_3)).trans hx234_3
                                replace hx234_4 := (HB.out.cell (World.block_lt_of_cell? w _ hx234_4)).trans hx234_4
                                replace hx234_5 := (HB.out.cell (World.block_lt_of_cell? w _ hx234_5)).trans hx234_5
                                replace p234 := eq_true p234
                                replace q234 := eq_true q234
                                have p235 : 0 ≤ (x10_3 : Int) := of_decide_eq_true (by first | (with_reducible assumption) | assumption)
                                have q235 : x10_3 < (l0.length : Int) := of_decide_eq_true (by first | (with_reducible assumption) | assumption)
                                obtain ⟨ad235, e235, hx235_0, hx235_1, hx235_2, hx235_3, hx235_4, hx235_5⟩ := at_T31 HR0.out x10_3 p235 q235
                                obtain rfl : ad231 = ad235 := (by injection e235)
                                replace hx235_0 := (HB.out.cell (World.block_lt_of_cell? w _ hx235_0)).trans hx235_0
                                replace hx235_1 := (HB.out.cell (World.block_lt_of_cell? w _ hx235_1)).trans hx235_1
                                replace hx235_2 := (HB.out.cell (World.block_lt_of_cell? w _ hx235_2)).trans hx235_2
                                replace hx235_3 := (HB.out.cell (World.block_lt_of_cell? w _ hx235_3)).trans hx235_3
                                replace hx235_4 := (HB.out.cell (World.block_lt_of_cell? w _ hx235_4)).trans hx235_4
                                replace hx235_5 := (HB.out.cell (World.block_lt_of_cell? w _ hx235_5)).trans hx235_5
                                replace p235 := eq_true p235
                                replace q235 := eq_true q235
                                go_wp2
                                repeat (go_quiet (fail); try go_wp2)
                                go_meet
                                case rel => exact ⟨_, (decide (((rd_T31 l0 x10_3).f3) < (-1099511627776))), (by first | rfl | (simp; done) | (simp [*]; done)), H', ⟨by have := HJ3.out; have := HJ12.out; have := HK3.out; first | omega | exact Nat.le_refl _⟩, ⟨by (with_reducible repeat (first | apply Kd.R_alloc | apply Kd.R_drewN | apply Kd.R_drew)); exact HO_7.out⟩, ⟨by repeat (first | (with_reducible first | exact HB.out | apply below_alloc | apply pw_below_drewN | apply below_drew1) | exact HB.out)⟩⟩
                            case rest =>
                              clear HC27
                              try clear c1
                              try clear c2
                              try clear p2
                              try clear q2
                              try clear hx2
                              try clear c4
                              try clear c5
                              try clear c5b0
                              try clear c5b1
                              try clear c6
                              try clear c6b0
                              try clear p6
                              try clear c7
                              try clear c7b0
                              try clear c8
                              try clear c8b0
                              try clear c9
                              try clear c15
                              try clear c15b0
                              try clear c15b1
                              try clear c17
                              try clear c18
                              try clear c18b0
                              try clear c18b1
                              try clear c21
                              try clear c21b0
                              try clear c22
                              try clear c22b0
                              try clear p23
                              try clear q23
                              try clear hx23
                              try clear c24
                              try clear c24b0
                              try clear c25
                              try clear c25b0
                              try clear c26
                              try clear c26b0
                              try clear c29
                              try clear c29b0
                              try clear hx231_0
                              try clear hx231_1
                              try clear hx231_2
                              try clear hx231_3
                              try clear hx231_4
                              try clear hx231_5
                              try clear hx232_0
                              try clear hx233_0
                              try clear hx234_0
                              try clear hx234_1
                              try clear hx234_2
                              try clear hx234_3
                              try clear hx234_4
                              try clear hx234_5
                              try clear hx235_0
                              try clear hx235_1
                              try clear hx235_2
                              try clear hx235_3
                              try clear hx235_4
                              try clear hx235_5
                              try clear p2
                              try clear p231
                              try clear p232
                              try clear p233
                              try clear p234
                              try clear p235
                              try clear p6
                              try clear q231
                              try clear q232
                              try clear q233
                              try clear q234
                              try clear q235
                              obtain ⟨kq, x91_26, rfl, HA, HJ26, HO_7, HB⟩ := hcut
                              cases kq with
                              | zero => exact absurd HA.out (by simp [stickfullaw12_TabsStops.j3])
                              | succ kj26 =>
                                have H := HA.out
                                clear HA
                                simp only [stickfullaw12_TabsStops.j3] at H
                                by_cases c30 : x91_26 = true
                                · subst c30
                                  have H1 : ((stickfullaw12_head.f kj26).bind fun t236 => (some t236)) = some r := by rw [if_pos rfl] at H; exact H
                                  clear H
                                  have H := H1
                                  clear H1
                                  replace H := Option.bind_eq_some_iff.mp H
                                  obtain ⟨t236, A310, H⟩ := H
                                  replace H : (some t236) = some r := H
                                  have A31 := Aside0.mk A310
                                  clear A310
                                  obtain rfl := Option.some.inj H
                                  go_wp2_with (first | (go_at_call 7; (with_reducible refine (stickfullaw12_head.calls kj26  t236 _ A31.out).mono ?_); rintro e w32 ⟨rfl, hb⟩; replace HO_7 := Aside0.mk (Kd.R_below (rx HO_7) hb); replace HB := bh HB hb; (try clear hb); (try clear hb2); (try clear hk); (try clear hi)))
                                  repeat (go_quiet (first | (go_at_call 7; (with_reducible refine (stickfullaw12_head.calls kj26  t236 _ A31.out).mono ?_); rintro e w32 ⟨rfl, hb⟩; replace HO_7 := Aside0.mk (Kd.R_below (rx HO_7) hb); replace HB := bh HB hb; (try clear hb); (try clear hb2); (try clear hk); (try clear hi))); try go_wp2_with (first | (go_at_call 7; (with_reducible refine (stickfullaw12_head.calls kj26  t236 _ A31.out).mono ?_); rintro e w32 ⟨rfl, hb⟩; replace HO_7 := Aside0.mk (Kd.R_below (rx HO_7) hb); replace HB := bh HB hb; (try clear hb); (try clear hb2); (try clear hk); (try clear hi))))
                                  go_ret
                                  exact ⟨by first | rfl | (simp [errW_none, errW_some] <;> rfl) | (simp only [← hji23]; first | rfl | (simp [errW_none, errW_some] <;> rfl)) | (simp [*, errW_none, errW_some] <;> rfl), by repeat (first | (with_reducible first | exact HB.out | apply below_alloc | apply pw_below_drewN | apply below_drew1) | exact HB.out)⟩
                                · replace c30 := Bool.eq_false_iff.mpr c30
                                  subst c30
                                  have H1 : (if 0 ≤ x10_3 then (if x10_3 < (l0.length : Int) then (if ((rd_T31 l0 x10_3).f0) = 4 then (if ((rd_T31 l0 x10_3).f3) = 0 then (if (wrap64 ((rd t226 (ji23)) - (rd t226 x10_3))) = 0 then (if ((rd_T31 l0 x10_3).f3) > 0 then (if (wrap64 ((rd t226 (ji23)) - (rd t226 x10_3))) < 1 then (some false) else (if (wrap64 ((rd t226 (ji23)) - (rd t226 x10_3))) > ((rd_T31 l0 x10_3).f3) then (some false) else (if 0 ≤ (wrap64 (x10_3 + 1)) then (if (wrap64 (x10_3 + 1)) < (t226.length : Int) then (none) else (none)) else (none)))) else (stickfullaw12_TabsStops.l0 kj26 l0 a1 a2 t226 true (wrap64 (x10_3 + 1)))) else (some false)) else (if ((rd_T31 l0 x10_3).f3) > 0 then (if (wrap64 ((rd t226 (ji23)) - (rd t226 x10_3))) < 1 then (some false) else (if (wrap64 ((rd t226 (ji23)) - (rd t226 x10_3))) > ((rd_T31 l0 x10_3).f3) then (some false) else (if 0 ≤ (wrap64 (x10_3 + 1)) then (if (wrap64 (x10_3 + 1)) < (t226.length : Int) then (if (Int.tmod (rd t226 (wrap64 (x10_3 + 1))) ((rd_T31 l0 x10_3).f3)) = 0 then (stickfullaw12_TabsStops.l0 kj26 l0 a1 a2 t226 true (wrap64 (x10_3 + 1))) else (some false)) else (none)) else (none)))) else (stickfullaw12_TabsStops.l0 kj26 l0 a1 a2 t226 true (wrap64 (x10_3 + 1))))) else (if (wrap64 ((rd t226 (ji23)) - (rd t226 x10_3))) = ((rd_T31 l0 x10_3).f3) then (stickfullaw12_TabsStops.l0 kj26 l0 a1 a2 t226 x9_3 (wrap64 (x10_3 + 1))) else (some false))) else (none)) else (none)) = some r := by rw [if_neg (show ¬ (false = true) by decide)] at H; exact H
                                  clear H
                                  have H := H1
                                  clear H1
                                  by_cases c33 : 0 ≤ x10_3
                                  · rw [if_pos c33] at H
                                    have c33b0 : decide (0 ≤ x10_3) = true := decide_eq_true c33
                                    clear c33
                                    by_cases c34 : x10_3 < (l0.length : Int)
                                    · rw [if_pos c34] at H
                                      have c34b0 : decide (x10_3 < (l0.length : Int)) = true := decide_eq_true c34
                                      clear c34
                                      by_cases c35 : ((rd_T31 l0 x10_3).f0) = 4
                                      · rw [if_pos c35] at H
                                        have c35b0 : (((rd_T31 l0 x10_3).f0) == 4) = true := beq_iff_eq.mpr c35
                                        have c35b1 : (((rd_T31 l0 x10_3).f0) != 4) = false := bne_eq_false_iff_eq.mpr c35
                                        clear c35
                                        by_cases c36 : ((rd_T31 l0 x10_3).f3) = 0
                                        · rw [if_pos c36] at H
                                          have c36b0 : (((rd_T31 l0 x10_3).f3) == 0) = true := beq_iff_eq.mpr c36
                                          have c36b1 : (((rd_T31 l0 x10_3).f3) != 0) = false := bne_eq_false_iff_eq.mpr c36
                                          clear c36
                                          by_cases c37 : (wrap64 ((rd t226 (ji23)) - (rd t226 x10_3))) = 0
                                          · rw [if_pos c37] at H
                                            have c37b0 : ((wrap64 ((rd t226 (ji23)) - (rd t226 x10_3))) == 0) = true := beq_iff_eq.mpr c37
                                            have c37b1 : ((wrap64 ((rd t226 (ji23)) - (rd t226 x10_3))) != 0) = false := bne_eq_false_iff_eq.mpr c37
                                            clear c37
                                            by_cases c38 : ((rd_T31 l0 x10_3).f3) > 0
                                            · rw [if_pos c38] at H
                                              have c38b0 : decide (0 < ((rd_T31 l0 x10_3).f3)) = true := decide_eq_true c38
                                              clear c38
                                              by_cases c39 : (wrap64 ((rd t226 (ji23)) - (rd t226 x10_3))) < 1
                                              · rw [if_pos c39] at H
                                                have c39b0 : decide ((wrap64 ((rd t226 (ji23)) - (rd t226 x10_3))) < 1) = true := decide_eq_true c39
                                                clear c39
                                                exact absurd ((Option.some.inj H).trans HR_.out) (by decide)
                                              · rw [if_neg c39] at H
                                                have c39b0 : decide ((wrap64 ((rd t226 (ji23)) - (rd t226 x10_3))) < 1) = false := decide_eq_false c39
                                                clear c39
                                                by_cases c40 : (wrap64 ((rd t226 (ji23)) - (rd t226 x10_3))) > ((rd_T31 l0 x10_3).f3)
                                                · rw [if_pos c40] at H
                                                  have c40b0 : decide (((rd_T31 l0 x10_3).f3) < (wrap64 ((rd t226 (ji23)) - (rd t226 x10_3)))) = true := decide_eq_true c40
                                                  clear c40
                                                  exact absurd ((Option.some.inj H).trans HR_.out) (by decide)
                                                · rw [if_neg c40] at H
                                                  have c40b0 : decide (((rd_T31 l0 x10_3).f3) < (wrap64 ((rd t226 (ji23)) - (rd t226 x10_3)))) = false := decide_eq_false c40
                                                  clear c40
                                                  obtain ⟨ji41, hji41⟩ : ∃ j_ : Int, (wrap64 (x10_3 + 1)) = j_ := ⟨_, rfl⟩
                                                  (try obtain rfl := hji41.symm.trans hji23)
                                                  replace H : (if 0 ≤ (ji41) then (if (ji41) < (t226.length : Int) then (none) else (none)) else (none)) = some r := by first | (rw [hji41] at H; exact H) | (simp only [hji41] at H ⊢; exact H)
                                                  have hji41w : (IntKind.i64.wrap (x10_3 + 1)) = ji41 := (i64_w _).trans hji41
                                                  by_cases c42 : 0 ≤ (ji41)
                                                  · rw [if_pos c42] at H
                                                    have c42b0 : decide (0 ≤ (ji41)) = true := decide_eq_true c42
                                                    clear c42
                                                    by_cases c43 : (ji41) < (t226.length : Int)
                                                    · rw [if_pos c43] at H
                                                      have c43b0 : decide ((ji41) < (t226.length : Int)) = true := decide_eq_true c43
                                                      clear c43
                                                      exact absurd H (by simp)
                                                    · rw [if_neg c43] at H
                                                      exact absurd H (by simp)
                                                  · rw [if_neg c42] at H
                                                    exact absurd H (by simp)
                                            · rw [if_neg c38] at H
                                              have c38b0 : decide (0 < ((rd_T31 l0 x10_3).f3)) = false := decide_eq_false c38
                                              clear c38
                                              have H' := Aside0.mk H
                                              clear H
                                              have p237 : 0 ≤ (x10_3 : Int) := of_decide_eq_true (by first | (with_reducible assumption) | assumption)
                                              have q237 : x10_3 < (l0.length : Int) := of_decide_eq_true (by first | (with_reducible assumption) | assumption)
                                              obtain ⟨ad237, e237, hx237_0, hx237_1, hx237_2, hx237_3, hx237_4, hx237_5⟩ := at_T31 HR0.out x10_3 p237 q237
                                              obtain rfl : ad231 = ad237 := (by injection e237)
                                              replace hx237_0 := (HB.out.cell (World.block_lt_of_cell? w _ hx237_0)).trans hx237_0
                                              replace hx237_1 := (HB.out.cell (World.block_lt_of_cell? w _ hx237_1)).trans hx237_1
                                              replace hx237_2 := (HB.out.cell (World.block_lt_of_cell? w _ hx237_2)).trans hx237_2
                                              replace hx237_3 := (HB.out.cell (World.block_lt_of_cell? w _ hx237_3)).trans hx237_3
                                              replace hx237_4 := (HB.out.cell (World.block_lt_of_cell? w _ hx237_4)).trans hx237_4
                                              replace hx237_5 := (HB.out.cell (World.block_lt_of_cell? w _ hx237_5)).trans hx237_5
                                              replace p237 := eq_true p237
                                              replace q237 := eq_true q237
                                              go_wp2
                                              repeat (go_quiet (fail); try go_wp2)
                                              go_roundg kj26
                                              case measure => have := HJ3.out; have := HJ12.out; have := HK3.out; have := HJ26.out; omega
                                              case rel => exact ⟨(true), (wrap64 (x10_3 + 1)), (by first | rfl | (simp; done) | (simp [*]; done)), (by first | rfl | (simp; done) | (simp [*]; done)), H', ⟨by have := HJ3.out; have := HJ12.out; have := HK3.out; have := HJ26.out; omega⟩, ⟨by (with_reducible repeat (first | apply Kd.R_alloc | apply Kd.R_drewN | apply Kd.R_drew)); exact HO_7.out⟩, ⟨by repeat (first | (with_reducible first | exact HB.out | apply below_alloc | apply pw_below_drewN | apply below_drew1) | exact HB.out)⟩⟩
                                          · rw [if_neg c37] at H
                                            have c37b0 : ((wrap64 ((rd t226 (ji23)) - (rd t226 x10_3))) == 0) = false := beq_eq_false_iff_ne.mpr c37
                                            have c37b1 : ((wrap64 ((rd t226 (ji23)) - (rd t226 x10_3))) != 0) = true := bne_iff_ne.mpr c37
                                            exact absurd ((Option.some.inj H).trans HR_.out) (by decide)
                                        · rw [if_neg c36] at H
                                          have c36b0 : (((rd_T31 l0 x10_3).f3) == 0) = false := beq_eq_false_iff_ne.mpr c36
                                          have c36b1 : (((rd_T31 l0 x10_3).f3) != 0) = true := bne_iff_ne.mpr c36
                                          by_cases c44 : ((rd_T31 l0 x10_3).f3) > 0
                                          · rw [if_pos c44] at H
                                            have c44b0 : decide (0 < ((rd_T31 l0 x10_3).f3)) = true := decide_eq_true c44
                                            clear c44
                                            by_cases c45 : (wrap64 ((rd t226 (ji23)) - (rd t226 x10_3))) < 1
                                            · rw [if_pos c45] at H
                                              have c45b0 : decide ((wrap64 ((rd t226 (ji23)) - (rd t226 x10_3))) < 1) = true := decide_eq_true c45
                                              clear c45
                                              exact absurd ((Option.some.inj H).trans HR_.out) (by decide)
                                            · rw [if_neg c45] at H
                                              have c45b0 : decide ((wrap64 ((rd t226 (ji23)) - (rd t226 x10_3))) < 1) = false := decide_eq_false c45
                                              clear c45
                                              by_cases c46 : (wrap64 ((rd t226 (ji23)) - (rd t226 x10_3))) > ((rd_T31 l0 x10_3).f3)
                                              · rw [if_pos c46] at H
                                                have c46b0 : decide (((rd_T31 l0 x10_3).f3) < (wrap64 ((rd t226 (ji23)) - (rd t226 x10_3)))) = true := decide_eq_true c46
                                                clear c46
                                                exact absurd ((Option.some.inj H).trans HR_.out) (by decide)
                                              · rw [if_neg c46] at H
                                                have c46b0 : decide (((rd_T31 l0 x10_3).f3) < (wrap64 ((rd t226 (ji23)) - (rd t226 x10_3)))) = false := decide_eq_false c46
                                                clear c46
                                                obtain ⟨ji47, hji47⟩ : ∃ j_ : Int, (wrap64 (x10_3 + 1)) = j_ := ⟨_, rfl⟩
                                                (try obtain rfl := hji47.symm.trans hji23)
                                                replace H : (if 0 ≤ (ji47) then (if (ji47) < (t226.length : Int) then (if (Int.tmod (rd t226 (ji47)) ((rd_T31 l0 x10_3).f3)) = 0 then (stickfullaw12_TabsStops.l0 kj26 l0 a1 a2 t226 true ji47) else (some false)) else (none)) else (none)) = some r := by first | (rw [hji47] at H; exact H) | (simp only [hji47] at H ⊢; exact H)
                                                have hji47w : (IntKind.i64.wrap (x10_3 + 1)) = ji47 := (i64_w _).trans hji47
                                                by_cases c48 : 0 ≤ (ji47)
                                                · rw [if_pos c48] at H
                                                  have c48b0 : decide (0 ≤ (ji47)) = true := decide_eq_true c48
                                                  clear c48
                                                  by_cases c49 : (ji47) < (t226.length : Int)
                                                  · rw [if_pos c49] at H
                                                    have c49b0 : decide ((ji47) < (t226.length : Int)) = true := decide_eq_true c49
                                                    clear c49
                                                    by_cases c50 : (Int.tmod (rd t226 (ji47)) ((rd_T31 l0 x10_3).f3)) = 0
                                                    · rw [if_pos c50] at H
                                                      have c50b0 : ((Int.tmod (rd t226 (ji47)) ((rd_T31 l0 x10_3).f3)) == 0) = true := beq_iff_eq.mpr c50
                                                      have c50b1 : ((Int.tmod (rd t226 (ji47)) ((rd_T31 l0 x10_3).f3)) != 0) = false := bne_eq_false_iff_eq.mpr c50
                                                      clear c50
                                                      have H' := Aside0.mk H
                                                      clear H
                                                      have p237 : 0 ≤ (x10_3 : Int) := of_decide_eq_true (by first | (with_reducible assumption) | assumption)
                                                      have q237 : x10_3 < (l0.length : Int) := of_decide_eq_true (by first | (with_reducible assumption) | assumption)
                                                      obtain ⟨ad237, e237, hx237_0, hx237_1, hx237_2, hx237_3, hx237_4, hx237_5⟩ := at_T31 HR0.out x10_3 p237 q237
                                                      obtain rfl : ad231 = ad237 := (by injection e237)
                                                      replace hx237_0 := (HB.out.cell (World.block_lt_of_cell? w _ hx237_0)).trans hx237_0
                                                      replace hx237_1 := (HB.out.cell (World.block_lt_of_cell? w _ hx237_1)).trans hx237_1
                                                      replace hx237_2 := (HB.out.cell (World.block_lt_of_cell? w _ hx237_2)).trans hx237_2
                                                      replace hx237_3 := (HB.out.cell (World.block_lt_of_cell? w _ hx237_3)).trans hx237_3
                                                      replace hx237_4 := (HB.out.cell (World.block_lt_of_cell? w _ hx237_4)).trans hx237_4
                                                      replace hx237_5 := (HB.out.cell (World.block_lt_of_cell? w _ hx237_5)).trans hx237_5
                                                      replace p237 := eq_true p237
                                                      replace q237 := eq_true q237
                                                      have p239 : 0 ≤ ((ji47) : Int) := of_decide_eq_true (by first | (with_reducible assumption) | assumption)
                                                      have q239 : (ji47) < (t226.length : Int) := of_decide_eq_true (by first | (with_reducible assumption) | assumption)
                                                      obtain ⟨ad239, e239, hx239_0⟩ := Kd.at_int (Kd.R_reads' HO_7.out).2.2 (ji47) p239 q239
                                                      obtain rfl : ad232 = ad239 := (by injection e239)
                                                      replace p239 := eq_true p239
                                                      replace q239 := eq_true q239
                                                      go_wp2
                                                      repeat (go_quiet (fail); try go_wp2)
                                                      go_roundg kj26
                                                      case measure => have := HJ3.out; have := HJ12.out; have := HK3.out; have := HJ26.out; omega
                                                      case rel => exact ⟨(true), (ji47), (by first | rfl | (simp; done) | (simp [*]; done)), (by first | rfl | (simp; done) | (simp only [← hji47] <;> (first | rfl | simp)) | (simp [*]; done)), H', ⟨by have := HJ3.out; have := HJ12.out; have := HK3.out; have := HJ26.out; omega⟩, ⟨by (with_reducible repeat (first | apply Kd.R_alloc | apply Kd.R_drewN | apply Kd.R_drew)); exact HO_7.out⟩, ⟨by repeat (first | (with_reducible first | exact HB.out | apply below_alloc | apply pw_below_drewN | apply below_drew1) | exact HB.out)⟩⟩
                                                    · rw [if_neg c50] at H
                                                      have c50b0 : ((Int.tmod (rd t226 (ji47)) ((rd_T31 l0 x10_3).f3)) == 0) = false := beq_eq_false_iff_ne.mpr c50
                                                      have c50b1 : ((Int.tmod (rd t226 (ji47)) ((rd_T31 l0 x10_3).f3)) != 0) = true := bne_iff_ne.mpr c50
                                                      exact absurd ((Option.some.inj H).trans HR_.out) (by decide)
                                                  · rw [if_neg c49] at H
                                                    exact absurd H (by simp)
                                                · rw [if_neg c48] at H
                                                  exact absurd H (by simp)
                                          · rw [if_neg c44] at H
                                            have c44b0 : decide (0 < ((rd_T31 l0 x10_3).f3)) = false := decide_eq_false c44
                                            clear c44
                                            have H' := Aside0.mk H
                                            clear H
                                            have p237 : 0 ≤ (x10_3 : Int) := of_decide_eq_true (by first | (with_reducible assumption) | assumption)
                                            have q237 : x10_3 < (l0.length : Int) := of_decide_eq_true (by first | (with_reducible assumption) | assumption)
                                            obtain ⟨ad237, e237, hx237_0, hx237_1, hx237_2, hx237_3, hx237_4, hx237_5⟩ := at_T31 HR0.out x10_3 p237 q237
                                            obtain rfl : ad231 = ad237 := (by injection e237)
                                            replace hx237_0 := (HB.out.cell (World.block_lt_of_cell? w _ hx237_0)).trans hx237_0
                                            replace hx237_1 := (HB.out.cell (World.block_lt_of_cell? w _ hx237_1)).trans hx237_1
                                            replace hx237_2 := (HB.out.cell (World.block_lt_of_cell? w _ hx237_2)).trans hx237_2
                                            replace hx237_3 := (HB.out.cell (World.block_lt_of_cell? w _ hx237_3)).trans hx237_3
                                            replace hx237_4 := (HB.out.cell (World.block_lt_of_cell? w _ hx237_4)).trans hx237_4
                                            replace hx237_5 := (HB.out.cell (World.block_lt_of_cell? w _ hx237_5)).trans hx237_5
                                            replace p237 := eq_true p237
                                            replace q237 := eq_true q237
                                            go_wp2
                                            repeat (go_quiet (fail); try go_wp2)
                                            go_roundg kj26
                                            case measure => have := HJ3.out; have := HJ12.out; have := HK3.out; have := HJ26.out; omega
                                            case rel => exact ⟨(true), (wrap64 (x10_3 + 1)), (by first | rfl | (simp; done) | (simp [*]; done)), (by first | rfl | (simp; done) | (simp [*]; done)), H', ⟨by have := HJ3.out; have := HJ12.out; have := HK3.out; have := HJ26.out; omega⟩, ⟨by (with_reducible repeat (first | apply Kd.R_alloc | apply Kd.R_drewN | apply Kd.R_drew)); exact HO_7.out⟩, ⟨by repeat (first | (with_reducible first | exact HB.out | apply below_alloc | apply pw_below_drewN | apply below_drew1) | exact HB.out)⟩⟩
                                      · rw [if_neg c35] at H
                                        have c35b0 : (((rd_T31 l0 x10_3).f0) == 4) = false := beq_eq_false_iff_ne.mpr c35
                                        have c35b1 : (((rd_T31 l0 x10_3).f0) != 4) = true := bne_iff_ne.mpr c35
                                        by_cases c51 : (wrap64 ((rd t226 (ji23)) - (rd t226 x10_3))) = ((rd_T31 l0 x10_3).f3)
                                        · rw [if_pos c51] at H
                                          have c51b0 : ((wrap64 ((rd t226 (ji23)) - (rd t226 x10_3))) == ((rd_T31 l0 x10_3).f3)) = true := beq_iff_eq.mpr c51
                                          have c51b1 : ((wrap64 ((rd t226 (ji23)) - (rd t226 x10_3))) != ((rd_T31 l0 x10_3).f3)) = false := bne_eq_false_iff_eq.mpr c51
                                          clear c51
                                          have H' := Aside0.mk H
                                          clear H
                                          have p237 : 0 ≤ (x10_3 : Int) := of_decide_eq_true (by first | (with_reducible assumption) | assumption)
                                          have q237 : x10_3 < (l0.length : Int) := of_decide_eq_true (by first | (with_reducible assumption) | assumption)
                                          obtain ⟨ad237, e237, hx237_0, hx237_1, hx237_2, hx237_3, hx237_4, hx237_5⟩ := at_T31 HR0.out x10_3 p237 q237
                                          obtain rfl : ad231 = ad237 := (by injection e237)
                                          replace hx237_0 := (HB.out.cell (World.block_lt_of_cell? w _ hx237_0)).trans hx237_0
                                          replace hx237_1 := (HB.out.cell (World.block_lt_of_cell? w _ hx237_1)).trans hx237_1
                                          replace hx237_2 := (HB.out.cell (World.block_lt_of_cell? w _ hx237_2)).trans hx237_2
                                          replace hx237_3 := (HB.out.cell (World.block_lt_of_cell? w _ hx237_3)).trans hx237_3
                                          replace hx237_4 := (HB.out.cell (World.block_lt_of_cell? w _ hx237_4)).trans hx237_4
                                          replace hx237_5 := (HB.out.cell (World.block_lt_of_cell? w _ hx237_5)).trans hx237_5
                                          replace p237 := eq_true p237
                                          replace q237 := eq_true q237
                                          go_wp2
                                          repeat (go_quiet (fail); try go_wp2)
                                          go_roundg kj26
                                          case measure => have := HJ3.out; have := HJ12.out; have := HK3.out; have := HJ26.out; omega
                                          case rel => exact ⟨(x9_3), (wrap64 (x10_3 + 1)), (by first | rfl | (simp; done) | (simp [*]; done)), (by first | rfl | (simp; done) | (simp [*]; done)), H', ⟨by have := HJ3.out; have := HJ12.out; have := HK3.out; have := HJ26.out; omega⟩, ⟨by (with_reducible repeat (first | apply Kd.R_alloc | apply Kd.R_drewN | apply Kd.R_drew)); exact HO_7.out⟩, ⟨by repeat (first | (with_reducible first | exact HB.out | apply below_alloc | apply pw_below_drewN | apply below_drew1) | exact HB.out)⟩⟩
                                        · rw [if_neg c51] at H
                                          have c51b0 : ((wrap64 ((rd t226 (ji23)) - (rd t226 x10_3))) == ((rd_T31 l0 x10_3).f3)) = false := beq_eq_false_iff_ne.mpr c51
                                          have c51b1 : ((wrap64 ((rd t226 (ji23)) - (rd t226 x10_3))) != ((rd_T31 l0 x10_3).f3)) = true := bne_iff_ne.mpr c51
                                          exact absurd ((Option.some.inj H).trans HR_.out) (by decide)
                                    · rw [if_neg c34] at H
                                      exact absurd H (by simp)
                                  · rw [if_neg c33] at H
                                    exact absurd H (by simp)
                          · rw [if_neg c26] at H
                            exact absurd H (by simp)
                        · rw [if_neg c25] at H
                          exact absurd H (by simp)
                      · rw [if_neg c24] at H
                        exact absurd H (by simp)
                    · rw [if_neg c22] at H
                      exact absurd H (by simp)
                  · rw [if_neg c21] at H
                    have c21b0 : decide (x10_3 < (l0.length : Int)) = false := decide_eq_false c21
                    clear c21
                    replace H := Option.bind_eq_some_iff.mp H
                    obtain ⟨⟨t240, t241⟩, A520, H⟩ := H
                    replace H : (if t241 = 0 then (stickfullaw12_TabsStops.j4 k3 a2 t226 x9_3 t240 ((t240.length : Int) != (t226.length : Int))) else (stickfullaw12_TabsStops.j4 k3 a2 t226 x9_3 t240 true)) = some r := H
                    have A52 := Aside0.mk A520
                    clear A520
                    have HC53 := Aside0.mk H
                    clear H
                    go_upto_region 20 with (first | (go_at_call 8; (refine (tabs_Pens.calls _ _ l0 _ _ ([] : List Int) (wrap64 (a1 + a2)) t240 t241 _ ?side1 ?side2 ?side3 ?side4 A52.out).mono ?_); (case side1 => repeat (first | exact (Kd.C_below HR0.out HB.out) | (with_reducible refine Kd.C_alloc ?_ _) | (with_reducible refine Kd.C_drewN ?_ _) | (with_reducible refine Kd.C_drew ?_))); (case side2 => exact HC0.out); (case side3 => exact Kd.C_nil _ _); (case side4 => exact Nat.le_refl _); rintro e w54 ⟨v242, rfl, ho0, hb⟩; have HO243 := Aside0.mk (Kd.R_lower (Kd.R_new' ho0 (Kd.R_lt (rx HO_7))) (below_size (bw HB))); replace HO_7 := Aside0.mk (Kd.R_elder' (rx HO_7) (Kd.R_base ho0) hb); replace HB := bh HB hb; (try clear hb); (try clear hb2); (try clear hk); (try clear hi); (try clear ho0); (try clear A52)))
                    repeat (go_quiet (first | (go_at_call 8; (refine (tabs_Pens.calls _ _ l0 _ _ ([] : List Int) (wrap64 (a1 + a2)) t240 t241 _ ?side1 ?side2 ?side3 ?side4 A52.out).mono ?_); (case side1 => repeat (first | exact (Kd.C_below HR0.out HB.out) | (with_reducible refine Kd.C_alloc ?_ _) | (with_reducible refine Kd.C_drewN ?_ _) | (with_reducible refine Kd.C_drew ?_))); (case side2 => exact HC0.out); (case side3 => exact Kd.C_nil _ _); (case side4 => exact Nat.le_refl _); rintro e w54 ⟨v242, rfl, ho0, hb⟩; have HO243 := Aside0.mk (Kd.R_lower (Kd.R_new' ho0 (Kd.R_lt (rx HO_7))) (below_size (bw HB))); replace HO_7 := Aside0.mk (Kd.R_elder' (rx HO_7) (Kd.R_base ho0) hb); replace HB := bh HB hb; (try clear hb); (try clear hb2); (try clear hk); (try clear hi); (try clear ho0); (try clear A52))); go_upto_region 20 with (first | (go_at_call 8; (refine (tabs_Pens.calls _ _ l0 _ _ ([] : List Int) (wrap64 (a1 + a2)) t240 t241 _ ?side1 ?side2 ?side3 ?side4 A52.out).mono ?_); (case side1 => repeat (first | exact (Kd.C_below HR0.out HB.out) | (with_reducible refine Kd.C_alloc ?_ _) | (with_reducible refine Kd.C_drewN ?_ _) | (with_reducible refine Kd.C_drew ?_))); (case side2 => exact HC0.out); (case side3 => exact Kd.C_nil _ _); (case side4 => exact Nat.le_refl _); rintro e w54 ⟨v242, rfl, ho0, hb⟩; have HO243 := Aside0.mk (Kd.R_lower (Kd.R_new' ho0 (Kd.R_lt (rx HO_7))) (below_size (bw HB))); replace HO_7 := Aside0.mk (Kd.R_elder' (rx HO_7) (Kd.R_base ho0) hb); replace HB := bh HB hb; (try clear hb); (try clear hb2); (try clear hk); (try clear hi); (try clear ho0); (try clear A52))))
                    (try simp only [Act.put, List.setIfInBounds_toArray, List.set_cons_zero, List.set_cons_succ])
                    go_cut [147] (fun v147 wc => ∃ (kq : Nat) (x147_52 : Bool), v147 = .bool x147_52 ∧ Aside0 (stickfullaw12_TabsStops.j4 kq a2 t226 x9_3 t240 x147_52 = some r) ∧ Aside0 (kq ≤ k3) ∧ Aside0 (Kd.R (Kd.int .i64) 2 wc w.heap.size (fun k_ => some k_ ≠ (v242 : Value).ownBlock) v228 t226) ∧ Aside0 (Kd.R (Kd.int .i64) 2 wc w.heap.size (fun k_ => some k_ ≠ (v228 : Value).ownBlock) v242 t240) ∧ Aside0 (Below w.heap.size w wc))
                    case first =>
                      have H := HC53.out
                      clear HC53
                      by_cases c55 : t241 = 0
                      · rw [if_pos c55] at H
                        have c55b0 : (t241 == 0) = true := beq_iff_eq.mpr c55
                        have c55b1 : (t241 != 0) = false := bne_eq_false_iff_eq.mpr c55
                        clear c55
                        (first | rw [c55b0] | (simp only [i64_w, i32_w]; rw [c55b0]) | skip)
                        have H' := Aside0.mk H
                        clear H
                        obtain ⟨Ao56, co56, eo56⟩ := Kd.R_slice HO243.out
                        subst eo56
                        obtain ⟨Ao57, co57, eo57⟩ := Kd.R_slice HO_7.out
                        subst eo57
                        go_wp2
                        repeat (go_quiet (fail); try go_wp2)
                        go_meet
                        case rel => exact ⟨_, (((t240.length : Int) != (t226.length : Int))), (by first | rfl | (simp; done) | (simp [*]; done)), H', ⟨by have := HJ3.out; have := HJ12.out; have := HK3.out; first | omega | exact Nat.le_refl _⟩, ⟨by (with_reducible repeat (first | apply Kd.R_alloc | apply Kd.R_drewN | apply Kd.R_drew)); exact Kd.R_mono HO_7.out (fun _ hk => hk.2)⟩, ⟨by (with_reducible repeat (first | apply Kd.R_alloc | apply Kd.R_drewN | apply Kd.R_drew)); exact Kd.R_mono HO243.out (fun _ hk => hk.2)⟩, ⟨by repeat (first | (with_reducible first | exact HB.out | apply below_alloc | apply pw_below_drewN | apply below_drew1) | exact HB.out)⟩⟩
                      · rw [if_neg c55] at H
                        have c55b0 : (t241 == 0) = false := beq_eq_false_iff_ne.mpr c55
                        have c55b1 : (t241 != 0) = true := bne_iff_ne.mpr c55
                        (first | rw [c55b0] | (simp only [i64_w, i32_w]; rw [c55b0]) | skip)
                        have H' := Aside0.mk H
                        clear H
                        go_wp2
                        repeat (go_quiet (fail); try go_wp2)
                        go_meet
                        case rel => exact ⟨_, (true), (by first | rfl | (simp; done) | (simp [*]; done)), H', ⟨by have := HJ3.out; have := HJ12.out; have := HK3.out; first | omega | exact Nat.le_refl _⟩, ⟨by (with_reducible repeat (first | apply Kd.R_alloc | apply Kd.R_drewN | apply Kd.R_drew)); exact Kd.R_mono HO_7.out (fun _ hk => hk.2)⟩, ⟨by (with_reducible repeat (first | apply Kd.R_alloc | apply Kd.R_drewN | apply Kd.R_drew)); exact Kd.R_mono HO243.out (fun _ hk => hk.2)⟩, ⟨by repeat (first | (with_reducible first | exact HB.out | apply below_alloc | apply pw_below_drewN | apply below_drew1) | exact HB.out)⟩⟩
                    case rest =>
                      clear HC53
                      try clear c1
                      try clear c2
                      try clear p2
                      try clear q2
                      try clear hx2
                      try clear c3
                      try clear c4
                      try clear c5
                      try clear c5b0
                      try clear c5b1
                      try clear c6
                      try clear c6b0
                      try clear p6
                      try clear c7
                      try clear c7b0
                      try clear c8
                      try clear c8b0
                      try clear c9
                      try clear c15
                      try clear c15b0
                      try clear c15b1
                      try clear c17
                      try clear c18
                      try clear c18b0
                      try clear c18b1
                      try clear c21
                      try clear c21b0
                      try clear c22
                      try clear c22b0
                      try clear p23
                      try clear q23
                      try clear hx23
                      try clear c24
                      try clear c24b0
                      try clear c25
                      try clear c25b0
                      try clear c26
                      try clear c26b0
                      try clear c29
                      try clear c29b0
                      try clear c30
                      try clear c33
                      try clear c33b0
                      try clear c34
                      try clear c34b0
                      try clear c35
                      try clear c35b0
                      try clear c35b1
                      try clear c36
                      try clear c36b0
                      try clear c36b1
                      try clear c37
                      try clear c37b0
                      try clear c37b1
                      try clear c38
                      try clear c38b0
                      try clear c39
                      try clear c39b0
                      try clear c40
                      try clear c40b0
                      try clear c42
                      try clear c42b0
                      try clear c43
                      try clear c43b0
                      try clear c44
                      try clear c44b0
                      try clear c45
                      try clear c45b0
                      try clear c46
                      try clear c46b0
                      try clear c48
                      try clear c48b0
                      try clear c49
                      try clear c49b0
                      try clear c50
                      try clear c50b0
                      try clear c50b1
                      try clear c51
                      try clear c51b0
                      try clear c51b1
                      try clear c55
                      try clear c55b0
                      try clear c55b1
                      try clear hx231_0
                      try clear hx231_1
                      try clear hx231_2
                      try clear hx231_3
                      try clear hx231_4
                      try clear hx231_5
                      try clear hx232_0
                      try clear hx233_0
                      try clear hx234_0
                      try clear hx234_1
                      try clear hx234_2
                      try clear hx234_3
                      try clear hx234_4
                      try clear hx234_5
                      try clear hx235_0
                      try clear hx235_1
                      try clear hx235_2
                      try clear hx235_3
                      try clear hx235_4
                      try clear hx235_5
                      try clear hx237_0
                      try clear hx237_1
                      try clear hx237_2
                      try clear hx237_3
                      try clear hx237_4
                      try clear hx237_5
                      try clear hx239_0
                      try clear p2
                      try clear p23
                      try clear p231
                      try clear p232
                      try clear p233
                      try clear p234
                      try clear p235
                      try clear p237
                      try clear p239
                      try clear p6
                      try clear q2
                      try clear q23
                      try clear q231
                      try clear q232
                      try clear q233
                      try clear q234
                      try clear q235
                      try clear q237
                      try clear q239
                      obtain ⟨kq, x147_52, rfl, HA, HJ52, HO_7, HO_13, HB⟩ := hcut
                      cases kq with
                      | zero => exact absurd HA.out (by simp [stickfullaw12_TabsStops.j4])
                      | succ kj52 =>
                        have H := HA.out
                        clear HA
                        simp only [stickfullaw12_TabsStops.j4] at H
                        by_cases c58 : x147_52 = true
                        · subst c58
                          have H1 : (some false) = some r := by rw [if_pos rfl] at H; exact H
                          clear H
                          have H := H1
                          clear H1
                          exact absurd ((Option.some.inj H).trans HR_.out) (by decide)
                        · replace c58 := Bool.eq_false_iff.mpr c58
                          subst c58
                          have H1 : (stickfullaw12_TabsStops.l1 kj52 a2 t226 x9_3 t240 0) = some r := by rw [if_neg (show ¬ (false = true) by decide)] at H; exact H
                          clear H
                          have H := H1
                          clear H1
                          have H' := Aside0.mk H
                          clear H
                          go_wp2
                          repeat (go_quiet (fail); try go_wp2)
                          go_loopg [15] kj52 (fun kq v15 w' => ∃ (x15_5 : Int), v15 = .int .i64 x15_5 ∧ Aside0 (stickfullaw12_TabsStops.l1 kq a2 t226 x9_3 t240 x15_5 = some r) ∧ Aside0 (kq ≤ kj52) ∧ Aside0 (Kd.R (Kd.int .i64) 2 w' w.heap.size (fun k_ => some k_ ≠ (v242 : Value).ownBlock) v228 t226) ∧ Aside0 (Kd.R (Kd.int .i64) 2 w' w.heap.size (fun k_ => some k_ ≠ (v228 : Value).ownBlock) v242 t240) ∧ Aside0 (Below w.heap.size w w'))
                          case atStart => exact ⟨(0), (by first | rfl | (simp; done) | (simp [*]; done)), H', ⟨Nat.le_refl _⟩, ⟨by (with_reducible repeat (first | apply Kd.R_alloc | apply Kd.R_drewN | apply Kd.R_drew)); exact HO_7.out⟩, ⟨by (with_reducible repeat (first | apply Kd.R_alloc | apply Kd.R_drewN | apply Kd.R_drew)); exact HO_13.out⟩, ⟨by repeat (first | (with_reducible first | exact HB.out | apply below_alloc | apply pw_below_drewN | apply below_drew1) | exact HB.out)⟩⟩
                          case round =>
                            clear H'
                            try clear c1
                            try clear c2
                            try clear p2
                            try clear q2
                            try clear hx2
                            try clear c3
                            try clear c4
                            try clear c5
                            try clear c5b0
                            try clear c5b1
                            try clear c6
                            try clear c6b0
                            try clear p6
                            try clear c7
                            try clear c7b0
                            try clear c8
                            try clear c8b0
                            try clear c9
                            try clear c15
                            try clear c15b0
                            try clear c15b1
                            try clear c17
                            try clear c18
                            try clear c18b0
                            try clear c18b1
                            try clear c21
                            try clear c21b0
                            try clear c22
                            try clear c22b0
                            try clear p23
                            try clear q23
                            try clear hx23
                            try clear c24
                            try clear c24b0
                            try clear c25
                            try clear c25b0
                            try clear c26
                            try clear c26b0
                            try clear c29
                            try clear c29b0
                            try clear c30
                            try clear c33
                            try clear c33b0
                            try clear c34
                            try clear c34b0
                            try clear c35
                            try clear c35b0
                            try clear c35b1
                            try clear c36
                            try clear c36b0
                            try clear c36b1
                            try clear c37
                            try clear c37b0
                            try clear c37b1
                            try clear c38
                            try clear c38b0
                            try clear c39
                            try clear c39b0
                            try clear c40
                            try clear c40b0
                            try clear c42
                            try clear c42b0
                            try clear c43
                            try clear c43b0
                            try clear c44
                            try clear c44b0
                            try clear c45
                            try clear c45b0
                            try clear c46
                            try clear c46b0
                            try clear c48
                            try clear c48b0
                            try clear c49
                            try clear c49b0
                            try clear c50
                            try clear c50b0
                            try clear c50b1
                            try clear c51
                            try clear c51b0
                            try clear c51b1
                            try clear c55
                            try clear c55b0
                            try clear c55b1
                            try clear c58
                            try clear hx231_0
                            try clear hx231_1
                            try clear hx231_2
                            try clear hx231_3
                            try clear hx231_4
                            try clear hx231_5
                            try clear hx232_0
                            try clear hx233_0
                            try clear hx234_0
                            try clear hx234_1
                            try clear hx234_2
                            try clear hx234_3
                            try clear hx234_4
                            try clear hx234_5
                            try clear hx235_0
                            try clear hx235_1
                            try clear hx235_2
                            try clear hx235_3
                            try clear hx235_4
                            try clear hx235_5
                            try clear hx237_0
                            try clear hx237_1
                            try clear hx237_2
                            try clear hx237_3
                            try clear hx237_4
                            try clear hx237_5
                            try clear hx239_0
                            try clear p2
                            try clear p23
                            try clear p231
                            try clear p232
                            try clear p233
                            try clear p234
                            try clear p235
                            try clear p237
                            try clear p239
                            try clear p6
                            try clear q2
                            try clear q23
                            try clear q231
                            try clear q232
                            try clear q233
                            try clear q234
                            try clear q235
                            try clear q237
                            try clear q239
                            obtain ⟨x15_5, rfl, HA, HK5, HO_7, HO_13, HB⟩ := hrel
                            cases gk with
                            | zero => exact absurd HA.out (by simp [stickfullaw12_TabsStops.l1])
                            | succ k5 =>
                              have H := HA.out
                              clear HA
                              simp only [stickfullaw12_TabsStops.l1] at H
                              have HC59 := Aside0.mk H
                              clear H
                              go_upto_region 23 with (fail)
                              repeat (go_quiet (fail); go_upto_region 23 with (fail))
                              go_cut [155] (fun v155 wc => ∃ (kq : Nat) (x155_58 : Bool), v155 = .bool x155_58 ∧ Aside0 (stickfullaw12_TabsStops.j6 kq a2 t226 x9_3 t240 x15_5 x155_58 = some r) ∧ Aside0 (kq ≤ k5) ∧ Aside0 (Kd.R (Kd.int .i64) 2 wc w.heap.size (fun k_ => some k_ ≠ (v242 : Value).ownBlock) v228 t226) ∧ Aside0 (Kd.R (Kd.int .i64) 2 wc w.heap.size (fun k_ => some k_ ≠ (v228 : Value).ownBlock) v242 t240) ∧ Aside0 (Below w.heap.size w wc))
                              case first =>
                                have H := HC59.out
                                clear HC59
                                by_cases c60 : x15_5 < (t226.length : Int)
                                · rw [if_pos c60] at H
                                  have c60b0 : decide (x15_5 < (t226.length : Int)) = true := decide_eq_true c60
                                  clear c60
                                  (first | rw [c60b0] | (simp only [i64_w, i32_w]; rw [c60b0]) | skip)
                                  have H' := Aside0.mk H
                                  clear H
                                  obtain ⟨Ao61, co61, eo61⟩ := Kd.R_slice HO_7.out
                                  subst eo61
                                  go_wp2
                                  repeat (go_quiet (fail); try go_wp2)
                                  go_meet
                                  case rel => exact ⟨_, (!x9_3), (by first | rfl | (simp; done) | (simp [*]; done)), H', ⟨by have := HJ3.out; have := HJ12.out; have := HK3.out; have := HJ52.out; have := HK5.out; first | omega | exact Nat.le_refl _⟩, ⟨by (with_reducible repeat (first | apply Kd.R_alloc | apply Kd.R_drewN | apply Kd.R_drew)); exact HO_7.out⟩, ⟨by (with_reducible repeat (first | apply Kd.R_alloc | apply Kd.R_drewN | apply Kd.R_drew)); exact HO_13.out⟩, ⟨by repeat (first | (with_reducible first | exact HB.out | apply below_alloc | apply pw_below_drewN | apply below_drew1) | exact HB.out)⟩⟩
                                · rw [if_neg c60] at H
                                  have c60b0 : decide (x15_5 < (t226.length : Int)) = false := decide_eq_false c60
                                  clear c60
                                  (first | rw [c60b0] | (simp only [i64_w, i32_w]; rw [c60b0]) | skip)
                                  have H' := Aside0.mk H
                                  clear H
                                  obtain ⟨Ao62, co62, eo62⟩ := Kd.R_slice HO_7.out
                                  subst eo62
                                  go_wp2
                                  repeat (go_quiet (fail); try go_wp2)
                                  go_meet
                                  case rel => exact ⟨_, (false), (by first | rfl | (simp; done) | (simp [*]; done)), H', ⟨by have := HJ3.out; have := HJ12.out; have := HK3.out; have := HJ52.out; have := HK5.out; first | omega | exact Nat.le_refl _⟩, ⟨by (with_reducible repeat (first | apply Kd.R_alloc | apply Kd.R_drewN | apply Kd.R_drew)); exact HO_7.out⟩, ⟨by (with_reducible repeat (first | apply Kd.R_alloc | apply Kd.R_drewN | apply Kd.R_drew)); exact HO_13.out⟩, ⟨by repeat (first | (with_reducible first | exact HB.out | apply below_alloc | apply pw_below_drewN | apply below_drew1) | exact HB.out)⟩⟩
                              case rest =>
                                clear HC59
                                try clear c1
                                try clear c2
                                try clear p2
                                try clear q2
                                try clear hx2
                                try clear c3
                                try clear c4
                                try clear c5
                                try clear c5b0
                                try clear c5b1
                                try clear c6
                                try clear c6b0
                                try clear p6
                                try clear c7
                                try clear c7b0
                                try clear c8
                                try clear c8b0
                                try clear c9
                                try clear c15
                                try clear c15b0
                                try clear c15b1
                                try clear c17
                                try clear c18
                                try clear c18b0
                                try clear c18b1
                                try clear c21
                                try clear c21b0
                                try clear c22
                                try clear c22b0
                                try clear p23
                                try clear q23
                                try clear hx23
                                try clear c24
                                try clear c24b0
                                try clear c25
                                try clear c25b0
                                try clear c26
                                try clear c26b0
                                try clear c29
                                try clear c29b0
                                try clear c30
                                try clear c33
                                try clear c33b0
                                try clear c34
                                try clear c34b0
                                try clear c35
                                try clear c35b0
                                try clear c35b1
                                try clear c36
                                try clear c36b0
                                try clear c36b1
                                try clear c37
                                try clear c37b0
                                try clear c37b1
                                try clear c38
                                try clear c38b0
                                try clear c39
                                try clear c39b0
                                try clear c40
                                try clear c40b0
                                try clear c42
                                try clear c42b0
                                try clear c43
                                try clear c43b0
                                try clear c44
                                try clear c44b0
                                try clear c45
                                try clear c45b0
                                try clear c46
                                try clear c46b0
                                try clear c48
                                try clear c48b0
                                try clear c49
                                try clear c49b0
                                try clear c50
                                try clear c50b0
                                try clear c50b1
                                try clear c51
                                try clear c51b0
                                try clear c51b1
                                try clear c55
                                try clear c55b0
                                try clear c55b1
                                try clear c58
                                try clear c60
                                try clear c60b0
                                try clear hx231_0
                                try clear hx231_1
                                try clear hx231_2
                                try clear hx231_3
                                try clear hx231_4
                                try clear hx231_5
                                try clear hx232_0
                                try clear hx233_0
                                try clear hx234_0
                                try clear hx234_1
                                try clear hx234_2
                                try clear hx234_3
                                try clear hx234_4
                                try clear hx234_5
                                try clear hx235_0
                                try clear hx235_1
                                try clear hx235_2
                                try clear hx235_3
                                try clear hx235_4
                                try clear hx235_5
                                try clear hx237_0
                                try clear hx237_1
                                try clear hx237_2
                                try clear hx237_3
                                try clear hx237_4
                                try clear hx237_5
                                try clear hx239_0
                                try clear p2
                                try clear p23
                                try clear p231
                                try clear p232
                                try clear p233
                                try clear p234
                                try clear p235
                                try clear p237
                                try clear p239
                                try clear p6
                                try clear q2
                                try clear q23
                                try clear q231
                                try clear q232
                                try clear q233
                                try clear q234
                                try clear q235
                                try clear q237
                                try clear q239
                                obtain ⟨kq, x155_58, rfl, HA, HJ58, HO_7, HO_13, HB⟩ := hcut
                                cases kq with
                                | zero => exact absurd HA.out (by simp [stickfullaw12_TabsStops.j6])
                                | succ kj58 =>
                                  have H := HA.out
                                  clear HA
                                  simp only [stickfullaw12_TabsStops.j6] at H
                                  by_cases c63 : x155_58 = true
                                  · subst c63
                                    have H1 : (if 0 ≤ x15_5 then (if x15_5 < (t240.length : Int) then (if x15_5 < (t226.length : Int) then (if (wrap64 ((rd t240 x15_5) - (rd t226 x15_5))) = a2 then (stickfullaw12_TabsStops.l1 kj58 a2 t226 x9_3 t240 (wrap64 (x15_5 + 1))) else (some false)) else (none)) else (none)) else (none)) = some r := by rw [if_pos rfl] at H; exact H
                                    clear H
                                    have H := H1
                                    clear H1
                                    by_cases c64 : 0 ≤ x15_5
                                    · rw [if_pos c64] at H
                                      have c64b0 : decide (0 ≤ x15_5) = true := decide_eq_true c64
                                      clear c64
                                      by_cases c65 : x15_5 < (t240.length : Int)
                                      · rw [if_pos c65] at H
                                        have c65b0 : decide (x15_5 < (t240.length : Int)) = true := decide_eq_true c65
                                        clear c65
                                        by_cases c66 : x15_5 < (t226.length : Int)
                                        · rw [if_pos c66] at H
                                          have c66b0 : decide (x15_5 < (t226.length : Int)) = true := decide_eq_true c66
                                          clear c66
                                          by_cases c67 : (wrap64 ((rd t240 x15_5) - (rd t226 x15_5))) = a2
                                          · rw [if_pos c67] at H
                                            have c67b0 : ((wrap64 ((rd t240 x15_5) - (rd t226 x15_5))) == a2) = true := beq_iff_eq.mpr c67
                                            have c67b1 : ((wrap64 ((rd t240 x15_5) - (rd t226 x15_5))) != a2) = false := bne_eq_false_iff_eq.mpr c67
                                            clear c67
                                            have H' := Aside0.mk H
                                            clear H
                                            obtain ⟨Ao68, co68, eo68⟩ := Kd.R_slice HO_13.out
                                            subst eo68
                                            have p244 : 0 ≤ (x15_5 : Int) := of_decide_eq_true (by first | (with_reducible assumption) | assumption)
                                            have q244 : x15_5 < (t240.length : Int) := of_decide_eq_true (by first | (with_reducible assumption) | assumption)
                                            obtain ⟨ad244, e244, hx244_0⟩ := Kd.at_int (Kd.R_reads' HO_13.out).2.2 x15_5 p244 q244
                                            cases e244
                                            replace p244 := eq_true p244
                                            replace q244 := eq_true q244
                                            obtain ⟨Ao69, co69, eo69⟩ := Kd.R_slice HO_7.out
                                            subst eo69
                                            have p245 : 0 ≤ (x15_5 : Int) := of_decide_eq_true (by first | (with_reducible assumption) | assumption)
                                            have q245 : x15_5 < (t226.length : Int) := of_decide_eq_true (by first | (with_reducible assumption) | assumption)
                                            obtain ⟨ad245, e245, hx245_0⟩ := Kd.at_int (Kd.R_reads' HO_7.out).2.2 x15_5 p245 q245
                                            cases e245
                                            replace p245 := eq_true p245
                                            replace q245 := eq_true q245
                                            go_wp2
                                            repeat (go_quiet (fail); try go_wp2)
                                            go_roundg kj58
                                            case measure => have := HJ3.out; have := HJ12.out; have := HK3.out; have := HJ52.out; have := HK5.out; have := HJ58.out; omega
                                            case rel => exact ⟨(wrap64 (x15_5 + 1)), (by first | rfl | (simp; done) | (simp [*]; done)), H', ⟨by have := HJ3.out; have := HJ12.out; have := HK3.out; have := HJ52.out; have := HK5.out; have := HJ58.out; omega⟩, ⟨by (with_reducible repeat (first | apply Kd.R_alloc | apply Kd.R_drewN | apply Kd.R_drew)); exact HO_7.out⟩, ⟨by (with_reducible repeat (first | apply Kd.R_alloc | apply Kd.R_drewN | apply Kd.R_drew)); exact HO_13.out⟩, ⟨by repeat (first | (with_reducible first | exact HB.out | apply below_alloc | apply pw_below_drewN | apply below_drew1) | exact HB.out)⟩⟩
                                          · rw [if_neg c67] at H
                                            have c67b0 : ((wrap64 ((rd t240 x15_5) - (rd t226 x15_5))) == a2) = false := beq_eq_false_iff_ne.mpr c67
                                            have c67b1 : ((wrap64 ((rd t240 x15_5) - (rd t226 x15_5))) != a2) = true := bne_iff_ne.mpr c67
                                            exact absurd ((Option.some.inj H).trans HR_.out) (by decide)
                                        · rw [if_neg c66] at H
                                          exact absurd H (by simp)
                                      · rw [if_neg c65] at H
                                        exact absurd H (by simp)
                                    · rw [if_neg c64] at H
                                      exact absurd H (by simp)
                                  · replace c63 := Bool.eq_false_iff.mpr c63
                                    subst c63
                                    have H1 : ((stickfullaw12_head.f kj58).bind fun t246 => (some t246)) = some r := by rw [if_neg (show ¬ (false = true) by decide)] at H; exact H
                                    clear H
                                    have H := H1
                                    clear H1
                                    replace H := Option.bind_eq_some_iff.mp H
                                    obtain ⟨t246, A700, H⟩ := H
                                    replace H : (some t246) = some r := H
                                    have A70 := Aside0.mk A700
                                    clear A700
                                    obtain rfl := Option.some.inj H
                                    go_wp2_with (first | (go_at_call 7; (with_reducible refine (stickfullaw12_head.calls kj58  t246 _ A70.out).mono ?_); rintro e w71 ⟨rfl, hb⟩; replace HO_7 := Aside0.mk (Kd.R_below (rx HO_7) hb); replace HO_13 := Aside0.mk (Kd.R_below (rx HO_13) hb); replace HB := bh HB hb; (try clear hb); (try clear hb2); (try clear hk); (try clear hi)))
                                    repeat (go_quiet (first | (go_at_call 7; (with_reducible refine (stickfullaw12_head.calls kj58  t246 _ A70.out).mono ?_); rintro e w71 ⟨rfl, hb⟩; replace HO_7 := Aside0.mk (Kd.R_below (rx HO_7) hb); replace HO_13 := Aside0.mk (Kd.R_below (rx HO_13) hb); replace HB := bh HB hb; (try clear hb); (try clear hb2); (try clear hk); (try clear hi))); try go_wp2_with (first | (go_at_call 7; (with_reducible refine (stickfullaw12_head.calls kj58  t246 _ A70.out).mono ?_); rintro e w71 ⟨rfl, hb⟩; replace HO_7 := Aside0.mk (Kd.R_below (rx HO_7) hb); replace HO_13 := Aside0.mk (Kd.R_below (rx HO_13) hb); replace HB := bh HB hb; (try clear hb); (try clear hb2); (try clear hk); (try clear hi))))
                                    go_ret
                                    exact ⟨by first | rfl | (simp [errW_none, errW_some] <;> rfl) | (simp [*, errW_none, errW_some] <;> rfl), by repeat (first | (with_reducible first | exact HB.out | apply below_alloc | apply pw_below_drewN | apply below_drew1) | exact HB.out)⟩

end Go.Proofs.Ytdkhjhckdjhiiaa.HTabs
