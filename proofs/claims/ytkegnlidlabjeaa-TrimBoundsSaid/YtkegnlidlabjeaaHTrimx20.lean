-- Written by this claim's own program over the kit's print.
import Derived.Test.YtkegnlidlabjeaaHTrimb
import Derived.Test.YtkegnlidlabjeaaHTrimx0
import Derived.Test.YtkegnlidlabjeaaHTrimx3
import Derived.Test.YtkegnlidlabjeaaHTrimx7
import Derived.Test.YtkegnlidlabjeaaHTrimx8
import Derived.Test.YtkegnlidlabjeaaHTrimx9
import Derived.Test.YtkegnlidlabjeaaHTrimx11
import Derived.Test.YtkegnlidlabjeaaHTrimx19
namespace Go.Proofs.Ytkegnlidlabjeaa.HTrim
open Go.RowKit Go.Proofs.YtkegnlidlabjeaaW.PrintWords Go.Proofs.YtkegnlidlabjeaaW.PrintLast Go.Proofs.YtkegnlidlabjeaaW.PrintMore Go.Proofs.Ytkegnlidlabjeaa.Hand
attribute [local go_sem] max2_int min2_int max_two min_two max_three min_three max_four min_four   -- for this text's walks alone
set_option linter.unusedVariables false
set_option linter.unusedSimpArgs false

/-! ### stickfullaw13_TrimBounds: function 6 -/
mutual
def stickfullaw13_TrimBounds.j0 : Nat → List (S35) → Int → Bool → Option (Bool)
  | 0, _, _, _ => none
  | k + 1, x0, x1, x22 => if x22 = true then ((stickfullaw13_head.f k).bind fun t397 => (some t397)) else (stickfullaw13_TrimBounds.l0 k x0 x1 0)
def stickfullaw13_TrimBounds.l0 : Nat → List (S35) → Int → Int → Option (Bool)
  | 0, _, _, _ => none
  | k + 1, x0, x1, x5 => if x5 < (x0.length : Int) then (if 0 ≤ x5 then (if ((rd_T35 x0 x5).f3) < 0 then ((stickfullaw13_head.f k).bind fun t399 => (some t399)) else (if ((rd_T35 x0 x5).f3) > 1099511627776 then ((stickfullaw13_head.f k).bind fun t401 => (some t401)) else (stickfullaw13_TrimBounds.l0 k x0 x1 (wrap64 (x5 + 1))))) else (none)) else ((trim_Fits.f x0 x1).bind fun bt402 => ((trim_Goes.f x0 x1).bind fun bt404 => ((tabs_End.f x0 ([] : List Int) x1).bind fun bt406 => (if bt402.2 = 0 then (if bt404.2 = 0 then (if bt406.2 = 0 then (if x1 ≤ bt402.1 then (if bt402.1 ≤ bt404.1 then (if bt404.1 ≤ bt406.1 then ((trim_Blank.f k x0).bind fun t408 => (if t408 = true then ((stickfullaw13_edged.f k x0).bind fun t409 => (if t409 = true then ((stickfullaw13_head.f k).bind fun t410 => (some t410)) else (if bt402.1 = x1 then ((stickfullaw13_head.f k).bind fun t411 => (some t411)) else (some false)))) else ((stickfullaw13_head.f k).bind fun t412 => (some t412)))) else (some false)) else (some false)) else (some false)) else (some false)) else (some false)) else (some false)))))
end
def stickfullaw13_TrimBounds.f (k : Nat) (l0 : List (S35)) (a1 : Int) : Option (Bool) := if (l0.length : Int) > 150 then (stickfullaw13_TrimBounds.j0 k l0 a1 true) else (if a1 > 1099511627776 then (stickfullaw13_TrimBounds.j0 k l0 a1 true) else (stickfullaw13_TrimBounds.j0 k l0 a1 (decide (a1 < (-1099511627776)))))
theorem stickfullaw13_TrimBounds.mono_l : ∀ k, (∀ y0 y1 y2, LeO (stickfullaw13_TrimBounds.j0 k y0 y1 y2) (stickfullaw13_TrimBounds.j0 (k + 1) y0 y1 y2)) ∧ (∀ y0 y1 y2, LeO (stickfullaw13_TrimBounds.l0 k y0 y1 y2) (stickfullaw13_TrimBounds.l0 (k + 1) y0 y1 y2))
  | 0 => ⟨fun _ _ _ r h => by simp [stickfullaw13_TrimBounds.j0] at h, fun _ _ _ r h => by simp [stickfullaw13_TrimBounds.l0] at h⟩
  | k + 1 => by
    obtain ⟨ih0, ih1⟩ := stickfullaw13_TrimBounds.mono_l k
    refine ⟨?_, ?_⟩
    · intro y0 y1 y2
      unfold stickfullaw13_TrimBounds.j0
      repeat' first
      | (with_reducible exact ih0 _ _ _)
      | (with_reducible exact ih1 _ _ _)
      | (with_reducible exact stickfullaw13_edged.mono _ _)
      | (with_reducible exact stickfullaw13_head.mono _)
      | (with_reducible exact trim_Blank.mono _ _)
      | (with_reducible exact LeO.refl _)
      | (with_reducible exact LeO.none _)
      | (with_reducible refine LeO.ite ?_ ?_)
      | (with_reducible refine LeO.bind ?_ (fun _ => ?_))
      | exact ih0 _ _ _
      | exact ih1 _ _ _
      | exact stickfullaw13_edged.mono _ _
      | exact stickfullaw13_head.mono _
      | exact trim_Blank.mono _ _
      | exact LeO.none _
      | refine LeO.ite ?_ ?_
      | refine LeO.bind ?_ (fun _ => ?_)
    · intro y0 y1 y2
      unfold stickfullaw13_TrimBounds.l0
      repeat' first
      | (with_reducible exact ih0 _ _ _)
      | (with_reducible exact ih1 _ _ _)
      | (with_reducible exact stickfullaw13_edged.mono _ _)
      | (with_reducible exact stickfullaw13_head.mono _)
      | (with_reducible exact trim_Blank.mono _ _)
      | (with_reducible exact LeO.refl _)
      | (with_reducible exact LeO.none _)
      | (with_reducible refine LeO.ite ?_ ?_)
      | (with_reducible refine LeO.bind ?_ (fun _ => ?_))
      | exact ih0 _ _ _
      | exact ih1 _ _ _
      | exact stickfullaw13_edged.mono _ _
      | exact stickfullaw13_head.mono _
      | exact trim_Blank.mono _ _
      | exact LeO.none _
      | refine LeO.ite ?_ ?_
      | refine LeO.bind ?_ (fun _ => ?_)
theorem stickfullaw13_TrimBounds.mono : ∀ a0 a1 k, LeO (stickfullaw13_TrimBounds.f k a0 a1) (stickfullaw13_TrimBounds.f (k + 1) a0 a1) := by
  intro a0 a1 k
  obtain ⟨ih0, ih1⟩ := stickfullaw13_TrimBounds.mono_l k
  unfold stickfullaw13_TrimBounds.f
  repeat' first
      | (with_reducible exact ih0 _ _ _)
      | (with_reducible exact ih1 _ _ _)
      | (with_reducible exact stickfullaw13_edged.mono _ _)
      | (with_reducible exact stickfullaw13_head.mono _)
      | (with_reducible exact trim_Blank.mono _ _)
      | (with_reducible exact LeO.refl _)
      | (with_reducible exact LeO.none _)
      | (with_reducible refine LeO.ite ?_ ?_)
      | (with_reducible refine LeO.bind ?_ (fun _ => ?_))
      | exact ih0 _ _ _
      | exact ih1 _ _ _
      | exact stickfullaw13_edged.mono _ _
      | exact stickfullaw13_head.mono _
      | exact trim_Blank.mono _ _
      | exact LeO.none _
      | refine LeO.ite ?_ ?_
      | refine LeO.bind ?_ (fun _ => ?_)
set_option maxHeartbeats 8000000 in
set_option maxRecDepth 100000 in
theorem stickfullaw13_TrimBounds.calls_t (k : Nat) (A0 : Option Addr) (c0 : Nat) (l0 : List (S35)) (a1 : Int) (r : Bool) (w : World) (hr0 : Kd.C k35 w A0 l0.length l0) (hc0 : l0.length ≤ c0) (h : stickfullaw13_TrimBounds.f k l0 a1 = some r) (hr_ : r = true) :
    Calls Try.prog 6 #[.slice A0 l0.length c0, .int .i64 a1] w fun e w' => e = .returned (.bool r) ∧ Below w.heap.size w w' := by
  have HR_ := Aside0.mk hr_
  clear hr_
  have HR0 := Aside0.mk hr0
  have HC0 := Aside0.mk hc0
  clear hr0 hc0
  have HB := Aside0.mk (Below.refl w.heap.size w)
  have H : (if (l0.length : Int) > 150 then (stickfullaw13_TrimBounds.j0 k l0 a1 true) else (if a1 > 1099511627776 then (stickfullaw13_TrimBounds.j0 k l0 a1 true) else (stickfullaw13_TrimBounds.j0 k l0 a1 (decide (a1 < (-1099511627776)))))) = some r := h
  clear h
  have HC3 := Aside0.mk H
  clear H
  go_enter Try.func6, Try.ntmps6
  go_upto_region 1 with (fail)
  go_cut [22] (fun v22 wc => ∃ (kq : Nat) (x22_2 : Bool), v22 = .bool x22_2 ∧ Aside0 (stickfullaw13_TrimBounds.j0 kq l0 a1 x22_2 = some r) ∧ Aside0 (kq ≤ k) ∧ Aside0 (Below w.heap.size w wc))
  case first =>
    have H := HC3.out
    clear HC3
    by_cases c4 : (l0.length : Int) > 150
    · rw [if_pos c4] at H
      have c4b0 : decide (150 < (l0.length : Int)) = true := decide_eq_true c4
      have c4b1 : decide (150 < l0.length) = true := decide_eq_true (by omega)
      clear c4
      (first | rw [c4b0] | (simp only [i64_w, i32_w]; rw [c4b0]) | skip)
      have H' := Aside0.mk H
      clear H
      go_wp2
      go_meet
      case rel => exact ⟨_, (true), (by first | rfl | (simp; done) | (simp [*]; done)), H', ⟨by first | omega | exact Nat.le_refl _⟩, ⟨by repeat (first | (with_reducible first | exact HB.out | apply below_alloc | apply pw_below_drewN | apply below_drew1) | exact HB.out)⟩⟩
    · rw [if_neg c4] at H
      have c4b0 : decide (150 < (l0.length : Int)) = false := decide_eq_false c4
      have c4b1 : decide (150 < l0.length) = false := decide_eq_false (by omega)
      clear c4
      (first | rw [c4b0] | (simp only [i64_w, i32_w]; rw [c4b0]) | skip)
      by_cases c5 : a1 > 1099511627776
      · rw [if_pos c5] at H
        have c5b0 : decide (1099511627776 < a1) = true := decide_eq_true c5
        clear c5
        have H' := Aside0.mk H
        clear H
        go_wp2
        go_meet
        case rel => exact ⟨_, (true), (by first | rfl | (simp; done) | (simp [*]; done)), H', ⟨by first | omega | exact Nat.le_refl _⟩, ⟨by repeat (first | (with_reducible first | exact HB.out | apply below_alloc | apply pw_below_drewN | apply below_drew1) | exact HB.out)⟩⟩
      · rw [if_neg c5] at H
        have c5b0 : decide (1099511627776 < a1) = false := decide_eq_false c5
        clear c5
        have H' := Aside0.mk H
        clear H
        go_wp2
        go_meet
        case rel => exact ⟨_, (decide (a1 < (-1099511627776))), (by first | rfl | (simp; done) | (simp [*]; done)), H', ⟨by first | omega | exact Nat.le_refl _⟩, ⟨by repeat (first | (with_reducible first | exact HB.out | apply below_alloc | apply pw_below_drewN | apply below_drew1) | exact HB.out)⟩⟩
  case rest =>
    clear HC3
    try clear p2
    try clear c4
    try clear c4b0
    try clear c4b1
    try clear c5
    try clear c5b0
    obtain ⟨kq, x22_2, rfl, HA, HJ2, HB⟩ := hcut
    cases kq with
    | zero => exact absurd HA.out (by simp [stickfullaw13_TrimBounds.j0])
    | succ kj2 =>
      have H := HA.out
      clear HA
      simp only [stickfullaw13_TrimBounds.j0] at H
      by_cases c6 : x22_2 = true
      · subst c6
        have H1 : ((stickfullaw13_head.f kj2).bind fun t397 => (some t397)) = some r := by rw [if_pos rfl] at H; exact H
        clear H
        have H := H1
        clear H1
        replace H := Option.bind_eq_some_iff.mp H
        obtain ⟨t397, A70, H⟩ := H
        replace H : (some t397) = some r := H
        have A7 := Aside0.mk A70
        clear A70
        obtain rfl := Option.some.inj H
        go_wp2_with (first | ((with_reducible refine gate_callee (f := 11) rfl ?_); refine goesB (some 23) rfl rfl Try.func11 #[] rfl ?_; (with_reducible refine (stickfullaw13_head.calls kj2  t397 _ A7.out).mono ?_); rintro e w8 ⟨rfl, hb⟩; refine ⟨_, rfl, ?_⟩; replace HB := bh HB hb; (try clear hb); (try clear hb2); (try clear hk); (try clear hi)))
        go_ret
        exact ⟨by first | rfl | (simp [errW_none, errW_some] <;> rfl) | (simp [*, errW_none, errW_some] <;> rfl), by repeat (first | (with_reducible first | exact HB.out | apply below_alloc | apply pw_below_drewN | apply below_drew1) | exact HB.out)⟩
      · replace c6 := Bool.eq_false_iff.mpr c6
        subst c6
        have H1 : (stickfullaw13_TrimBounds.l0 kj2 l0 a1 0) = some r := by rw [if_neg (show ¬ (false = true) by decide)] at H; exact H
        clear H
        have H := H1
        clear H1
        have H' := Aside0.mk H
        clear H
        go_wp2
        go_loopg [5] kj2 (fun kq v5 w' => ∃ (x5_2 : Int), v5 = .int .i64 x5_2 ∧ Aside0 (stickfullaw13_TrimBounds.l0 kq l0 a1 x5_2 = some r) ∧ Aside0 (kq ≤ kj2) ∧ Aside0 (Below w.heap.size w w'))
        case atStart => exact ⟨(0), (by first | rfl | (simp; done) | (simp [*]; done)), H', ⟨Nat.le_refl _⟩, ⟨by repeat (first | (with_reducible first | exact HB.out | apply below_alloc | apply pw_below_drewN | apply below_drew1) | exact HB.out)⟩⟩
        case round =>
          clear H'
          try clear c1
          try clear p2
          try clear c4
          try clear c4b0
          try clear c4b1
          try clear c5
          try clear c5b0
          try clear c6
          try clear p2
          obtain ⟨x5_2, rfl, HA, HK2, HB⟩ := hrel
          cases gk with
          | zero => exact absurd HA.out (by simp [stickfullaw13_TrimBounds.l0])
          | succ k2 =>
            have H := HA.out
            clear HA
            simp only [stickfullaw13_TrimBounds.l0] at H
            by_cases c9 : x5_2 < (l0.length : Int)
            · rw [if_pos c9] at H
              have c9b0 : decide (x5_2 < (l0.length : Int)) = true := decide_eq_true c9
              clear c9
              by_cases c10 : 0 ≤ x5_2
              · rw [if_pos c10] at H
                have c10b0 : decide (0 ≤ x5_2) = true := decide_eq_true c10
                clear c10
                by_cases c11 : ((rd_T35 l0 x5_2).f3) < 0
                · rw [if_pos c11] at H
                  have c11b0 : decide (((rd_T35 l0 x5_2).f3) < 0) = true := decide_eq_true c11
                  clear c11
                  replace H := Option.bind_eq_some_iff.mp H
                  obtain ⟨t399, A120, H⟩ := H
                  replace H : (some t399) = some r := H
                  have A12 := Aside0.mk A120
                  clear A120
                  obtain rfl := Option.some.inj H
                  have p398 : 0 ≤ (x5_2 : Int) := of_decide_eq_true (by first | (with_reducible assumption) | assumption)
                  have q398 : x5_2 < (l0.length : Int) := of_decide_eq_true (by first | (with_reducible assumption) | assumption)
                  obtain ⟨ad398, e398, hx398_0, hx398_1, hx398_2, hx398_3, hx398_4, hx398_5⟩ := at_T35 HR0.out x5_2 p398 q398
                  cases e398
                  replace hx398_0 := (HB.out.cell (World.block_lt_of_cell? w _ hx398_0)).trans hx398_0
                  replace hx398_1 := (HB.out.cell (World.block_lt_of_cell? w _ hx398_1)).trans hx398_1
                  replace hx398_2 := (HB.out.cell (World.block_lt_of_cell? w _ hx398_2)).trans hx398_2
                  replace hx398_3 := (HB.out.cell (World.block_lt_of_cell? w _ hx398_3)).trans hx398_3
                  replace hx398_4 := (HB.out.cell (World.block_lt_of_cell? w _ hx398_4)).trans hx398_4
                  replace hx398_5 := (HB.out.cell (World.block_lt_of_cell? w _ hx398_5)).trans hx398_5
                  replace p398 := eq_true p398
                  replace q398 := eq_true q398
                  go_wp2_with (first | ((with_reducible refine gate_callee (f := 11) rfl ?_); refine goesB (some 44) rfl rfl Try.func11 #[] rfl ?_; (with_reducible refine (stickfullaw13_head.calls k2  t399 _ A12.out).mono ?_); rintro e w13 ⟨rfl, hb⟩; refine ⟨_, rfl, ?_⟩; replace HB := bh HB hb; (try clear hb); (try clear hb2); (try clear hk); (try clear hi)))
                  go_ret
                  exact ⟨by first | rfl | (simp [errW_none, errW_some] <;> rfl) | (simp [*, errW_none, errW_some] <;> rfl), by repeat (first | (with_reducible first | exact HB.out | apply below_alloc | apply pw_below_drewN | apply below_drew1) | exact HB.out)⟩
                · rw [if_neg c11] at H
                  have c11b0 : decide (((rd_T35 l0 x5_2).f3) < 0) = false := decide_eq_false c11
                  clear c11
                  by_cases c14 : ((rd_T35 l0 x5_2).f3) > 1099511627776
                  · rw [if_pos c14] at H
                    have c14b0 : decide (1099511627776 < ((rd_T35 l0 x5_2).f3)) = true := decide_eq_true c14
                    clear c14
                    replace H := Option.bind_eq_some_iff.mp H
                    obtain ⟨t401, A150, H⟩ := H
                    replace H : (some t401) = some r := H
                    have A15 := Aside0.mk A150
                    clear A150
                    obtain rfl := Option.some.inj H
                    have p398 : 0 ≤ (x5_2 : Int) := of_decide_eq_true (by first | (with_reducible assumption) | assumption)
                    have q398 : x5_2 < (l0.length : Int) := of_decide_eq_true (by first | (with_reducible assumption) | assumption)
                    obtain ⟨ad398, e398, hx398_0, hx398_1, hx398_2, hx398_3, hx398_4, hx398_5⟩ := at_T35 HR0.out x5_2 p398 q398
                    cases e398
                    replace hx398_0 := (HB.out.cell (World.block_lt_of_cell? w _ hx398_0)).trans hx398_0
                    replace hx398_1 := (HB.out.cell (World.block_lt_of_cell? w _ hx398_1)).trans hx398_1
                    replace hx398_2 := (HB.out.cell (World.block_lt_of_cell? w _ hx398_2)).trans hx398_2
                    replace hx398_3 := (HB.out.cell (World.block_lt_of_cell? w _ hx398_3)).trans hx398_3
                    replace hx398_4 := (HB.out.cell (World.block_lt_of_cell? w _ hx398_4)).trans hx398_4
                    replace hx398_5 := (HB.out.cell (World.block_lt_of_cell? w _ hx398_5)).trans hx398_5
                    replace p398 := eq_true p398
                    replace q398 := eq_true q398
                    have p400 : 0 ≤ (x5_2 : Int) := of_decide_eq_true (by first | (with_reducible assumption) | assumption)
                    have q400 : x5_2 < (l0.length : Int) := of_decide_eq_true (by first | (with_reducible assumption) | assumption)
                    obtain ⟨ad400, e400, hx400_0, hx400_1, hx400_2, hx400_3, hx400_4, hx400_5⟩ := at_T35 HR0.out x5_2 p400 q400
                    obtain rfl : ad398 = ad400 := (by injection e400)
                    replace hx400_0 := (HB.out.cell (World.block_lt_of_cell? w _ hx400_0)).trans hx400_0
                    replace hx400_1 := (HB.out.cell (World.block_lt_of_cell? w _ hx400_1)).trans hx400_1
                    replace hx400_2 := (HB.out.cell (World.block_lt_of_cell? w _ hx400_2)).trans hx400_2
                    replace hx400_3 := (HB.out.cell (World.block_lt_of_cell? w _ hx400_3)).trans hx400_3
                    replace hx400_4 := (HB.out.cell (World.block_lt_of_cell? w _ hx400_4)).trans hx400_4
                    replace hx400_5 := (HB.out.cell (World.block_lt_of_cell? w _ hx400_5)).trans hx400_5
                    replace p400 := eq_true p400
                    replace q400 := eq_true q400
                    go_wp2_with (first | ((with_reducible refine gate_callee (f := 11) rfl ?_); refine goesB (some 44) rfl rfl Try.func11 #[] rfl ?_; (with_reducible refine (stickfullaw13_head.calls k2  t401 _ A15.out).mono ?_); rintro e w16 ⟨rfl, hb⟩; refine ⟨_, rfl, ?_⟩; replace HB := bh HB hb; (try clear hb); (try clear hb2); (try clear hk); (try clear hi)))
                    go_ret
                    exact ⟨by first | rfl | (simp [errW_none, errW_some] <;> rfl) | (simp [*, errW_none, errW_some] <;> rfl), by repeat (first | (with_reducible first | exact HB.out | apply below_alloc | apply pw_below_drewN | apply below_drew1) | exact HB.out)⟩
                  · rw [if_neg c14] at H
                    have c14b0 : decide (1099511627776 < ((rd_T35 l0 x5_2).f3)) = false := decide_eq_false c14
                    clear c14
                    have H' := Aside0.mk H
                    clear H
                    have p398 : 0 ≤ (x5_2 : Int) := of_decide_eq_true (by first | (with_reducible assumption) | assumption)
                    have q398 : x5_2 < (l0.length : Int) := of_decide_eq_true (by first | (with_reducible assumption) | assumption)
                    obtain ⟨ad398, e398, hx398_0, hx398_1, hx398_2, hx398_3, hx398_4, hx398_5⟩ := at_T35 HR0.out x5_2 p398 q398
                    cases e398
                    replace hx398_0 := (HB.out.cell (World.block_lt_of_cell? w _ hx398_0)).trans hx398_0
                    replace hx398_1 := (HB.out.cell (World.block_lt_of_cell? w _ hx398_1)).trans hx398_1
                    replace hx398_2 := (HB.out.cell (World.block_lt_of_cell? w _ hx398_2)).trans hx398_2
                    replace hx398_3 := (HB.out.cell (World.block_lt_of_cell? w _ hx398_3)).trans hx398_3
                    replace hx398_4 := (HB.out.cell (World.block_lt_of_cell? w _ hx398_4)).trans hx398_4
                    replace hx398_5 := (HB.out.cell (World.block_lt_of_cell? w _ hx398_5)).trans hx398_5
                    replace p398 := eq_true p398
                    replace q398 := eq_true q398
                    have p400 : 0 ≤ (x5_2 : Int) := of_decide_eq_true (by first | (with_reducible assumption) | assumption)
                    have q400 : x5_2 < (l0.length : Int) := of_decide_eq_true (by first | (with_reducible assumption) | assumption)
                    obtain ⟨ad400, e400, hx400_0, hx400_1, hx400_2, hx400_3, hx400_4, hx400_5⟩ := at_T35 HR0.out x5_2 p400 q400
                    obtain rfl : ad398 = ad400 := (by injection e400)
                    replace hx400_0 := (HB.out.cell (World.block_lt_of_cell? w _ hx400_0)).trans hx400_0
                    replace hx400_1 := (HB.out.cell (World.block_lt_of_cell? w _ hx400_1)).trans hx400_1
                    replace hx400_2 := (HB.out.cell (World.block_lt_of_cell? w _ hx400_2)).trans hx400_2
                    replace hx400_3 := (HB.out.cell (World.block_lt_of_cell? w _ hx400_3)).trans hx400_3
                    replace hx400_4 := (HB.out.cell (World.block_lt_of_cell? w _ hx400_4)).trans hx400_4
                    replace hx400_5 := (HB.out.cell (World.block_lt_of_cell? w _ hx400_5)).trans hx400_5
                    replace p400 := eq_true p400
                    replace q400 := eq_true q400
                    go_wp2
                    go_roundg k2
                    case measure => have := HJ2.out; have := HK2.out; omega
                    case rel => exact ⟨(wrap64 (x5_2 + 1)), (by first | rfl | (simp; done) | (simp [*]; done)), H', ⟨by have := HJ2.out; have := HK2.out; omega⟩, ⟨by repeat (first | (with_reducible first | exact HB.out | apply below_alloc | apply pw_below_drewN | apply below_drew1) | exact HB.out)⟩⟩
              · rw [if_neg c10] at H
                exact absurd H (by simp)
            · rw [if_neg c9] at H
              have c9b0 : decide (x5_2 < (l0.length : Int)) = false := decide_eq_false c9
              clear c9
              replace H := Option.bind_eq_some_iff.mp H
              obtain ⟨⟨t402, t403⟩, A170, H⟩ := H
              replace H : ((trim_Goes.f l0 a1).bind fun bt404 => ((tabs_End.f l0 ([] : List Int) a1).bind fun bt406 => (if t403 = 0 then (if bt404.2 = 0 then (if bt406.2 = 0 then (if a1 ≤ t402 then (if t402 ≤ bt404.1 then (if bt404.1 ≤ bt406.1 then ((trim_Blank.f k2 l0).bind fun t408 => (if t408 = true then ((stickfullaw13_edged.f k2 l0).bind fun t409 => (if t409 = true then ((stickfullaw13_head.f k2).bind fun t410 => (some t410)) else (if t402 = a1 then ((stickfullaw13_head.f k2).bind fun t411 => (some t411)) else (some false)))) else ((stickfullaw13_head.f k2).bind fun t412 => (some t412)))) else (some false)) else (some false)) else (some false)) else (some false)) else (some false)) else (some false)))) = some r := H
              have A17 := Aside0.mk A170
              clear A170
              replace H := Option.bind_eq_some_iff.mp H
              obtain ⟨⟨t404, t405⟩, A180, H⟩ := H
              replace H : ((tabs_End.f l0 ([] : List Int) a1).bind fun bt406 => (if t403 = 0 then (if t405 = 0 then (if bt406.2 = 0 then (if a1 ≤ t402 then (if t402 ≤ t404 then (if t404 ≤ bt406.1 then ((trim_Blank.f k2 l0).bind fun t408 => (if t408 = true then ((stickfullaw13_edged.f k2 l0).bind fun t409 => (if t409 = true then ((stickfullaw13_head.f k2).bind fun t410 => (some t410)) else (if t402 = a1 then ((stickfullaw13_head.f k2).bind fun t411 => (some t411)) else (some false)))) else ((stickfullaw13_head.f k2).bind fun t412 => (some t412)))) else (some false)) else (some false)) else (some false)) else (some false)) else (some false)) else (some false))) = some r := H
              have A18 := Aside0.mk A180
              clear A180
              replace H := Option.bind_eq_some_iff.mp H
              obtain ⟨⟨t406, t407⟩, A190, H⟩ := H
              replace H : (if t403 = 0 then (if t405 = 0 then (if t407 = 0 then (if a1 ≤ t402 then (if t402 ≤ t404 then (if t404 ≤ t406 then ((trim_Blank.f k2 l0).bind fun t408 => (if t408 = true then ((stickfullaw13_edged.f k2 l0).bind fun t409 => (if t409 = true then ((stickfullaw13_head.f k2).bind fun t410 => (some t410)) else (if t402 = a1 then ((stickfullaw13_head.f k2).bind fun t411 => (some t411)) else (some false)))) else ((stickfullaw13_head.f k2).bind fun t412 => (some t412)))) else (some false)) else (some false)) else (some false)) else (some false)) else (some false)) else (some false)) = some r := H
              have A19 := Aside0.mk A190
              clear A190
              by_cases c20 : t403 = 0
              · rw [if_pos c20] at H
                have c20b0 : (t403 == 0) = true := beq_iff_eq.mpr c20
                have c20b1 : (t403 != 0) = false := bne_eq_false_iff_eq.mpr c20
                clear c20
                by_cases c21 : t405 = 0
                · rw [if_pos c21] at H
                  have c21b0 : (t405 == 0) = true := beq_iff_eq.mpr c21
                  have c21b1 : (t405 != 0) = false := bne_eq_false_iff_eq.mpr c21
                  clear c21
                  by_cases c22 : t407 = 0
                  · rw [if_pos c22] at H
                    have c22b0 : (t407 == 0) = true := beq_iff_eq.mpr c22
                    have c22b1 : (t407 != 0) = false := bne_eq_false_iff_eq.mpr c22
                    clear c22
                    by_cases c23 : a1 ≤ t402
                    · rw [if_pos c23] at H
                      have c23b0 : decide (a1 ≤ t402) = true := decide_eq_true c23
                      clear c23
                      by_cases c24 : t402 ≤ t404
                      · rw [if_pos c24] at H
                        have c24b0 : decide (t402 ≤ t404) = true := decide_eq_true c24
                        clear c24
                        by_cases c25 : t404 ≤ t406
                        · rw [if_pos c25] at H
                          have c25b0 : decide (t404 ≤ t406) = true := decide_eq_true c25
                          clear c25
                          replace H := Option.bind_eq_some_iff.mp H
                          obtain ⟨t408, A260, H⟩ := H
                          replace H : (if t408 = true then ((stickfullaw13_edged.f k2 l0).bind fun t409 => (if t409 = true then ((stickfullaw13_head.f k2).bind fun t410 => (some t410)) else (if t402 = a1 then ((stickfullaw13_head.f k2).bind fun t411 => (some t411)) else (some false)))) else ((stickfullaw13_head.f k2).bind fun t412 => (some t412))) = some r := H
                          have A26 := Aside0.mk A260
                          clear A260
                          by_cases c27 : t408 = true
                          · subst c27
                            have H1 : ((stickfullaw13_edged.f k2 l0).bind fun t409 => (if t409 = true then ((stickfullaw13_head.f k2).bind fun t410 => (some t410)) else (if t402 = a1 then ((stickfullaw13_head.f k2).bind fun t411 => (some t411)) else (some false)))) = some r := by rw [if_pos rfl] at H; exact H
                            clear H
                            have H := H1
                            clear H1
                            replace H := Option.bind_eq_some_iff.mp H
                            obtain ⟨t409, A280, H⟩ := H
                            replace H : (if t409 = true then ((stickfullaw13_head.f k2).bind fun t410 => (some t410)) else (if t402 = a1 then ((stickfullaw13_head.f k2).bind fun t411 => (some t411)) else (some false))) = some r := H
                            have A28 := Aside0.mk A280
                            clear A280
                            by_cases c29 : t409 = true
                            · subst c29
                              have H1 : ((stickfullaw13_head.f k2).bind fun t410 => (some t410)) = some r := by rw [if_pos rfl] at H; exact H
                              clear H
                              have H := H1
                              clear H1
                              replace H := Option.bind_eq_some_iff.mp H
                              obtain ⟨t410, A300, H⟩ := H
                              replace H : (some t410) = some r := H
                              have A30 := Aside0.mk A300
                              clear A300
                              obtain rfl := Option.some.inj H
                              go_wp2_with (first | ((with_reducible refine gate_callee (f := 12) rfl ?_); refine goesB (some 48) rfl rfl Try.func12 #[.slice A0 l0.length c0, .int .i64 a1] rfl ?_; (with_reducible refine (trim_Fits.calls _ _ l0 a1 t402 t403 _ ?side1 ?side2 A17.out).mono ?_); (case side1 => repeat (first | exact (Kd.C_below HR0.out HB.out) | (with_reducible refine Kd.C_alloc ?_ _) | (with_reducible refine Kd.C_drewN ?_ _) | (with_reducible refine Kd.C_drew ?_))); (case side2 => exact HC0.out); rintro e w31 ⟨rfl, hb⟩; refine ⟨_, rfl, ?_⟩; replace HB := bh HB hb; (try clear hb); (try clear hb2); (try clear hk); (try clear hi)) | ((with_reducible refine gate_callee (f := 14) rfl ?_); refine goesB (some 54) rfl rfl Try.func14 #[.slice A0 l0.length c0, .int .i64 a1] rfl ?_; (with_reducible refine (trim_Goes.calls _ _ l0 a1 t404 t405 _ ?side1 ?side2 A18.out).mono ?_); (case side1 => repeat (first | exact (Kd.C_below HR0.out HB.out) | (with_reducible refine Kd.C_alloc ?_ _) | (with_reducible refine Kd.C_drewN ?_ _) | (with_reducible refine Kd.C_drew ?_))); (case side2 => exact HC0.out); rintro e w32 ⟨rfl, hb⟩; refine ⟨_, rfl, ?_⟩; replace HB := bh HB hb; (try clear hb); (try clear hb2); (try clear hk); (try clear hi)) | ((with_reducible refine gate_callee (f := 22) rfl ?_); refine goesB (some 60) rfl rfl Try.func22 #[.slice A0 l0.length c0, .slice none 0 0, .int .i64 a1] rfl ?_; (refine (tabs_End.calls _ _ l0 _ _ ([] : List Int) a1 t406 t407 _ ?side1 ?side2 ?side3 ?side4 A19.out).mono ?_); (case side1 => repeat (first | exact (Kd.C_below HR0.out HB.out) | (with_reducible refine Kd.C_alloc ?_ _) | (with_reducible refine Kd.C_drewN ?_ _) | (with_reducible refine Kd.C_drew ?_))); (case side2 => exact HC0.out); (case side3 => exact Kd.C_nil _ _); (case side4 => exact Nat.le_refl _); rintro e w33 ⟨rfl, hb⟩; refine ⟨_, rfl, ?_⟩; replace HB := bh HB hb; (try clear hb); (try clear hb2); (try clear hk); (try clear hi); (try clear A19)) | (go_at_call 19; (with_reducible refine (trim_Blank.calls k2 _ _ l0 true _ ?side1 ?side2 A26.out).mono ?_); (case side1 => repeat (first | exact (Kd.C_below HR0.out HB.out) | (with_reducible refine Kd.C_alloc ?_ _) | (with_reducible refine Kd.C_drewN ?_ _) | (with_reducible refine Kd.C_drew ?_))); (case side2 => exact HC0.out); rintro e w34 ⟨rfl, hb⟩; replace HB := bh HB hb; (try clear hb); (try clear hb2); (try clear hk); (try clear hi)) | (go_at_call 23; (with_reducible refine (stickfullaw13_edged.calls k2 _ _ l0 true _ ?side1 ?side2 A28.out).mono ?_); (case side1 => repeat (first | exact (Kd.C_below HR0.out HB.out) | (with_reducible refine Kd.C_alloc ?_ _) | (with_reducible refine Kd.C_drewN ?_ _) | (with_reducible refine Kd.C_drew ?_))); (case side2 => exact HC0.out); rintro e w' ⟨rfl, ⟨nd, rfl⟩⟩) | (go_at_call 11; (with_reducible refine (stickfullaw13_head.calls k2  t410 _ A30.out).mono ?_); rintro e w35 ⟨rfl, hb⟩; replace HB := bh HB hb; (try clear hb); (try clear hb2); (try clear hk); (try clear hi)))
                              go_ret
                              exact ⟨by first | rfl | (simp [errW_none, errW_some] <;> rfl) | (simp [*, errW_none, errW_some] <;> rfl), by repeat (first | (with_reducible first | exact HB.out | apply below_alloc | apply pw_below_drewN | apply below_drew1) | exact HB.out)⟩
                            · replace c29 := Bool.eq_false_iff.mpr c29
                              subst c29
                              have H1 : (if t402 = a1 then ((stickfullaw13_head.f k2).bind fun t411 => (some t411)) else (some false)) = some r := by rw [if_neg (show ¬ (false = true) by decide)] at H; exact H
                              clear H
                              have H := H1
                              clear H1
                              by_cases c36 : t402 = a1
                              · rw [if_pos c36] at H
                                have c36b0 : (t402 == a1) = true := beq_iff_eq.mpr c36
                                have c36b1 : (t402 != a1) = false := bne_eq_false_iff_eq.mpr c36
                                clear c36
                                replace H := Option.bind_eq_some_iff.mp H
                                obtain ⟨t411, A370, H⟩ := H
                                replace H : (some t411) = some r := H
                                have A37 := Aside0.mk A370
                                clear A370
                                obtain rfl := Option.some.inj H
                                go_wp2_with (first | ((with_reducible refine gate_callee (f := 12) rfl ?_); refine goesB (some 48) rfl rfl Try.func12 #[.slice A0 l0.length c0, .int .i64 a1] rfl ?_; (with_reducible refine (trim_Fits.calls _ _ l0 a1 t402 t403 _ ?side1 ?side2 A17.out).mono ?_); (case side1 => repeat (first | exact (Kd.C_below HR0.out HB.out) | (with_reducible refine Kd.C_alloc ?_ _) | (with_reducible refine Kd.C_drewN ?_ _) | (with_reducible refine Kd.C_drew ?_))); (case side2 => exact HC0.out); rintro e w38 ⟨rfl, hb⟩; refine ⟨_, rfl, ?_⟩; replace HB := bh HB hb; (try clear hb); (try clear hb2); (try clear hk); (try clear hi)) | ((with_reducible refine gate_callee (f := 14) rfl ?_); refine goesB (some 54) rfl rfl Try.func14 #[.slice A0 l0.length c0, .int .i64 a1] rfl ?_; (with_reducible refine (trim_Goes.calls _ _ l0 a1 t404 t405 _ ?side1 ?side2 A18.out).mono ?_); (case side1 => repeat (first | exact (Kd.C_below HR0.out HB.out) | (with_reducible refine Kd.C_alloc ?_ _) | (with_reducible refine Kd.C_drewN ?_ _) | (with_reducible refine Kd.C_drew ?_))); (case side2 => exact HC0.out); rintro e w39 ⟨rfl, hb⟩; refine ⟨_, rfl, ?_⟩; replace HB := bh HB hb; (try clear hb); (try clear hb2); (try clear hk); (try clear hi)) | ((with_reducible refine gate_callee (f := 22) rfl ?_); refine goesB (some 60) rfl rfl Try.func22 #[.slice A0 l0.length c0, .slice none 0 0, .int .i64 a1] rfl ?_; (refine (tabs_End.calls _ _ l0 _ _ ([] : List Int) a1 t406 t407 _ ?side1 ?side2 ?side3 ?side4 A19.out).mono ?_); (case side1 => repeat (first | exact (Kd.C_below HR0.out HB.out) | (with_reducible refine Kd.C_alloc ?_ _) | (with_reducible refine Kd.C_drewN ?_ _) | (with_reducible refine Kd.C_drew ?_))); (case side2 => exact HC0.out); (case side3 => exact Kd.C_nil _ _); (case side4 => exact Nat.le_refl _); rintro e w40 ⟨rfl, hb⟩; refine ⟨_, rfl, ?_⟩; replace HB := bh HB hb; (try clear hb); (try clear hb2); (try clear hk); (try clear hi); (try clear A19)) | (go_at_call 19; (with_reducible refine (trim_Blank.calls k2 _ _ l0 true _ ?side1 ?side2 A26.out).mono ?_); (case side1 => repeat (first | exact (Kd.C_below HR0.out HB.out) | (with_reducible refine Kd.C_alloc ?_ _) | (with_reducible refine Kd.C_drewN ?_ _) | (with_reducible refine Kd.C_drew ?_))); (case side2 => exact HC0.out); rintro e w41 ⟨rfl, hb⟩; replace HB := bh HB hb; (try clear hb); (try clear hb2); (try clear hk); (try clear hi)) | (go_at_call 23; (with_reducible refine (stickfullaw13_edged.calls k2 _ _ l0 false _ ?side1 ?side2 A28.out).mono ?_); (case side1 => repeat (first | exact (Kd.C_below HR0.out HB.out) | (with_reducible refine Kd.C_alloc ?_ _) | (with_reducible refine Kd.C_drewN ?_ _) | (with_reducible refine Kd.C_drew ?_))); (case side2 => exact HC0.out); rintro e w' ⟨rfl, ⟨nd, rfl⟩⟩) | (go_at_call 11; (with_reducible refine (stickfullaw13_head.calls k2  t411 _ A37.out).mono ?_); rintro e w42 ⟨rfl, hb⟩; replace HB := bh HB hb; (try clear hb); (try clear hb2); (try clear hk); (try clear hi)))
                                go_ret
                                exact ⟨by first | rfl | (simp [errW_none, errW_some] <;> rfl) | (simp [*, errW_none, errW_some] <;> rfl), by repeat (first | (with_reducible first | exact HB.out | apply below_alloc | apply pw_below_drewN | apply below_drew1) | exact HB.out)⟩
                              · rw [if_neg c36] at H
                                have c36b0 : (t402 == a1) = false := beq_eq_false_iff_ne.mpr c36
                                have c36b1 : (t402 != a1) = true := bne_iff_ne.mpr c36
                                exact absurd ((Option.some.inj H).trans HR_.out) (by decide)
                          · replace c27 := Bool.eq_false_iff.mpr c27
                            subst c27
                            have H1 : ((stickfullaw13_head.f k2).bind fun t412 => (some t412)) = some r := by rw [if_neg (show ¬ (false = true) by decide)] at H; exact H
                            clear H
                            have H := H1
                            clear H1
                            replace H := Option.bind_eq_some_iff.mp H
                            obtain ⟨t412, A430, H⟩ := H
                            replace H : (some t412) = some r := H
                            have A43 := Aside0.mk A430
                            clear A430
                            obtain rfl := Option.some.inj H
                            go_wp2_with (first | ((with_reducible refine gate_callee (f := 12) rfl ?_); refine goesB (some 48) rfl rfl Try.func12 #[.slice A0 l0.length c0, .int .i64 a1] rfl ?_; (with_reducible refine (trim_Fits.calls _ _ l0 a1 t402 t403 _ ?side1 ?side2 A17.out).mono ?_); (case side1 => repeat (first | exact (Kd.C_below HR0.out HB.out) | (with_reducible refine Kd.C_alloc ?_ _) | (with_reducible refine Kd.C_drewN ?_ _) | (with_reducible refine Kd.C_drew ?_))); (case side2 => exact HC0.out); rintro e w44 ⟨rfl, hb⟩; refine ⟨_, rfl, ?_⟩; replace HB := bh HB hb; (try clear hb); (try clear hb2); (try clear hk); (try clear hi)) | ((with_reducible refine gate_callee (f := 14) rfl ?_); refine goesB (some 54) rfl rfl Try.func14 #[.slice A0 l0.length c0, .int .i64 a1] rfl ?_; (with_reducible refine (trim_Goes.calls _ _ l0 a1 t404 t405 _ ?side1 ?side2 A18.out).mono ?_); (case side1 => repeat (first | exact (Kd.C_below HR0.out HB.out) | (with_reducible refine Kd.C_alloc ?_ _) | (with_reducible refine Kd.C_drewN ?_ _) | (with_reducible refine Kd.C_drew ?_))); (case side2 => exact HC0.out); rintro e w45 ⟨rfl, hb⟩; refine ⟨_, rfl, ?_⟩; replace HB := bh HB hb; (try clear hb); (try clear hb2); (try clear hk); (try clear hi)) | ((with_reducible refine gate_callee (f := 22) rfl ?_); refine goesB (some 60) rfl rfl Try.func22 #[.slice A0 l0.length c0, .slice none 0 0, .int .i64 a1] rfl ?_; (refine (tabs_End.calls _ _ l0 _ _ ([] : List Int) a1 t406 t407 _ ?side1 ?side2 ?side3 ?side4 A19.out).mono ?_); (case side1 => repeat (first | exact (Kd.C_below HR0.out HB.out) | (with_reducible refine Kd.C_alloc ?_ _) | (with_reducible refine Kd.C_drewN ?_ _) | (with_reducible refine Kd.C_drew ?_))); (case side2 => exact HC0.out); (case side3 => exact Kd.C_nil _ _); (case side4 => exact Nat.le_refl _); rintro e w46 ⟨rfl, hb⟩; refine ⟨_, rfl, ?_⟩; replace HB := bh HB hb; (try clear hb); (try clear hb2); (try clear hk); (try clear hi); (try clear A19)) | (go_at_call 19; (with_reducible refine (trim_Blank.calls k2 _ _ l0 false _ ?side1 ?side2 A26.out).mono ?_); (case side1 => repeat (first | exact (Kd.C_below HR0.out HB.out) | (with_reducible refine Kd.C_alloc ?_ _) | (with_reducible refine Kd.C_drewN ?_ _) | (with_reducible refine Kd.C_drew ?_))); (case side2 => exact HC0.out); rintro e w47 ⟨rfl, hb⟩; replace HB := bh HB hb; (try clear hb); (try clear hb2); (try clear hk); (try clear hi)) | (go_at_call 11; (with_reducible refine (stickfullaw13_head.calls k2  t412 _ A43.out).mono ?_); rintro e w48 ⟨rfl, hb⟩; replace HB := bh HB hb; (try clear hb); (try clear hb2); (try clear hk); (try clear hi)))
                            go_ret
                            exact ⟨by first | rfl | (simp [errW_none, errW_some] <;> rfl) | (simp [*, errW_none, errW_some] <;> rfl), by repeat (first | (with_reducible first | exact HB.out | apply below_alloc | apply pw_below_drewN | apply below_drew1) | exact HB.out)⟩
                        · rw [if_neg c25] at H
                          have c25b0 : decide (t404 ≤ t406) = false := decide_eq_false c25
                          clear c25
                          exact absurd ((Option.some.inj H).trans HR_.out) (by decide)
                      · rw [if_neg c24] at H
                        have c24b0 : decide (t402 ≤ t404) = false := decide_eq_false c24
                        clear c24
                        exact absurd ((Option.some.inj H).trans HR_.out) (by decide)
                    · rw [if_neg c23] at H
                      have c23b0 : decide (a1 ≤ t402) = false := decide_eq_false c23
                      clear c23
                      exact absurd ((Option.some.inj H).trans HR_.out) (by decide)
                  · rw [if_neg c22] at H
                    have c22b0 : (t407 == 0) = false := beq_eq_false_iff_ne.mpr c22
                    have c22b1 : (t407 != 0) = true := bne_iff_ne.mpr c22
                    exact absurd ((Option.some.inj H).trans HR_.out) (by decide)
                · rw [if_neg c21] at H
                  have c21b0 : (t405 == 0) = false := beq_eq_false_iff_ne.mpr c21
                  have c21b1 : (t405 != 0) = true := bne_iff_ne.mpr c21
                  exact absurd ((Option.some.inj H).trans HR_.out) (by decide)
              · rw [if_neg c20] at H
                have c20b0 : (t403 == 0) = false := beq_eq_false_iff_ne.mpr c20
                have c20b1 : (t403 != 0) = true := bne_iff_ne.mpr c20
                exact absurd ((Option.some.inj H).trans HR_.out) (by decide)

end Go.Proofs.Ytkegnlidlabjeaa.HTrim
