-- Written by this claim's own program over the kit's print.
import Derived.Test.YtkegnlidlabjeaaHIntrb
import Derived.Test.YtkegnlidlabjeaaHIntrx0
import Derived.Test.YtkegnlidlabjeaaHIntrx14
import Derived.Test.YtkegnlidlabjeaaHIntrx15
namespace Go.Proofs.Ytkegnlidlabjeaa.HIntr
open Go.RowKit Go.Proofs.YtkegnlidlabjeaaW.PrintWords Go.Proofs.YtkegnlidlabjeaaW.PrintLast Go.Proofs.YtkegnlidlabjeaaW.PrintMore Go.Proofs.Ytkegnlidlabjeaa.Hand
attribute [local go_sem] max2_int min2_int max_two min_two max_three min_three max_four min_four   -- for this text's walks alone
set_option linter.unusedVariables false
set_option linter.unusedSimpArgs false

/-! ### stickfullaw21_IntrinsicSofter: function 8 -/
mutual
def stickfullaw21_IntrinsicSofter.j0 : Nat → List (S35) → Int → Int → Bool → Option (Bool)
  | 0, _, _, _, _ => none
  | k + 1, x0, x1, x2, x26 => if x26 = true then ((stickfullaw21_head.f k).bind fun t389 => (some t389)) else (stickfullaw21_IntrinsicSofter.l0 k x0 x1 x2 0)
def stickfullaw21_IntrinsicSofter.l0 : Nat → List (S35) → Int → Int → Int → Option (Bool)
  | 0, _, _, _, _ => none
  | k + 1, x0, x1, x2, x7 => if x7 < (x0.length : Int) then (if 0 ≤ x7 then (if ((rd_T35 x0 x7).f3) < 0 then ((stickfullaw21_head.f k).bind fun t391 => (some t391)) else (if ((rd_T35 x0 x7).f3) > 1099511627776 then ((stickfullaw21_head.f k).bind fun t393 => (some t393)) else (stickfullaw21_IntrinsicSofter.l0 k x0 x1 x2 (wrap64 (x7 + 1))))) else (none)) else (if (x0.length : Int) = 0 then (none) else ((some (([] : List (S35)) : List (S35))).bind fun y394 => (if y394.length + x0.length < 3518437208883 then ((some (y394 ++ x0 : List (S35))).bind fun y397 => (if 0 ≤ (Int.tmod (wrap64 (x1)) (x0.length : Int)) then (if (Int.tmod (wrap64 (x1)) (x0.length : Int)) < (y397.length : Int) then ((some (y397.set ((Int.tmod (wrap64 (x1)) (x0.length : Int)) : Int).toNat (⟨(rd_T35 y397 (Int.tmod (wrap64 (x1)) (x0.length : Int))).f0, (rd_T35 y397 (Int.tmod (wrap64 (x1)) (x0.length : Int))).f1, (rd_T35 y397 (Int.tmod (wrap64 (x1)) (x0.length : Int))).f2, (rd_T35 y397 (Int.tmod (wrap64 (x1)) (x0.length : Int))).f3, true, (rd_T35 y397 (Int.tmod (wrap64 (x1)) (x0.length : Int))).f5⟩ : S35) : List (S35))).bind fun y400 => ((some (([] : List (S35)) : List (S35))).bind fun y401 => (if y401.length + x0.length < 3518437208883 then ((some (y401 ++ x0 : List (S35))).bind fun y404 => (if (Int.tmod (wrap64 (x1)) (x0.length : Int)) < (y404.length : Int) then (if ((rd_T35 y404 (Int.tmod (wrap64 (x1)) (x0.length : Int))).f0) = 4 then (stickfullaw21_IntrinsicSofter.j2 k x0 y400 y404) else (stickfullaw21_IntrinsicSofter.j2 k x0 y400 (y404.set ((Int.tmod (wrap64 (x1)) (x0.length : Int)) : Int).toNat (⟨(rd_T35 y404 (Int.tmod (wrap64 (x1)) (x0.length : Int))).f0, (rd_T35 y404 (Int.tmod (wrap64 (x1)) (x0.length : Int))).f1, (rd_T35 y404 (Int.tmod (wrap64 (x1)) (x0.length : Int))).f2, wrap64 (((rd_T35 y404 (Int.tmod (wrap64 (x1)) (x0.length : Int))).f3) + (wrap64 (x2))), (rd_T35 y404 (Int.tmod (wrap64 (x1)) (x0.length : Int))).f4, (rd_T35 y404 (Int.tmod (wrap64 (x1)) (x0.length : Int))).f5⟩ : S35)))) else (none))) else (none)))) else (none)) else (none))) else (none))))
def stickfullaw21_IntrinsicSofter.j2 : Nat → List (S35) → List (S35) → List (S35) → Option (Bool)
  | 0, _, _, _ => none
  | k + 1, x0, x9, x10 => (intrinsic_MinMax.f x0).bind fun bt410 => ((intrinsic_MinMax.f x9).bind fun bt413 => ((intrinsic_MinMax.f x10).bind fun bt416 => (if bt410.2.2 = 0 then (if bt413.2.2 = 0 then (if bt416.2.2 = 0 then (if bt413.1 ≤ bt410.1 then (if bt413.2.1 = bt410.2.1 then (if bt416.1 ≥ bt410.1 then (if bt416.2.1 ≥ bt410.2.1 then ((stickfullaw21_head.f k).bind fun t419 => (some t419)) else (some false)) else (some false)) else (some false)) else (some false)) else (some false)) else (some false)) else (some false))))
end
def stickfullaw21_IntrinsicSofter.f (k : Nat) (l0 : List (S35)) (a1 a2 : Int) : Option (Bool) := (stickfullaw21_great.f l0).bind fun t388 => (if t388 = true then (stickfullaw21_IntrinsicSofter.j0 k l0 a1 a2 true) else (stickfullaw21_IntrinsicSofter.j0 k l0 a1 a2 ((l0.length : Int) == 0)))
theorem stickfullaw21_IntrinsicSofter.mono_l : ∀ k, (∀ y0 y1 y2 y3, LeO (stickfullaw21_IntrinsicSofter.j0 k y0 y1 y2 y3) (stickfullaw21_IntrinsicSofter.j0 (k + 1) y0 y1 y2 y3)) ∧ (∀ y0 y1 y2 y3, LeO (stickfullaw21_IntrinsicSofter.l0 k y0 y1 y2 y3) (stickfullaw21_IntrinsicSofter.l0 (k + 1) y0 y1 y2 y3)) ∧ (∀ y0 y1 y2, LeO (stickfullaw21_IntrinsicSofter.j2 k y0 y1 y2) (stickfullaw21_IntrinsicSofter.j2 (k + 1) y0 y1 y2))
  | 0 => ⟨fun _ _ _ _ r h => by simp [stickfullaw21_IntrinsicSofter.j0] at h, fun _ _ _ _ r h => by simp [stickfullaw21_IntrinsicSofter.l0] at h, fun _ _ _ r h => by simp [stickfullaw21_IntrinsicSofter.j2] at h⟩
  | k + 1 => by
    obtain ⟨ih0, ih1, ih2⟩ := stickfullaw21_IntrinsicSofter.mono_l k
    refine ⟨?_, ?_, ?_⟩
    · intro y0 y1 y2 y3
      unfold stickfullaw21_IntrinsicSofter.j0
      repeat' first
      | (with_reducible exact ih0 _ _ _ _)
      | (with_reducible exact ih1 _ _ _ _)
      | (with_reducible exact ih2 _ _ _)
      | (with_reducible exact stickfullaw21_head.mono _)
      | (with_reducible exact LeO.refl _)
      | (with_reducible exact LeO.none _)
      | (with_reducible refine LeO.ite ?_ ?_)
      | (with_reducible refine LeO.bind ?_ (fun _ => ?_))
      | exact ih0 _ _ _ _
      | exact ih1 _ _ _ _
      | exact ih2 _ _ _
      | exact stickfullaw21_head.mono _
      | exact LeO.none _
      | refine LeO.ite ?_ ?_
      | refine LeO.bind ?_ (fun _ => ?_)
    · intro y0 y1 y2 y3
      unfold stickfullaw21_IntrinsicSofter.l0
      repeat' first
      | (with_reducible exact ih0 _ _ _ _)
      | (with_reducible exact ih1 _ _ _ _)
      | (with_reducible exact ih2 _ _ _)
      | (with_reducible exact stickfullaw21_head.mono _)
      | (with_reducible exact LeO.refl _)
      | (with_reducible exact LeO.none _)
      | (with_reducible refine LeO.ite ?_ ?_)
      | (with_reducible refine LeO.bind ?_ (fun _ => ?_))
      | exact ih0 _ _ _ _
      | exact ih1 _ _ _ _
      | exact ih2 _ _ _
      | exact stickfullaw21_head.mono _
      | exact LeO.none _
      | refine LeO.ite ?_ ?_
      | refine LeO.bind ?_ (fun _ => ?_)
    · intro y0 y1 y2
      unfold stickfullaw21_IntrinsicSofter.j2
      repeat' first
      | (with_reducible exact ih0 _ _ _ _)
      | (with_reducible exact ih1 _ _ _ _)
      | (with_reducible exact ih2 _ _ _)
      | (with_reducible exact stickfullaw21_head.mono _)
      | (with_reducible exact LeO.refl _)
      | (with_reducible exact LeO.none _)
      | (with_reducible refine LeO.ite ?_ ?_)
      | (with_reducible refine LeO.bind ?_ (fun _ => ?_))
      | exact ih0 _ _ _ _
      | exact ih1 _ _ _ _
      | exact ih2 _ _ _
      | exact stickfullaw21_head.mono _
      | exact LeO.none _
      | refine LeO.ite ?_ ?_
      | refine LeO.bind ?_ (fun _ => ?_)
theorem stickfullaw21_IntrinsicSofter.mono : ∀ a0 a1 a2 k, LeO (stickfullaw21_IntrinsicSofter.f k a0 a1 a2) (stickfullaw21_IntrinsicSofter.f (k + 1) a0 a1 a2) := by
  intro a0 a1 a2 k
  obtain ⟨ih0, ih1, ih2⟩ := stickfullaw21_IntrinsicSofter.mono_l k
  unfold stickfullaw21_IntrinsicSofter.f
  repeat' first
      | (with_reducible exact ih0 _ _ _ _)
      | (with_reducible exact ih1 _ _ _ _)
      | (with_reducible exact ih2 _ _ _)
      | (with_reducible exact stickfullaw21_head.mono _)
      | (with_reducible exact LeO.refl _)
      | (with_reducible exact LeO.none _)
      | (with_reducible refine LeO.ite ?_ ?_)
      | (with_reducible refine LeO.bind ?_ (fun _ => ?_))
      | exact ih0 _ _ _ _
      | exact ih1 _ _ _ _
      | exact ih2 _ _ _
      | exact stickfullaw21_head.mono _
      | exact LeO.none _
      | refine LeO.ite ?_ ?_
      | refine LeO.bind ?_ (fun _ => ?_)
set_option maxHeartbeats 8000000 in
set_option maxRecDepth 100000 in
theorem stickfullaw21_IntrinsicSofter.calls_t (k : Nat) (A0 : Option Addr) (c0 : Nat) (l0 : List (S35)) (a1 a2 : Int) (r : Bool) (w : World) (hr0 : Kd.C k35 w A0 l0.length l0) (hc0 : l0.length ≤ c0) (h : stickfullaw21_IntrinsicSofter.f k l0 a1 a2 = some r) (hr_ : r = true) :
    Calls Try.prog 8 #[.slice A0 l0.length c0, .int .u8 a1, .int .u16 a2] w fun e w' => e = .returned (.bool r) ∧ Below w.heap.size w w' := by
  have HR_ := Aside0.mk hr_
  clear hr_
  have HR0 := Aside0.mk hr0
  have HC0 := Aside0.mk hc0
  clear hr0 hc0
  have HB := Aside0.mk (Below.refl w.heap.size w)
  have H : ((stickfullaw21_great.f l0).bind fun t388 => (if t388 = true then (stickfullaw21_IntrinsicSofter.j0 k l0 a1 a2 true) else (stickfullaw21_IntrinsicSofter.j0 k l0 a1 a2 ((l0.length : Int) == 0)))) = some r := h
  clear h
  have HC4 := Aside0.mk H
  clear H
  go_enter Try.func8, Try.ntmps8
  go_upto_region 1 with (fail)
  go_cut [26] (fun v26 wc => ∃ (kq : Nat) (x26_3 : Bool), v26 = .bool x26_3 ∧ Aside0 (stickfullaw21_IntrinsicSofter.j0 kq l0 a1 a2 x26_3 = some r) ∧ Aside0 (kq ≤ k) ∧ Aside0 (Below w.heap.size w wc))
  case first =>
    have H := HC4.out
    clear HC4
    replace H := Option.bind_eq_some_iff.mp H
    obtain ⟨t388, A50, H⟩ := H
    replace H : (if t388 = true then (stickfullaw21_IntrinsicSofter.j0 k l0 a1 a2 true) else (stickfullaw21_IntrinsicSofter.j0 k l0 a1 a2 ((l0.length : Int) == 0))) = some r := H
    have A5 := Aside0.mk A50
    clear A50
    by_cases c6 : t388 = true
    · subst c6
      have H1 : (stickfullaw21_IntrinsicSofter.j0 k l0 a1 a2 true) = some r := by rw [if_pos rfl] at H; exact H
      clear H
      have H := H1
      clear H1
      have H' := Aside0.mk H
      clear H
      go_wp2_with (first | ((with_reducible refine gate_callee (f := 26) rfl ?_); refine goesB (some 21) rfl rfl Try.func26 #[.slice A0 l0.length c0] rfl ?_; (with_reducible refine (stickfullaw21_great.calls _ _ l0 true _ ?side1 ?side2 A5.out).mono ?_); (case side1 => repeat (first | exact (Kd.C_below HR0.out HB.out) | (with_reducible refine Kd.C_alloc ?_ _) | (with_reducible refine Kd.C_drewN ?_ _) | (with_reducible refine Kd.C_drew ?_))); (case side2 => exact HC0.out); rintro e w' ⟨rfl, ⟨nd, rfl⟩⟩; refine ⟨_, rfl, ?_⟩))
      go_meet
      case rel => exact ⟨_, (true), (by first | rfl | (simp; done) | (simp [*]; done)), H', ⟨by first | omega | exact Nat.le_refl _⟩, ⟨by repeat (first | (with_reducible first | exact HB.out | apply below_alloc | apply pw_below_drewN | apply below_drew1) | exact HB.out)⟩⟩
    · replace c6 := Bool.eq_false_iff.mpr c6
      subst c6
      have H1 : (stickfullaw21_IntrinsicSofter.j0 k l0 a1 a2 ((l0.length : Int) == 0)) = some r := by rw [if_neg (show ¬ (false = true) by decide)] at H; exact H
      clear H
      have H := H1
      clear H1
      have H' := Aside0.mk H
      clear H
      go_wp2_with (first | ((with_reducible refine gate_callee (f := 26) rfl ?_); refine goesB (some 21) rfl rfl Try.func26 #[.slice A0 l0.length c0] rfl ?_; (with_reducible refine (stickfullaw21_great.calls _ _ l0 false _ ?side1 ?side2 A5.out).mono ?_); (case side1 => repeat (first | exact (Kd.C_below HR0.out HB.out) | (with_reducible refine Kd.C_alloc ?_ _) | (with_reducible refine Kd.C_drewN ?_ _) | (with_reducible refine Kd.C_drew ?_))); (case side2 => exact HC0.out); rintro e w' ⟨rfl, ⟨nd, rfl⟩⟩; refine ⟨_, rfl, ?_⟩))
      go_meet
      case rel => exact ⟨_, (((l0.length : Int) == 0)), (by first | rfl | (simp; done) | (simp [*]; done)), H', ⟨by first | omega | exact Nat.le_refl _⟩, ⟨by repeat (first | (with_reducible first | exact HB.out | apply below_alloc | apply pw_below_drewN | apply below_drew1) | exact HB.out)⟩⟩
  case rest =>
    clear HC4
    try clear c2
    try clear p2
    try clear c6
    obtain ⟨kq, x26_3, rfl, HA, HJ3, HB⟩ := hcut
    cases kq with
    | zero => exact absurd HA.out (by simp [stickfullaw21_IntrinsicSofter.j0])
    | succ kj3 =>
      have H := HA.out
      clear HA
      simp only [stickfullaw21_IntrinsicSofter.j0] at H
      by_cases c7 : x26_3 = true
      · subst c7
        have H1 : ((stickfullaw21_head.f kj3).bind fun t389 => (some t389)) = some r := by rw [if_pos rfl] at H; exact H
        clear H
        have H := H1
        clear H1
        replace H := Option.bind_eq_some_iff.mp H
        obtain ⟨t389, A80, H⟩ := H
        replace H : (some t389) = some r := H
        have A8 := Aside0.mk A80
        clear A80
        obtain rfl := Option.some.inj H
        go_wp2_with (first | ((with_reducible refine gate_callee (f := 24) rfl ?_); refine goesB (some 27) rfl rfl Try.func24 #[] rfl ?_; (with_reducible refine (stickfullaw21_head.calls kj3  t389 _ A8.out).mono ?_); rintro e w9 ⟨rfl, hb⟩; refine ⟨_, rfl, ?_⟩; replace HB := bh HB hb; (try clear hb); (try clear hb2); (try clear hk); (try clear hi)))
        go_ret
        exact ⟨by first | rfl | (simp [errW_none, errW_some] <;> rfl) | (simp [*, errW_none, errW_some] <;> rfl), by repeat (first | (with_reducible first | exact HB.out | apply below_alloc | apply pw_below_drewN | apply below_drew1) | exact HB.out)⟩
      · replace c7 := Bool.eq_false_iff.mpr c7
        subst c7
        have H1 : (stickfullaw21_IntrinsicSofter.l0 kj3 l0 a1 a2 0) = some r := by rw [if_neg (show ¬ (false = true) by decide)] at H; exact H
        clear H
        have H := H1
        clear H1
        have H' := Aside0.mk H
        clear H
        go_wp2
        go_loopg [7] kj3 (fun kq v7 w' => ∃ (x7_2 : Int), v7 = .int .i64 x7_2 ∧ Aside0 (stickfullaw21_IntrinsicSofter.l0 kq l0 a1 a2 x7_2 = some r) ∧ Aside0 (kq ≤ kj3) ∧ Aside0 (Below w.heap.size w w'))
        case atStart => exact ⟨(0), (by first | rfl | (simp; done) | (simp [*]; done)), H', ⟨Nat.le_refl _⟩, ⟨by repeat (first | (with_reducible first | exact HB.out | apply below_alloc | apply pw_below_drewN | apply below_drew1) | exact HB.out)⟩⟩
        case round =>
          clear H'
          try clear c2
          try clear p2
          try clear c6
          try clear c7
          try clear c8
          try clear p2
          obtain ⟨x7_2, rfl, HA, HK2, HB⟩ := hrel
          cases gk with
          | zero => exact absurd HA.out (by simp [stickfullaw21_IntrinsicSofter.l0])
          | succ k2 =>
            have H := HA.out
            clear HA
            simp only [stickfullaw21_IntrinsicSofter.l0] at H
            by_cases c10 : x7_2 < (l0.length : Int)
            · rw [if_pos c10] at H
              have c10b0 : decide (x7_2 < (l0.length : Int)) = true := decide_eq_true c10
              clear c10
              by_cases c11 : 0 ≤ x7_2
              · rw [if_pos c11] at H
                have c11b0 : decide (0 ≤ x7_2) = true := decide_eq_true c11
                clear c11
                by_cases c12 : ((rd_T35 l0 x7_2).f3) < 0
                · rw [if_pos c12] at H
                  have c12b0 : decide (((rd_T35 l0 x7_2).f3) < 0) = true := decide_eq_true c12
                  clear c12
                  replace H := Option.bind_eq_some_iff.mp H
                  obtain ⟨t391, A130, H⟩ := H
                  replace H : (some t391) = some r := H
                  have A13 := Aside0.mk A130
                  clear A130
                  obtain rfl := Option.some.inj H
                  have p390 : 0 ≤ (x7_2 : Int) := of_decide_eq_true (by first | (with_reducible assumption) | assumption)
                  have q390 : x7_2 < (l0.length : Int) := of_decide_eq_true (by first | (with_reducible assumption) | assumption)
                  obtain ⟨ad390, e390, hx390_0, hx390_1, hx390_2, hx390_3, hx390_4, hx390_5⟩ := at_T35 HR0.out x7_2 p390 q390
                  cases e390
                  replace hx390_0 := (HB.out.cell (World.block_lt_of_cell? w _ hx390_0)).trans hx390_0
                  replace hx390_1 := (HB.out.cell (World.block_lt_of_cell? w _ hx390_1)).trans hx390_1
                  replace hx390_2 := (HB.out.cell (World.block_lt_of_cell? w _ hx390_2)).trans hx390_2
                  replace hx390_3 := (HB.out.cell (World.block_lt_of_cell? w _ hx390_3)).trans hx390_3
                  replace hx390_4 := (HB.out.cell (World.block_lt_of_cell? w _ hx390_4)).trans hx390_4
                  replace hx390_5 := (HB.out.cell (World.block_lt_of_cell? w _ hx390_5)).trans hx390_5
                  replace p390 := eq_true p390
                  replace q390 := eq_true q390
                  go_wp2_with (first | ((with_reducible refine gate_callee (f := 24) rfl ?_); refine goesB (some 48) rfl rfl Try.func24 #[] rfl ?_; (with_reducible refine (stickfullaw21_head.calls k2  t391 _ A13.out).mono ?_); rintro e w14 ⟨rfl, hb⟩; refine ⟨_, rfl, ?_⟩; replace HB := bh HB hb; (try clear hb); (try clear hb2); (try clear hk); (try clear hi)))
                  go_ret
                  exact ⟨by first | rfl | (simp [errW_none, errW_some] <;> rfl) | (simp [*, errW_none, errW_some] <;> rfl), by repeat (first | (with_reducible first | exact HB.out | apply below_alloc | apply pw_below_drewN | apply below_drew1) | exact HB.out)⟩
                · rw [if_neg c12] at H
                  have c12b0 : decide (((rd_T35 l0 x7_2).f3) < 0) = false := decide_eq_false c12
                  clear c12
                  by_cases c15 : ((rd_T35 l0 x7_2).f3) > 1099511627776
                  · rw [if_pos c15] at H
                    have c15b0 : decide (1099511627776 < ((rd_T35 l0 x7_2).f3)) = true := decide_eq_true c15
                    clear c15
                    replace H := Option.bind_eq_some_iff.mp H
                    obtain ⟨t393, A160, H⟩ := H
                    replace H : (some t393) = some r := H
                    have A16 := Aside0.mk A160
                    clear A160
                    obtain rfl := Option.some.inj H
                    have p390 : 0 ≤ (x7_2 : Int) := of_decide_eq_true (by first | (with_reducible assumption) | assumption)
                    have q390 : x7_2 < (l0.length : Int) := of_decide_eq_true (by first | (with_reducible assumption) | assumption)
                    obtain ⟨ad390, e390, hx390_0, hx390_1, hx390_2, hx390_3, hx390_4, hx390_5⟩ := at_T35 HR0.out x7_2 p390 q390
                    cases e390
                    replace hx390_0 := (HB.out.cell (World.block_lt_of_cell? w _ hx390_0)).trans hx390_0
                    replace hx390_1 := (HB.out.cell (World.block_lt_of_cell? w _ hx390_1)).trans hx390_1
                    replace hx390_2 := (HB.out.cell (World.block_lt_of_cell? w _ hx390_2)).trans hx390_2
                    replace hx390_3 := (HB.out.cell (World.block_lt_of_cell? w _ hx390_3)).trans hx390_3
                    replace hx390_4 := (HB.out.cell (World.block_lt_of_cell? w _ hx390_4)).trans hx390_4
                    replace hx390_5 := (HB.out.cell (World.block_lt_of_cell? w _ hx390_5)).trans hx390_5
                    replace p390 := eq_true p390
                    replace q390 := eq_true q390
                    have p392 : 0 ≤ (x7_2 : Int) := of_decide_eq_true (by first | (with_reducible assumption) | assumption)
                    have q392 : x7_2 < (l0.length : Int) := of_decide_eq_true (by first | (with_reducible assumption) | assumption)
                    obtain ⟨ad392, e392, hx392_0, hx392_1, hx392_2, hx392_3, hx392_4, hx392_5⟩ := at_T35 HR0.out x7_2 p392 q392
                    obtain rfl : ad390 = ad392 := (by injection e392)
                    replace hx392_0 := (HB.out.cell (World.block_lt_of_cell? w _ hx392_0)).trans hx392_0
                    replace hx392_1 := (HB.out.cell (World.block_lt_of_cell? w _ hx392_1)).trans hx392_1
                    replace hx392_2 := (HB.out.cell (World.block_lt_of_cell? w _ hx392_2)).trans hx392_2
                    replace hx392_3 := (HB.out.cell (World.block_lt_of_cell? w _ hx392_3)).trans hx392_3
                    replace hx392_4 := (HB.out.cell (World.block_lt_of_cell? w _ hx392_4)).trans hx392_4
                    replace hx392_5 := (HB.out.cell (World.block_lt_of_cell? w _ hx392_5)).trans hx392_5
                    replace p392 := eq_true p392
                    replace q392 := eq_true q392
                    go_wp2_with (first | ((with_reducible refine gate_callee (f := 24) rfl ?_); refine goesB (some 48) rfl rfl Try.func24 #[] rfl ?_; (with_reducible refine (stickfullaw21_head.calls k2  t393 _ A16.out).mono ?_); rintro e w17 ⟨rfl, hb⟩; refine ⟨_, rfl, ?_⟩; replace HB := bh HB hb; (try clear hb); (try clear hb2); (try clear hk); (try clear hi)))
                    go_ret
                    exact ⟨by first | rfl | (simp [errW_none, errW_some] <;> rfl) | (simp [*, errW_none, errW_some] <;> rfl), by repeat (first | (with_reducible first | exact HB.out | apply below_alloc | apply pw_below_drewN | apply below_drew1) | exact HB.out)⟩
                  · rw [if_neg c15] at H
                    have c15b0 : decide (1099511627776 < ((rd_T35 l0 x7_2).f3)) = false := decide_eq_false c15
                    clear c15
                    have H' := Aside0.mk H
                    clear H
                    have p390 : 0 ≤ (x7_2 : Int) := of_decide_eq_true (by first | (with_reducible assumption) | assumption)
                    have q390 : x7_2 < (l0.length : Int) := of_decide_eq_true (by first | (with_reducible assumption) | assumption)
                    obtain ⟨ad390, e390, hx390_0, hx390_1, hx390_2, hx390_3, hx390_4, hx390_5⟩ := at_T35 HR0.out x7_2 p390 q390
                    cases e390
                    replace hx390_0 := (HB.out.cell (World.block_lt_of_cell? w _ hx390_0)).trans hx390_0
                    replace hx390_1 := (HB.out.cell (World.block_lt_of_cell? w _ hx390_1)).trans hx390_1
                    replace hx390_2 := (HB.out.cell (World.block_lt_of_cell? w _ hx390_2)).trans hx390_2
                    replace hx390_3 := (HB.out.cell (World.block_lt_of_cell? w _ hx390_3)).trans hx390_3
                    replace hx390_4 := (HB.out.cell (World.block_lt_of_cell? w _ hx390_4)).trans hx390_4
                    replace hx390_5 := (HB.out.cell (World.block_lt_of_cell? w _ hx390_5)).trans hx390_5
                    replace p390 := eq_true p390
                    replace q390 := eq_true q390
                    have p392 : 0 ≤ (x7_2 : Int) := of_decide_eq_true (by first | (with_reducible assumption) | assumption)
                    have q392 : x7_2 < (l0.length : Int) := of_decide_eq_true (by first | (with_reducible assumption) | assumption)
                    obtain ⟨ad392, e392, hx392_0, hx392_1, hx392_2, hx392_3, hx392_4, hx392_5⟩ := at_T35 HR0.out x7_2 p392 q392
                    obtain rfl : ad390 = ad392 := (by injection e392)
                    replace hx392_0 := (HB.out.cell (World.block_lt_of_cell? w _ hx392_0)).trans hx392_0
                    replace hx392_1 := (HB.out.cell (World.block_lt_of_cell? w _ hx392_1)).trans hx392_1
                    replace hx392_2 := (HB.out.cell (World.block_lt_of_cell? w _ hx392_2)).trans hx392_2
                    replace hx392_3 := (HB.out.cell (World.block_lt_of_cell? w _ hx392_3)).trans hx392_3
                    replace hx392_4 := (HB.out.cell (World.block_lt_of_cell? w _ hx392_4)).trans hx392_4
                    replace hx392_5 := (HB.out.cell (World.block_lt_of_cell? w _ hx392_5)).trans hx392_5
                    replace p392 := eq_true p392
                    replace q392 := eq_true q392
                    go_wp2
                    go_roundg k2
                    case measure => have := HJ3.out; have := HK2.out; omega
                    case rel => exact ⟨(wrap64 (x7_2 + 1)), (by first | rfl | (simp; done) | (simp [*]; done)), H', ⟨by have := HJ3.out; have := HK2.out; omega⟩, ⟨by repeat (first | (with_reducible first | exact HB.out | apply below_alloc | apply pw_below_drewN | apply below_drew1) | exact HB.out)⟩⟩
              · rw [if_neg c11] at H
                exact absurd H (by simp)
            · rw [if_neg c10] at H
              have c10b0 : decide (x7_2 < (l0.length : Int)) = false := decide_eq_false c10
              clear c10
              by_cases c18 : (l0.length : Int) = 0
              · rw [if_pos c18] at H
                exact absurd H (by simp)
              · rw [if_neg c18] at H
                have c18b0 : ((l0.length : Int) == 0) = false := beq_eq_false_iff_ne.mpr c18
                have c18b1 : ((l0.length : Int) != 0) = true := bne_iff_ne.mpr c18
                have c18b2 : ¬ (l0 = []) := fun h_ => c18 (by rw [h_]; rfl)
                obtain ⟨y394, hy394⟩ : ∃ y_ : List (S35), y_ = (([] : List (S35))) := ⟨_, rfl⟩
                replace H : (if y394.length + l0.length < 3518437208883 then ((some (y394 ++ l0 : List (S35))).bind fun y397 => (if 0 ≤ (Int.tmod (wrap64 (a1)) (l0.length : Int)) then (if (Int.tmod (wrap64 (a1)) (l0.length : Int)) < (y397.length : Int) then ((some (y397.set ((Int.tmod (wrap64 (a1)) (l0.length : Int)) : Int).toNat (⟨(rd_T35 y397 (Int.tmod (wrap64 (a1)) (l0.length : Int))).f0, (rd_T35 y397 (Int.tmod (wrap64 (a1)) (l0.length : Int))).f1, (rd_T35 y397 (Int.tmod (wrap64 (a1)) (l0.length : Int))).f2, (rd_T35 y397 (Int.tmod (wrap64 (a1)) (l0.length : Int))).f3, true, (rd_T35 y397 (Int.tmod (wrap64 (a1)) (l0.length : Int))).f5⟩ : S35) : List (S35))).bind fun y400 => ((some (([] : List (S35)) : List (S35))).bind fun y401 => (if y401.length + l0.length < 3518437208883 then ((some (y401 ++ l0 : List (S35))).bind fun y404 => (if (Int.tmod (wrap64 (a1)) (l0.length : Int)) < (y404.length : Int) then (if ((rd_T35 y404 (Int.tmod (wrap64 (a1)) (l0.length : Int))).f0) = 4 then (stickfullaw21_IntrinsicSofter.j2 k2 l0 y400 y404) else (stickfullaw21_IntrinsicSofter.j2 k2 l0 y400 (y404.set ((Int.tmod (wrap64 (a1)) (l0.length : Int)) : Int).toNat (⟨(rd_T35 y404 (Int.tmod (wrap64 (a1)) (l0.length : Int))).f0, (rd_T35 y404 (Int.tmod (wrap64 (a1)) (l0.length : Int))).f1, (rd_T35 y404 (Int.tmod (wrap64 (a1)) (l0.length : Int))).f2, wrap64 (((rd_T35 y404 (Int.tmod (wrap64 (a1)) (l0.length : Int))).f3) + (wrap64 (a2))), (rd_T35 y404 (Int.tmod (wrap64 (a1)) (l0.length : Int))).f4, (rd_T35 y404 (Int.tmod (wrap64 (a1)) (l0.length : Int))).f5⟩ : S35)))) else (none))) else (none)))) else (none)) else (none))) else (none)) = some r := by first | (rw [hy394]; with_reducible exact H) | (have H2_ := (Option.bind_some _ _).symm.trans H; rw [hy394]; with_reducible exact H2_) | (have H2_ := (Option.bind_some _ _).symm.trans H; with_reducible exact H2_) | with_reducible exact H | (rw [hy394]; exact H) | exact H
                have Ny394 := Aside0.mk hy394
                clear hy394
                by_cases c19 : y394.length + l0.length < 3518437208883
                · rw [if_pos c19] at H
                  have LMc19 := Aside0.mk c19
                  clear c19
                  obtain ⟨y397, hy397⟩ : ∃ y_ : List (S35), y_ = (y394 ++ l0) := ⟨_, rfl⟩
                  replace H : (if 0 ≤ (Int.tmod (wrap64 (a1)) (l0.length : Int)) then (if (Int.tmod (wrap64 (a1)) (l0.length : Int)) < (y397.length : Int) then ((some (y397.set ((Int.tmod (wrap64 (a1)) (l0.length : Int)) : Int).toNat (⟨(rd_T35 y397 (Int.tmod (wrap64 (a1)) (l0.length : Int))).f0, (rd_T35 y397 (Int.tmod (wrap64 (a1)) (l0.length : Int))).f1, (rd_T35 y397 (Int.tmod (wrap64 (a1)) (l0.length : Int))).f2, (rd_T35 y397 (Int.tmod (wrap64 (a1)) (l0.length : Int))).f3, true, (rd_T35 y397 (Int.tmod (wrap64 (a1)) (l0.length : Int))).f5⟩ : S35) : List (S35))).bind fun y400 => ((some (([] : List (S35)) : List (S35))).bind fun y401 => (if y401.length + l0.length < 3518437208883 then ((some (y401 ++ l0 : List (S35))).bind fun y404 => (if (Int.tmod (wrap64 (a1)) (l0.length : Int)) < (y404.length : Int) then (if ((rd_T35 y404 (Int.tmod (wrap64 (a1)) (l0.length : Int))).f0) = 4 then (stickfullaw21_IntrinsicSofter.j2 k2 l0 y400 y404) else (stickfullaw21_IntrinsicSofter.j2 k2 l0 y400 (y404.set ((Int.tmod (wrap64 (a1)) (l0.length : Int)) : Int).toNat (⟨(rd_T35 y404 (Int.tmod (wrap64 (a1)) (l0.length : Int))).f0, (rd_T35 y404 (Int.tmod (wrap64 (a1)) (l0.length : Int))).f1, (rd_T35 y404 (Int.tmod (wrap64 (a1)) (l0.length : Int))).f2, wrap64 (((rd_T35 y404 (Int.tmod (wrap64 (a1)) (l0.length : Int))).f3) + (wrap64 (a2))), (rd_T35 y404 (Int.tmod (wrap64 (a1)) (l0.length : Int))).f4, (rd_T35 y404 (Int.tmod (wrap64 (a1)) (l0.length : Int))).f5⟩ : S35)))) else (none))) else (none)))) else (none)) else (none)) = some r := by first | (rw [hy397]; with_reducible exact H) | (have H2_ := (Option.bind_some _ _).symm.trans H; rw [hy397]; with_reducible exact H2_) | (have H2_ := (Option.bind_some _ _).symm.trans H; with_reducible exact H2_) | with_reducible exact H | (rw [hy397]; exact H) | exact H
                  have Ny397 := Aside0.mk hy397
                  clear hy397
                  obtain ⟨ji20, hji20⟩ : ∃ j_ : Int, (Int.tmod (wrap64 (a1)) (l0.length : Int)) = j_ := ⟨_, rfl⟩
                  replace H : (if 0 ≤ (ji20) then (if (ji20) < (y397.length : Int) then ((some (y397.set ((ji20) : Int).toNat (⟨(rd_T35 y397 (ji20)).f0, (rd_T35 y397 (ji20)).f1, (rd_T35 y397 (ji20)).f2, (rd_T35 y397 (ji20)).f3, true, (rd_T35 y397 (ji20)).f5⟩ : S35) : List (S35))).bind fun y400 => ((some (([] : List (S35)) : List (S35))).bind fun y401 => (if y401.length + l0.length < 3518437208883 then ((some (y401 ++ l0 : List (S35))).bind fun y404 => (if (ji20) < (y404.length : Int) then (if ((rd_T35 y404 (ji20)).f0) = 4 then (stickfullaw21_IntrinsicSofter.j2 k2 l0 y400 y404) else (stickfullaw21_IntrinsicSofter.j2 k2 l0 y400 (y404.set ((ji20) : Int).toNat (⟨(rd_T35 y404 (ji20)).f0, (rd_T35 y404 (ji20)).f1, (rd_T35 y404 (ji20)).f2, wrap64 (((rd_T35 y404 (ji20)).f3) + (wrap64 (a2))), (rd_T35 y404 (ji20)).f4, (rd_T35 y404 (ji20)).f5⟩ : S35)))) else (none))) else (none)))) else (none)) else (none)) = some r := by first | (rw [hji20] at H; exact H) | (simp only [hji20] at H ⊢; exact H)
                  by_cases c21 : 0 ≤ (ji20)
                  · rw [if_pos c21] at H
                    have c21b0 : decide (0 ≤ (ji20)) = true := decide_eq_true c21
                    clear c21
                    by_cases c22 : (ji20) < (y397.length : Int)
                    · rw [if_pos c22] at H
                      have c22b0 : decide ((ji20) < (y397.length : Int)) = true := decide_eq_true c22
                      clear c22
                      obtain ⟨y400, hy400⟩ : ∃ y_ : List (S35), y_ = (y397.set ((ji20) : Int).toNat (⟨(rd_T35 y397 (ji20)).f0, (rd_T35 y397 (ji20)).f1, (rd_T35 y397 (ji20)).f2, (rd_T35 y397 (ji20)).f3, true, (rd_T35 y397 (ji20)).f5⟩ : S35)) := ⟨_, rfl⟩
                      replace H : ((some (([] : List (S35)) : List (S35))).bind fun y401 => (if y401.length + l0.length < 3518437208883 then ((some (y401 ++ l0 : List (S35))).bind fun y404 => (if (ji20) < (y404.length : Int) then (if ((rd_T35 y404 (ji20)).f0) = 4 then (stickfullaw21_IntrinsicSofter.j2 k2 l0 y400 y404) else (stickfullaw21_IntrinsicSofter.j2 k2 l0 y400 (y404.set ((ji20) : Int).toNat (⟨(rd_T35 y404 (ji20)).f0, (rd_T35 y404 (ji20)).f1, (rd_T35 y404 (ji20)).f2, wrap64 (((rd_T35 y404 (ji20)).f3) + (wrap64 (a2))), (rd_T35 y404 (ji20)).f4, (rd_T35 y404 (ji20)).f5⟩ : S35)))) else (none))) else (none))) = some r := by first | (rw [hy400]; with_reducible exact H) | (have H2_ := (Option.bind_some _ _).symm.trans H; rw [hy400]; with_reducible exact H2_) | (have H2_ := (Option.bind_some _ _).symm.trans H; with_reducible exact H2_) | with_reducible exact H | (rw [hy400]; exact H) | exact H
                      have Ny400 := Aside0.mk hy400
                      clear hy400
                      obtain ⟨y401, hy401⟩ : ∃ y_ : List (S35), y_ = (([] : List (S35))) := ⟨_, rfl⟩
                      replace H : (if y401.length + l0.length < 3518437208883 then ((some (y401 ++ l0 : List (S35))).bind fun y404 => (if (ji20) < (y404.length : Int) then (if ((rd_T35 y404 (ji20)).f0) = 4 then (stickfullaw21_IntrinsicSofter.j2 k2 l0 y400 y404) else (stickfullaw21_IntrinsicSofter.j2 k2 l0 y400 (y404.set ((ji20) : Int).toNat (⟨(rd_T35 y404 (ji20)).f0, (rd_T35 y404 (ji20)).f1, (rd_T35 y404 (ji20)).f2, wrap64 (((rd_T35 y404 (ji20)).f3) + (wrap64 (a2))), (rd_T35 y404 (ji20)).f4, (rd_T35 y404 (ji20)).f5⟩ : S35)))) else (none))) else (none)) = some r := by first | (rw [hy401]; with_reducible exact H) | (have H2_ := (Option.bind_some _ _).symm.trans H; rw [hy401]; with_reducible exact H2_) | (have H2_ := (Option.bind_some _ _).symm.trans H; with_reducible exact H2_) | with_reducible exact H | (rw [hy401]; exact H) | exact H
                      have Ny401 := Aside0.mk hy401
                      clear hy401
                      by_cases c24 : y401.length + l0.length < 3518437208883
                      · rw [if_pos c24] at H
                        have LMc24 := Aside0.mk c24
                        clear c24
                        obtain ⟨y404, hy404⟩ : ∃ y_ : List (S35), y_ = (y401 ++ l0) := ⟨_, rfl⟩
                        replace H : (if (ji20) < (y404.length : Int) then (if ((rd_T35 y404 (ji20)).f0) = 4 then (stickfullaw21_IntrinsicSofter.j2 k2 l0 y400 y404) else (stickfullaw21_IntrinsicSofter.j2 k2 l0 y400 (y404.set ((ji20) : Int).toNat (⟨(rd_T35 y404 (ji20)).f0, (rd_T35 y404 (ji20)).f1, (rd_T35 y404 (ji20)).f2, wrap64 (((rd_T35 y404 (ji20)).f3) + (wrap64 (a2))), (rd_T35 y404 (ji20)).f4, (rd_T35 y404 (ji20)).f5⟩ : S35)))) else (none)) = some r := by first | (rw [hy404]; with_reducible exact H) | (have H2_ := (Option.bind_some _ _).symm.trans H; rw [hy404]; with_reducible exact H2_) | (have H2_ := (Option.bind_some _ _).symm.trans H; with_reducible exact H2_) | with_reducible exact H | (rw [hy404]; exact H) | exact H
                        have Ny404 := Aside0.mk hy404
                        clear hy404
                        by_cases c25 : (ji20) < (y404.length : Int)
                        · rw [if_pos c25] at H
                          have c25b0 : decide ((ji20) < (y404.length : Int)) = true := decide_eq_true c25
                          clear c25
                          have HC26 := Aside0.mk H
                          clear H
                          go_upto_if 69 with (first | ((with_reducible refine gate_dst (N := 54) rfl ?_); (try (refine gate_guard (by rfl) ?_; dsimp only)); refine Kd.R_lit k35 _ 35 ?hg (N := 54) ?hd (xs := ([] : List (S35))) (inner := []) (ok := fun _ => True) (okp := fun _ => True) ?hr ?hp (fun _ hk => hk) trivial (Below.refl _ _) (Nat.le_refl _) (by simp) ?_; (case hd => rfl); (case hg => rfl); (case hr => first | (go_simp; done) | (go_simp; rfl)); (case hp => exact (Reps.none _ _)); intro v395 w27 ho28 hb hg_ hnew_; clear hg_ hnew_; (first | rw [← Ny394.out] at ho28 | (simp only [Int.reduceToNat] at ho28; rw [← Ny394.out] at ho28)); have HO396 := Aside0.mk (Kd.R_lower ho28 (below_size (bw HB))); replace HB := bh HB hb; clear hb ho28) | ((with_reducible refine gate_builtin (b := .append) (xs := #[.tmp 54, .tmp 55]) rfl ?_); (try (refine gate_guard (by rfl) ?_; dsimp only)); at_builtin; refine Kd.R_append_rows k35 (w0 := w) w.heap.size rfl (.tmp 54) (.tmp 55) 22 35 (.agg #[(.int .u8 0), (.int .i64 0), (.int .i64 0), (.int .i64 0), (.bool false), (.bool false)]) 40 rfl Try.underlying22 info35 rfl (by decide) (by omega) v395 y394 l0 _ _ _ (fun _ => True) (fun _ => False) rfl rfl ?aO ?aR (fun _ _ h => h) (fun _ h => h.elim) ?aF ?aB ?aS ?aL ?_; (case aR => repeat (first | exact (Kd.C_below HR0.out HB.out) | (with_reducible refine Kd.C_alloc ?_ _) | (with_reducible refine Kd.C_drewN ?_ _) | (with_reducible refine Kd.C_drew ?_))); (case aB => exact (bw HB)); (case aF => exact (fun _ _ => trivial)); (case aO => exact (rx HO396)); (case aS => exact (below_size (bw HB))); (case aL => have := LMc19.out; omega); intro v398 w29 ho hb hg hat; rw [← Ny397.out] at ho; replace HB := Aside0.mk (hb); have HO399 := Aside0.mk (ho); clear HO396; clear ho hb hg hat; have p23 : 0 ≤ ((ji20) : Int) := of_decide_eq_true (by first | (with_reducible assumption) | assumption); have q23 : ((ji20) : Int) < ((y397.length : Int) : Int) := of_decide_eq_true (by first | (with_reducible assumption) | assumption); obtain ⟨go23, co23, eo23, gb23, gl23, cl23, HG23⟩ := Kd.R_form HO399.out (by omega); (first | cases eo23 | (injection eo23 with ea_ en_ ec_; (first | subst ea_ | (injection ea_ with ea_; subst ea_)); subst ec_; clear en_)); have GB23 := Aside0.mk gb23; have GG23 := Aside0.mk HG23; clear gb23 gl23 HG23; obtain ⟨ce23, hcl23, hM23, hcc23, hfr23⟩ := Kd.R_elem HO399.out z35 ((ji20) : Int) p23 q23; obtain rfl := k35_openM hM23; have hx23_0 : w29.cell? ⟨go23, ((ji20) : Int).toNat * 6, none⟩ = some (.int .u8 ((rd_T35 y397 (ji20)).f0)) := hcc23 0 _ rfl; have hx23_1 : w29.cell? ⟨go23, ((ji20) : Int).toNat * 6 + 1, none⟩ = some (.int .i64 ((rd_T35 y397 (ji20)).f1)) := hcc23 1 _ rfl; have hx23_2 : w29.cell? ⟨go23, ((ji20) : Int).toNat * 6 + 2, none⟩ = some (.int .i64 ((rd_T35 y397 (ji20)).f2)) := hcc23 2 _ rfl; have hx23_3 : w29.cell? ⟨go23, ((ji20) : Int).toNat * 6 + 3, none⟩ = some (.int .i64 ((rd_T35 y397 (ji20)).f3)) := hcc23 3 _ rfl; have hx23_4 : w29.cell? ⟨go23, ((ji20) : Int).toNat * 6 + 4, none⟩ = some (.bool ((rd_T35 y397 (ji20)).f4)) := hcc23 4 _ rfl; have hx23_5 : w29.cell? ⟨go23, ((ji20) : Int).toNat * 6 + 5, none⟩ = some (.bool ((rd_T35 y397 (ji20)).f5)) := hcc23 5 _ rfl; have hf23_0 : w29.frozen? ⟨go23, ((ji20) : Int).toNat * 6, none⟩ = false := hfr23 0; have hf23_1 : w29.frozen? ⟨go23, ((ji20) : Int).toNat * 6 + 1, none⟩ = false := hfr23 1; have hf23_2 : w29.frozen? ⟨go23, ((ji20) : Int).toNat * 6 + 2, none⟩ = false := hfr23 2; have hf23_3 : w29.frozen? ⟨go23, ((ji20) : Int).toNat * 6 + 3, none⟩ = false := hfr23 3; have hf23_4 : w29.frozen? ⟨go23, ((ji20) : Int).toNat * 6 + 4, none⟩ = false := hfr23 4; have hf23_5 : w29.frozen? ⟨go23, ((ji20) : Int).toNat * 6 + 5, none⟩ = false := hfr23 5; clear hcl23 hcc23 hfr23 hM23; replace p23 := eq_true p23; replace q23 := eq_true q23; have HX30 := Aside0.mk (show Kd.R k35 35 w29 w.heap.size (fun _ => True) (.slice (some ⟨go23, 0, none⟩) y397.length co23) y397 from (rx HO399)); obtain ⟨ce30, hcl30, hM30, hcc30, hfr30⟩ := Kd.R_elem HX30.out z35 ((ji20) : Int) (of_decide_eq_true (by first | (with_reducible assumption) | assumption)) (by have h_ : ((ji20) : Int) < ((y397.length : Int) : Int) := of_decide_eq_true (by first | (with_reducible assumption) | assumption); first | exact h_ | (have e_ := (Kd.R_reads' HO399.out).1; omega) | simpa using h_); obtain rfl := k35_openM hM30; have HP30 := Kd.R_seg HX30.out ((ji20) : Int) (of_decide_eq_true (by first | (with_reducible assumption) | assumption)) (by have h_ : ((ji20) : Int) < ((y397.length : Int) : Int) := of_decide_eq_true (by first | (with_reducible assumption) | assumption); first | exact h_ | (have e_ := (Kd.R_reads' HO399.out).1; omega) | simpa using h_) (seg := [.bool true]) (j := 4) hcl30 hcc30 (show 5 ≤ 6 from by decide) (x' := (⟨(rd_T35 y397 (ji20)).f0, (rd_T35 y397 (ji20)).f1, (rd_T35 y397 (ji20)).f2, (rd_T35 y397 (ji20)).f3, true, (rd_T35 y397 (ji20)).f5⟩ : S35)) (k35_mkM _ _ _ (⟨(rd_T35 y397 (ji20)).f0, (rd_T35 y397 (ji20)).f1, (rd_T35 y397 (ji20)).f2, (rd_T35 y397 (ji20)).f3, true, (rd_T35 y397 (ji20)).f5⟩ : S35) ) (fun _ hk => hk); have hx30_4 := hcc30 4 _ rfl; (try simp only [show (k35).sz = 6 from rfl, Nat.mul_one, Nat.add_zero] at hx30_4); have hf30_4 := hfr30 4; (try simp only [show (k35).sz = 6 from rfl, Nat.mul_one, Nat.add_zero] at hf30_4); clear hcl30 hcc30 hfr30 hM30) | ((with_reducible refine gate_store (t := 4) (p := 60) rfl ?_); refine store_event (t := 4) (p := 60) (v := ?vo_w31) (w1 := (w29.setCell ⟨go23, ((ji20) : Int).toNat * 6 + 4, none⟩ (.bool true))) ?hg ?ho ?hn ?hr ?_; (case ho => rfl); (case hg => rfl); (case hn => rfl); (case hr => first | (go_simp; done) | (go_simp; rfl)); intro w31 hw; have hg : w29.grownBy w31 (some go23) := (by rw [hw]; exact HP30.2); have hp_ : Kd.R k35 35 w31 w.heap.size (fun _ => True) (.slice (some ⟨go23, 0, none⟩) y397.length co23) y400 := (by rw [hw, Ny400.out]; exact HP30.1); clear HP30; replace HO399 := Aside0.mk (hp_); replace HB := Aside0.mk ((by rw [hw]; exact below_set (HB.out) GB23.out : Below w.heap.size w w31)); clear hg hw hp_) | ((with_reducible refine gate_dst (N := 61) rfl ?_); (try (refine gate_guard (by rfl) ?_; dsimp only)); refine Kd.R_lit k35 _ 35 ?hg (N := 61) ?hd (xs := ([] : List (S35))) (inner := []) (ok := fun _ => True) (okp := fun _ => True) ?hr ?hp (fun _ hk => hk) trivial (Below.refl _ _) (Nat.le_refl _) (by simp) ?_; (case hd => rfl); (case hg => rfl); (case hr => first | (go_simp; done) | (go_simp; rfl)); (case hp => exact (Reps.none _ _)); intro v402 w32 ho33 hb hg_ hnew_; clear hg_ hnew_; (first | rw [← Ny401.out] at ho33 | (simp only [Int.reduceToNat] at ho33; rw [← Ny401.out] at ho33)); have HO403 := Aside0.mk (Kd.R_lower (Kd.R_new' ho33 (Kd.R_lt (rx HO399))) (below_size (bw HB))); replace HO399 := Aside0.mk (Kd.R_elder' (rx HO399) (Kd.R_base ho33) hb); replace HB := bh HB hb; clear hb ho33) | ((with_reducible refine gate_builtin (b := .append) (xs := #[.tmp 61, .tmp 62]) rfl ?_); (try (refine gate_guard (by rfl) ?_; dsimp only)); at_builtin; refine Kd.R_append_rows k35 (w0 := w) w.heap.size rfl (.tmp 61) (.tmp 62) 22 35 (.agg #[(.int .u8 0), (.int .i64 0), (.int .i64 0), (.int .i64 0), (.bool false), (.bool false)]) 40 rfl Try.underlying22 info35 rfl (by decide) (by omega) v402 y401 l0 _ _ _ (fun k_ => some k_ ≠ (.slice (some ⟨go23, 0, none⟩) y397.length co23 : Value).ownBlock) (fun _ => False) rfl rfl ?aO ?aR (fun _ _ h => h) (fun _ h => h.elim) ?aF ?aB ?aS ?aL ?_; (case aR => repeat (first | exact (Kd.C_below HR0.out HB.out) | (with_reducible refine Kd.C_alloc ?_ _) | (with_reducible refine Kd.C_drewN ?_ _) | (with_reducible refine Kd.C_drew ?_))); (case aB => exact (bw HB)); (case aF => exact (fun k_ hk => Kd.fresh' (Kd.R_lt (rx HO399)) k_ hk)); (case aO => exact (by (with_reducible repeat (first | apply Kd.R_alloc | apply Kd.R_drewN | apply Kd.R_drew)); exact Kd.R_mono HO403.out (fun _ hk => hk.2))); (case aS => exact (below_size (bw HB))); (case aL => have := LMc24.out; omega); intro v405 w34 ho hb hg hat; rw [← Ny404.out] at ho; replace HO399 := Aside0.mk (Kd.R_after (ok := (fun _ => True)) (rx HO399) hg hat); replace HB := Aside0.mk (hb); have HO406 := Aside0.mk (ho); clear HO403; clear ho hb hg hat; obtain ⟨Ao35, co35, eo35⟩ := Kd.R_slice HO406.out; subst eo35; have p407 : 0 ≤ ((ji20) : Int) := of_decide_eq_true (by first | (with_reducible assumption) | assumption); have q407 : (ji20) < (y404.length : Int) := of_decide_eq_true (by first | (with_reducible assumption) | assumption); obtain ⟨ad407, e407, hx407_0, hx407_1, hx407_2, hx407_3, hx407_4, hx407_5⟩ := at_T35 (Kd.R_reads' HO406.out).2.2 (ji20) p407 q407; cases e407; replace p407 := eq_true p407; replace q407 := eq_true q407))
                          (try simp only [Act.put, List.setIfInBounds_toArray, List.set_cons_zero, List.set_cons_succ])
                          go_cut [] (fun wc => ∃ (kq : Nat) (x10_25 : List (S35)), Aside0 (stickfullaw21_IntrinsicSofter.j2 kq l0 y400 x10_25 = some r) ∧ Aside0 (kq ≤ k2) ∧ Aside0 (Kd.R k35 35 wc w.heap.size (fun k_ => some k_ ≠ ((.slice (some ad407) y404.length co35) : Value).ownBlock) (.slice (some ⟨go23, 0, none⟩) y397.length co23) y400) ∧ Aside0 (Kd.R k35 35 wc w.heap.size (fun k_ => some k_ ≠ ((.slice (some ⟨go23, 0, none⟩) y397.length co23) : Value).ownBlock) (.slice (some ad407) y404.length co35) x10_25) ∧ Aside0 (Below w.heap.size w wc))
                          case first =>
                            have H := HC26.out
                            clear HC26
                            by_cases c36 : ((rd_T35 y404 (ji20)).f0) = 4
                            · rw [if_pos c36] at H
                              have c36b0 : (((rd_T35 y404 (ji20)).f0) == 4) = true := beq_iff_eq.mpr c36
                              have c36b1 : (((rd_T35 y404 (ji20)).f0) != 4) = false := bne_eq_false_iff_eq.mpr c36
                              clear c36
                              (first | rw [c36b0] | (simp only [i64_w, i32_w]; rw [c36b0]) | skip)
                              have H' := Aside0.mk H
                              clear H
                              go_wp2
                              go_meet
                              case rel => exact ⟨_, (y404), H', ⟨by have := HJ3.out; have := HK2.out; first | omega | exact Nat.le_refl _⟩, ⟨by (with_reducible repeat (first | apply Kd.R_alloc | apply Kd.R_drewN | apply Kd.R_drew)); exact Kd.R_mono HO399.out (fun _ hk => hk.2)⟩, ⟨by (with_reducible repeat (first | apply Kd.R_alloc | apply Kd.R_drewN | apply Kd.R_drew)); exact HO406.out⟩, ⟨by repeat (first | (with_reducible first | exact HB.out | apply below_alloc | apply pw_below_drewN | apply below_drew1) | exact HB.out)⟩⟩
                            · rw [if_neg c36] at H
                              have c36b0 : (((rd_T35 y404 (ji20)).f0) == 4) = false := beq_eq_false_iff_ne.mpr c36
                              have c36b1 : (((rd_T35 y404 (ji20)).f0) != 4) = true := bne_iff_ne.mpr c36
                              (first | rw [c36b0] | (simp only [i64_w, i32_w]; rw [c36b0]) | skip)
                              obtain ⟨y409, hy409⟩ : ∃ y_ : List (S35), y_ = (y404.set ((ji20) : Int).toNat (⟨(rd_T35 y404 (ji20)).f0, (rd_T35 y404 (ji20)).f1, (rd_T35 y404 (ji20)).f2, wrap64 (((rd_T35 y404 (ji20)).f3) + (wrap64 (a2))), (rd_T35 y404 (ji20)).f4, (rd_T35 y404 (ji20)).f5⟩ : S35)) := ⟨_, rfl⟩
                              replace H : (stickfullaw21_IntrinsicSofter.j2 k2 l0 y400 y409) = some r := by first | (rw [hy409]; with_reducible exact H) | (have H2_ := (Option.bind_some _ _).symm.trans H; rw [hy409]; with_reducible exact H2_) | (have H2_ := (Option.bind_some _ _).symm.trans H; with_reducible exact H2_) | with_reducible exact H | (rw [hy409]; exact H) | exact H
                              have Ny409 := Aside0.mk hy409
                              clear hy409
                              have H' := Aside0.mk H
                              clear H
                              have p408 : 0 ≤ ((ji20) : Int) := of_decide_eq_true (by first | (with_reducible assumption) | assumption)
                              have q408 : (ji20) < (y404.length : Int) := of_decide_eq_true (by first | (with_reducible assumption) | assumption)
                              obtain ⟨ad408, e408, hx408_0, hx408_1, hx408_2, hx408_3, hx408_4, hx408_5⟩ := at_T35 (Kd.R_reads' HO406.out).2.2 (ji20) p408 q408
                              obtain rfl : ad407 = ad408 := (by injection e408)
                              replace p408 := eq_true p408
                              replace q408 := eq_true q408
                              have p37 : 0 ≤ ((ji20) : Int) := of_decide_eq_true (by first | (with_reducible assumption) | assumption)
                              have q37 : ((ji20) : Int) < ((y404.length : Int) : Int) := of_decide_eq_true (by first | (with_reducible assumption) | assumption)
                              obtain ⟨go37, co37, eo37, gb37, gl37, cl37, HG37⟩ := Kd.R_form HO406.out (by omega)
                              (first | cases eo37 | (injection eo37 with ea_ en_ ec_; (first | subst ea_ | (injection ea_ with ea_; subst ea_)); subst ec_; clear en_))
                              have GB37 := Aside0.mk gb37
                              have GG37 := Aside0.mk HG37
                              clear gb37 gl37 HG37
                              (first | simp only [add_plain] at hx407_0 | skip)
                              (first | simp only [add_plain] at hx407_1 | skip)
                              (first | simp only [add_plain] at hx407_2 | skip)
                              (first | simp only [add_plain] at hx407_3 | skip)
                              (first | simp only [add_plain] at hx407_4 | skip)
                              (first | simp only [add_plain] at hx407_5 | skip)
                              (first | simp only [add_plain] at hx408_0 | skip)
                              (first | simp only [add_plain] at hx408_1 | skip)
                              (first | simp only [add_plain] at hx408_2 | skip)
                              (first | simp only [add_plain] at hx408_3 | skip)
                              (first | simp only [add_plain] at hx408_4 | skip)
                              (first | simp only [add_plain] at hx408_5 | skip)
                              obtain ⟨ce37, hcl37, hM37, hcc37, hfr37⟩ := Kd.R_elem HO406.out z35 ((ji20) : Int) p37 q37
                              obtain rfl := k35_openM hM37
                              have hx37_0 : w34.cell? ⟨go37, ((ji20) : Int).toNat * 6, none⟩ = some (.int .u8 ((rd_T35 y404 (ji20)).f0)) := hcc37 0 _ rfl
                              have hx37_1 : w34.cell? ⟨go37, ((ji20) : Int).toNat * 6 + 1, none⟩ = some (.int .i64 ((rd_T35 y404 (ji20)).f1)) := hcc37 1 _ rfl
                              have hx37_2 : w34.cell? ⟨go37, ((ji20) : Int).toNat * 6 + 2, none⟩ = some (.int .i64 ((rd_T35 y404 (ji20)).f2)) := hcc37 2 _ rfl
                              have hx37_3 : w34.cell? ⟨go37, ((ji20) : Int).toNat * 6 + 3, none⟩ = some (.int .i64 ((rd_T35 y404 (ji20)).f3)) := hcc37 3 _ rfl
                              have hx37_4 : w34.cell? ⟨go37, ((ji20) : Int).toNat * 6 + 4, none⟩ = some (.bool ((rd_T35 y404 (ji20)).f4)) := hcc37 4 _ rfl
                              have hx37_5 : w34.cell? ⟨go37, ((ji20) : Int).toNat * 6 + 5, none⟩ = some (.bool ((rd_T35 y404 (ji20)).f5)) := hcc37 5 _ rfl
                              have hf37_0 : w34.frozen? ⟨go37, ((ji20) : Int).toNat * 6, none⟩ = false := hfr37 0
                              have hf37_1 : w34.frozen? ⟨go37, ((ji20) : Int).toNat * 6 + 1, none⟩ = false := hfr37 1
                              have hf37_2 : w34.frozen? ⟨go37, ((ji20) : Int).toNat * 6 + 2, none⟩ = false := hfr37 2
                              have hf37_3 : w34.frozen? ⟨go37, ((ji20) : Int).toNat * 6 + 3, none⟩ = false := hfr37 3
                              have hf37_4 : w34.frozen? ⟨go37, ((ji20) : Int).toNat * 6 + 4, none⟩ = false := hfr37 4
                              have hf37_5 : w34.frozen? ⟨go37, ((ji20) : Int).toNat * 6 + 5, none⟩ = false := hfr37 5
                              clear hcl37 hcc37 hfr37 hM37
                              replace p37 := eq_true p37
                              replace q37 := eq_true q37
                              have HX38 := Aside0.mk (show Kd.R k35 35 w34 w.heap.size (fun k_ => some k_ ≠ (.slice (some ⟨go23, 0, none⟩) y397.length co23 : Value).ownBlock) (.slice (some ⟨go37, 0, none⟩) y404.length co35) y404 from (rx HO406))
                              obtain ⟨ce38, hcl38, hM38, hcc38, hfr38⟩ := Kd.R_elem HX38.out z35 ((ji20) : Int) (of_decide_eq_true (by first | (with_reducible assumption) | assumption)) (by have h_ : ((ji20) : Int) < ((y404.length : Int) : Int) := of_decide_eq_true (by first | (with_reducible assumption) | assumption); first | exact h_ | (have e_ := (Kd.R_reads' HO406.out).1; omega) | simpa using h_)
                              obtain rfl := k35_openM hM38
                              have HP38 := Kd.R_seg HX38.out ((ji20) : Int) (of_decide_eq_true (by first | (with_reducible assumption) | assumption)) (by have h_ : ((ji20) : Int) < ((y404.length : Int) : Int) := of_decide_eq_true (by first | (with_reducible assumption) | assumption); first | exact h_ | (have e_ := (Kd.R_reads' HO406.out).1; omega) | simpa using h_) (seg := [.int .i64 (wrap64 (((rd_T35 y404 (ji20)).f3) + (wrap64 (a2))))]) (j := 3) hcl38 hcc38 (show 4 ≤ 6 from by decide) (x' := (⟨(rd_T35 y404 (ji20)).f0, (rd_T35 y404 (ji20)).f1, (rd_T35 y404 (ji20)).f2, wrap64 (((rd_T35 y404 (ji20)).f3) + (wrap64 (a2))), (rd_T35 y404 (ji20)).f4, (rd_T35 y404 (ji20)).f5⟩ : S35)) (k35_mkM _ _ _ (⟨(rd_T35 y404 (ji20)).f0, (rd_T35 y404 (ji20)).f1, (rd_T35 y404 (ji20)).f2, wrap64 (((rd_T35 y404 (ji20)).f3) + (wrap64 (a2))), (rd_T35 y404 (ji20)).f4, (rd_T35 y404 (ji20)).f5⟩ : S35) ) (fun _ hk => hk)
                              have hx38_3 := hcc38 3 _ rfl
                              (try simp only [show (k35).sz = 6 from rfl, Nat.mul_one, Nat.add_zero] at hx38_3)
                              have hf38_3 := hfr38 3
                              (try simp only [show (k35).sz = 6 from rfl, Nat.mul_one, Nat.add_zero] at hf38_3)
                              clear hcl38 hcc38 hfr38 hM38
                              go_wp2_with (first | ((with_reducible refine gate_store (t := 2) (p := 81) rfl ?_); refine store_event (t := 2) (p := 81) (v := ?vo_w39) (w1 := (w34.setCell ⟨go37, ((ji20) : Int).toNat * 6 + 3, none⟩ (.int .i64 (wrap64 (((rd_T35 y404 (ji20)).f3) + (wrap64 (a2))))))) ?hg ?ho ?hn ?hr ?_; (case ho => rfl); (case hg => rfl); (case hn => rfl); (case hr => first | (go_simp; done) | (go_simp; rfl)); intro w39 hw; have hg : w34.grownBy w39 (some go37) := (by rw [hw]; exact HP38.2); have hp_ : Kd.R k35 35 w39 w.heap.size (fun k_ => some k_ ≠ (.slice (some ⟨go23, 0, none⟩) y397.length co23 : Value).ownBlock) (.slice (some ⟨go37, 0, none⟩) y404.length co35) y409 := (by rw [hw, Ny409.out]; exact HP38.1); clear HP38; replace HO399 := Aside0.mk (Kd.R_after (v := (.slice (some ⟨go37, 0, none⟩) y404.length co35)) (v1 := (.slice (some ⟨go37, 0, none⟩) y404.length co35)) (ok := (fun _ => True)) (rx HO399) hg (.inl rfl)); replace HO406 := Aside0.mk (hp_); replace HB := Aside0.mk ((by rw [hw]; exact below_set (HB.out) GB37.out : Below w.heap.size w w39)); clear hg hw hp_))
                              go_meet
                              case rel => exact ⟨_, (y409), H', ⟨by have := HJ3.out; have := HK2.out; first | omega | exact Nat.le_refl _⟩, ⟨by (with_reducible repeat (first | apply Kd.R_alloc | apply Kd.R_drewN | apply Kd.R_drew)); exact Kd.R_mono HO399.out (fun _ hk => hk.2)⟩, ⟨by (with_reducible repeat (first | apply Kd.R_alloc | apply Kd.R_drewN | apply Kd.R_drew)); exact HO406.out⟩, ⟨by repeat (first | (with_reducible first | exact HB.out | apply below_alloc | apply pw_below_drewN | apply below_drew1) | exact HB.out)⟩⟩
                          case rest =>
                            clear HC26
                            try clear c1
                            try clear c2
                            try clear p2
                            try clear q2
                            try clear hx2
                            try clear c3
                            try clear p3
                            try clear q3
                            try clear hx3
                            try clear hf3
                            try clear p4
                            try clear q4
                            try clear hx4
                            try clear c6
                            try clear p6
                            try clear c7
                            try clear c8
                            try clear c10
                            try clear c10b0
                            try clear c11
                            try clear c11b0
                            try clear c12
                            try clear c12b0
                            try clear c15
                            try clear c15b0
                            try clear c18
                            try clear c18b0
                            try clear c18b1
                            try clear c18b2
                            try clear c19
                            try clear c21
                            try clear c21b0
                            try clear c22
                            try clear c22b0
                            try clear c23
                            try clear p23
                            try clear q23
                            try clear hx23
                            try clear hf23
                            try clear c24
                            try clear c25
                            try clear c25b0
                            try clear c26
                            try clear c30
                            try clear hx30
                            try clear hf30
                            try clear c36
                            try clear c36b0
                            try clear c36b1
                            try clear c37
                            try clear p37
                            try clear q37
                            try clear hx37
                            try clear hf37
                            try clear c38
                            try clear hx38
                            try clear hf38
                            try clear p39
                            try clear q39
                            try clear hx39
                            try clear hx23_0
                            try clear hx23_1
                            try clear hx23_2
                            try clear hx23_3
                            try clear hx23_4
                            try clear hx23_5
                            try clear hx30_4
                            try clear hx37_0
                            try clear hx37_1
                            try clear hx37_2
                            try clear hx37_3
                            try clear hx37_4
                            try clear hx37_5
                            try clear hx38_3
                            try clear hx390_0
                            try clear hx390_1
                            try clear hx390_2
                            try clear hx390_3
                            try clear hx390_4
                            try clear hx390_5
                            try clear hx392_0
                            try clear hx392_1
                            try clear hx392_2
                            try clear hx392_3
                            try clear hx392_4
                            try clear hx392_5
                            try clear hx407_0
                            try clear hx407_1
                            try clear hx407_2
                            try clear hx407_3
                            try clear hx407_4
                            try clear hx407_5
                            try clear hx408_0
                            try clear hx408_1
                            try clear hx408_2
                            try clear hx408_3
                            try clear hx408_4
                            try clear hx408_5
                            try clear p2
                            try clear p23
                            try clear p37
                            try clear p390
                            try clear p392
                            try clear p407
                            try clear p408
                            try clear q23
                            try clear q37
                            try clear q390
                            try clear q392
                            try clear q407
                            try clear q408
                            obtain ⟨kq, x10_25, HA, HJ25, HO_9, HO_10, HB⟩ := hcut
                            have hl9_25 := (Kd.R_reads' HO_9.out).1
                            rw [hl9_25] at HO_9
                            (try simp only [hl9_25])
                            (try simp only [hl9_25] at HO_10)
                            have hl10_25 := (Kd.R_reads' HO_10.out).1
                            rw [hl10_25] at HO_10
                            (try simp only [hl10_25])
                            (try simp only [hl10_25] at HO_9)
                            cases kq with
                            | zero => exact absurd HA.out (by simp [stickfullaw21_IntrinsicSofter.j2])
                            | succ kj25 =>
                              have H := HA.out
                              clear HA
                              simp only [stickfullaw21_IntrinsicSofter.j2] at H
                              replace H := Option.bind_eq_some_iff.mp H
                              obtain ⟨⟨t410, t411, t412⟩, A400, H⟩ := H
                              replace H : ((intrinsic_MinMax.f y400).bind fun bt413 => ((intrinsic_MinMax.f x10_25).bind fun bt416 => (if t412 = 0 then (if bt413.2.2 = 0 then (if bt416.2.2 = 0 then (if bt413.1 ≤ t410 then (if bt413.2.1 = t411 then (if bt416.1 ≥ t410 then (if bt416.2.1 ≥ t411 then ((stickfullaw21_head.f kj25).bind fun t419 => (some t419)) else (some false)) else (some false)) else (some false)) else (some false)) else (some false)) else (some false)) else (some false)))) = some r := H
                              have A40 := Aside0.mk A400
                              clear A400
                              replace H := Option.bind_eq_some_iff.mp H
                              obtain ⟨⟨t413, t414, t415⟩, A410, H⟩ := H
                              replace H : ((intrinsic_MinMax.f x10_25).bind fun bt416 => (if t412 = 0 then (if t415 = 0 then (if bt416.2.2 = 0 then (if t413 ≤ t410 then (if t414 = t411 then (if bt416.1 ≥ t410 then (if bt416.2.1 ≥ t411 then ((stickfullaw21_head.f kj25).bind fun t419 => (some t419)) else (some false)) else (some false)) else (some false)) else (some false)) else (some false)) else (some false)) else (some false))) = some r := H
                              have A41 := Aside0.mk A410
                              clear A410
                              replace H := Option.bind_eq_some_iff.mp H
                              obtain ⟨⟨t416, t417, t418⟩, A420, H⟩ := H
                              replace H : (if t412 = 0 then (if t415 = 0 then (if t418 = 0 then (if t413 ≤ t410 then (if t414 = t411 then (if t416 ≥ t410 then (if t417 ≥ t411 then ((stickfullaw21_head.f kj25).bind fun t419 => (some t419)) else (some false)) else (some false)) else (some false)) else (some false)) else (some false)) else (some false)) else (some false)) = some r := H
                              have A42 := Aside0.mk A420
                              clear A420
                              by_cases c43 : t412 = 0
                              · rw [if_pos c43] at H
                                have c43b0 : (t412 == 0) = true := beq_iff_eq.mpr c43
                                have c43b1 : (t412 != 0) = false := bne_eq_false_iff_eq.mpr c43
                                clear c43
                                by_cases c44 : t415 = 0
                                · rw [if_pos c44] at H
                                  have c44b0 : (t415 == 0) = true := beq_iff_eq.mpr c44
                                  have c44b1 : (t415 != 0) = false := bne_eq_false_iff_eq.mpr c44
                                  clear c44
                                  by_cases c45 : t418 = 0
                                  · rw [if_pos c45] at H
                                    have c45b0 : (t418 == 0) = true := beq_iff_eq.mpr c45
                                    have c45b1 : (t418 != 0) = false := bne_eq_false_iff_eq.mpr c45
                                    clear c45
                                    by_cases c46 : t413 ≤ t410
                                    · rw [if_pos c46] at H
                                      have c46b0 : decide (t413 ≤ t410) = true := decide_eq_true c46
                                      clear c46
                                      by_cases c47 : t414 = t411
                                      · rw [if_pos c47] at H
                                        have c47b0 : (t414 == t411) = true := beq_iff_eq.mpr c47
                                        have c47b1 : (t414 != t411) = false := bne_eq_false_iff_eq.mpr c47
                                        clear c47
                                        by_cases c48 : t416 ≥ t410
                                        · rw [if_pos c48] at H
                                          have c48b0 : decide (t410 ≤ t416) = true := decide_eq_true c48
                                          clear c48
                                          by_cases c49 : t417 ≥ t411
                                          · rw [if_pos c49] at H
                                            have c49b0 : decide (t411 ≤ t417) = true := decide_eq_true c49
                                            clear c49
                                            replace H := Option.bind_eq_some_iff.mp H
                                            obtain ⟨t419, A500, H⟩ := H
                                            replace H : (some t419) = some r := H
                                            have A50 := Aside0.mk A500
                                            clear A500
                                            obtain rfl := Option.some.inj H
                                            go_wp2_with (first | ((with_reducible refine gate_callee (f := 25) rfl ?_); refine goesB (some 84) rfl rfl Try.func25 #[.slice A0 l0.length c0] rfl ?_; (with_reducible refine (intrinsic_MinMax.calls _ _ l0 t410 t411 t412 _ ?side1 ?side2 A40.out).mono ?_); (case side1 => repeat (first | exact (Kd.C_below HR0.out HB.out) | (with_reducible refine Kd.C_alloc ?_ _) | (with_reducible refine Kd.C_drewN ?_ _) | (with_reducible refine Kd.C_drew ?_))); (case side2 => exact HC0.out); rintro e w51 ⟨rfl, hb⟩; refine ⟨_, rfl, ?_⟩; replace HO_9 := Aside0.mk (Kd.R_below (rx HO_9) hb); replace HO_10 := Aside0.mk (Kd.R_below (rx HO_10) hb); replace HB := bh HB hb; (try clear hb); (try clear hb2); (try clear hk); (try clear hi)) | ((with_reducible refine gate_callee (f := 25) rfl ?_); refine goesB (some 90) rfl rfl Try.func25 #[.slice (some ⟨go23, 0, none⟩) y400.length co23] rfl ?_; (with_reducible refine (intrinsic_MinMax.calls _ _ y400 t413 t414 t415 _ ?side1 ?side2 A41.out).mono ?_); (case side1 => repeat (first | exact (Kd.R_reads' HO_9.out).2.2 | (with_reducible refine Kd.C_alloc ?_ _) | (with_reducible refine Kd.C_drewN ?_ _) | (with_reducible refine Kd.C_drew ?_))); (case side2 => exact (Kd.R_reads' HO_9.out).2.1); rintro e w52 ⟨rfl, hb⟩; refine ⟨_, rfl, ?_⟩; replace HO_9 := Aside0.mk (Kd.R_below (rx HO_9) hb); replace HO_10 := Aside0.mk (Kd.R_below (rx HO_10) hb); replace HB := bh HB hb; (try clear hb); (try clear hb2); (try clear hk); (try clear hi)) | ((with_reducible refine gate_callee (f := 25) rfl ?_); refine goesB (some 96) rfl rfl Try.func25 #[.slice (some ad407) x10_25.length co35] rfl ?_; (with_reducible refine (intrinsic_MinMax.calls _ _ x10_25 t416 t417 t418 _ ?side1 ?side2 A42.out).mono ?_); (case side1 => repeat (first | exact (Kd.R_reads' HO_10.out).2.2 | (with_reducible refine Kd.C_alloc ?_ _) | (with_reducible refine Kd.C_drewN ?_ _) | (with_reducible refine Kd.C_drew ?_))); (case side2 => exact (Kd.R_reads' HO_10.out).2.1); rintro e w53 ⟨rfl, hb⟩; refine ⟨_, rfl, ?_⟩; replace HO_9 := Aside0.mk (Kd.R_below (rx HO_9) hb); replace HO_10 := Aside0.mk (Kd.R_below (rx HO_10) hb); replace HB := bh HB hb; (try clear hb); (try clear hb2); (try clear hk); (try clear hi)) | (go_at_call 24; (with_reducible refine (stickfullaw21_head.calls kj25  t419 _ A50.out).mono ?_); rintro e w54 ⟨rfl, hb⟩; replace HO_9 := Aside0.mk (Kd.R_below (rx HO_9) hb); replace HO_10 := Aside0.mk (Kd.R_below (rx HO_10) hb); replace HB := bh HB hb; (try clear hb); (try clear hb2); (try clear hk); (try clear hi)))
                                            go_ret
                                            exact ⟨by first | rfl | (simp [errW_none, errW_some] <;> rfl) | (simp only [← hji20]; first | rfl | (simp [errW_none, errW_some] <;> rfl)) | (simp [*, errW_none, errW_some] <;> rfl), by repeat (first | (with_reducible first | exact HB.out | apply below_alloc | apply pw_below_drewN | apply below_drew1) | exact HB.out)⟩
                                          · rw [if_neg c49] at H
                                            have c49b0 : decide (t411 ≤ t417) = false := decide_eq_false c49
                                            clear c49
                                            exact absurd ((Option.some.inj H).trans HR_.out) (by decide)
                                        · rw [if_neg c48] at H
                                          have c48b0 : decide (t410 ≤ t416) = false := decide_eq_false c48
                                          clear c48
                                          exact absurd ((Option.some.inj H).trans HR_.out) (by decide)
                                      · rw [if_neg c47] at H
                                        have c47b0 : (t414 == t411) = false := beq_eq_false_iff_ne.mpr c47
                                        have c47b1 : (t414 != t411) = true := bne_iff_ne.mpr c47
                                        exact absurd ((Option.some.inj H).trans HR_.out) (by decide)
                                    · rw [if_neg c46] at H
                                      have c46b0 : decide (t413 ≤ t410) = false := decide_eq_false c46
                                      clear c46
                                      exact absurd ((Option.some.inj H).trans HR_.out) (by decide)
                                  · rw [if_neg c45] at H
                                    have c45b0 : (t418 == 0) = false := beq_eq_false_iff_ne.mpr c45
                                    have c45b1 : (t418 != 0) = true := bne_iff_ne.mpr c45
                                    exact absurd ((Option.some.inj H).trans HR_.out) (by decide)
                                · rw [if_neg c44] at H
                                  have c44b0 : (t415 == 0) = false := beq_eq_false_iff_ne.mpr c44
                                  have c44b1 : (t415 != 0) = true := bne_iff_ne.mpr c44
                                  exact absurd ((Option.some.inj H).trans HR_.out) (by decide)
                              · rw [if_neg c43] at H
                                have c43b0 : (t412 == 0) = false := beq_eq_false_iff_ne.mpr c43
                                have c43b1 : (t412 != 0) = true := bne_iff_ne.mpr c43
                                exact absurd ((Option.some.inj H).trans HR_.out) (by decide)
                        · rw [if_neg c25] at H
                          exact absurd H (by simp)
                      · rw [if_neg c24] at H
                        exact absurd H (by simp)
                    · rw [if_neg c22] at H
                      exact absurd H (by simp)
                  · rw [if_neg c21] at H
                    exact absurd H (by simp)
                · rw [if_neg c19] at H
                  exact absurd H (by simp)

end Go.Proofs.Ytkegnlidlabjeaa.HIntr
