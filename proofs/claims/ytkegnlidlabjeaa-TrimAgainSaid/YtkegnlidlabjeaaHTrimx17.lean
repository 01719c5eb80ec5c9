-- Written by this claim's own program over the kit's print.
import Derived.Test.YtkegnlidlabjeaaHTrimb
import Derived.Test.YtkegnlidlabjeaaHTrimx0
import Derived.Test.YtkegnlidlabjeaaHTrimx2
import Derived.Test.YtkegnlidlabjeaaHTrimx9
import Derived.Test.YtkegnlidlabjeaaHTrimx11
import Derived.Test.YtkegnlidlabjeaaHTrimx16
namespace Go.Proofs.Ytkegnlidlabjeaa.HTrim
open Go.RowKit Go.Proofs.YtkegnlidlabjeaaW.PrintWords Go.Proofs.YtkegnlidlabjeaaW.PrintLast Go.Proofs.YtkegnlidlabjeaaW.PrintMore Go.Proofs.Ytkegnlidlabjeaa.Hand
attribute [local go_sem] max2_int min2_int max_two min_two max_three min_three max_four min_four   -- for this text's walks alone
set_option linter.unusedVariables false
set_option linter.unusedSimpArgs false

/-! ### stickfullaw13_TrimAgain: function 4 -/
mutual
def stickfullaw13_TrimAgain.l0 : Nat → List (S35) → List Int → List (S35) → List Int → Int → Option (Bool)
  | 0, _, _, _, _, _ => none
  | k + 1, x0, x3, x4, x5, x6 => if x6 < (x0.length : Int) then (if 0 ≤ x6 then (if x6 < (x3.length : Int) then (if (rd x3 x6) = 1 then (if ((rd_T35 x0 x6).f0) = 1 then (if (rd x3 x6) = 2 then (if ((rd_T35 x0 x6).f0) = 2 then (if (rd x3 x6) > 2 then (some false) else (stickfullaw13_TrimAgain.l0 k x0 x3 x4 x5 (wrap64 (x6 + 1)))) else (some false)) else (if (rd x3 x6) > 2 then (some false) else (stickfullaw13_TrimAgain.l0 k x0 x3 x4 x5 (wrap64 (x6 + 1))))) else (some false)) else (if x4.length < 3518437208883 then ((some (x4 ++ [(⟨(rd_T35 x0 x6).f0, (rd_T35 x0 x6).f1, (rd_T35 x0 x6).f2, (rd_T35 x0 x6).f3, (rd_T35 x0 x6).f4, (rd_T35 x0 x6).f5⟩ : S35)] : List (S35))).bind fun y329 => (if x5.length < 140737488355328 then ((some (x5 ++ [rd x3 x6] : List Int)).bind fun y333 => (if (rd x3 x6) = 2 then (if ((rd_T35 x0 x6).f0) = 2 then (if (rd x3 x6) > 2 then (some false) else (stickfullaw13_TrimAgain.l0 k x0 x3 y329 y333 (wrap64 (x6 + 1)))) else (some false)) else (if (rd x3 x6) > 2 then (some false) else (stickfullaw13_TrimAgain.l0 k x0 x3 y329 y333 (wrap64 (x6 + 1)))))) else (none))) else (none))) else (none)) else (none)) else ((trim_Roles.f x4).bind fun t341 => ((stickfulref13_Same.f k t341 x5).bind fun t344 => (if t344 = true then (stickfullaw13_TrimAgain.l1 k x4 0) else (some false))))
def stickfullaw13_TrimAgain.l1 : Nat → List (S35) → Int → Option (Bool)
  | 0, _, _ => none
  | k + 1, x4, x7 => if x7 < (x4.length : Int) then (if 0 ≤ x7 then (if ((rd_T35 x4 x7).f0) = 1 then (if x7 ≤ (x4.length : Int) then ((stickfullaw13_some.f k (x4.take (x7 : Int).toNat)).bind fun t351 => (if t351 = 0 then (some false) else (if 0 ≤ (wrap64 (x7 + 1)) then (if (wrap64 (x7 + 1)) ≤ (x4.length : Int) then ((stickfullaw13_some.f k (x4.drop ((wrap64 (x7 + 1)) : Int).toNat)).bind fun t356 => (if t356 = 0 then (some false) else (stickfullaw13_TrimAgain.l1 k x4 (wrap64 (x7 + 1))))) else (none)) else (none)))) else (none)) else (stickfullaw13_TrimAgain.l1 k x4 (wrap64 (x7 + 1)))) else (none)) else ((stickfullaw13_head.f k).bind fun t345 => (some t345))
end
def stickfullaw13_TrimAgain.f (k : Nat) (l0 : List (S35)) : Option (Bool) := if (l0.length : Int) > 150 then ((stickfullaw13_head.f k).bind fun t317 => (some t317)) else ((trim_Roles.f l0).bind fun t318 => (if (t318.length : Int) = (l0.length : Int) then (stickfullaw13_TrimAgain.l0 k l0 t318 ([] : List (S35)) ([] : List Int) 0) else (some false)))
theorem stickfullaw13_TrimAgain.mono_l : ∀ k, (∀ y0 y1 y2 y3 y4, LeO (stickfullaw13_TrimAgain.l0 k y0 y1 y2 y3 y4) (stickfullaw13_TrimAgain.l0 (k + 1) y0 y1 y2 y3 y4)) ∧ (∀ y0 y1, LeO (stickfullaw13_TrimAgain.l1 k y0 y1) (stickfullaw13_TrimAgain.l1 (k + 1) y0 y1))
  | 0 => ⟨fun _ _ _ _ _ r h => by simp [stickfullaw13_TrimAgain.l0] at h, fun _ _ r h => by simp [stickfullaw13_TrimAgain.l1] at h⟩
  | k + 1 => by
    obtain ⟨ih0, ih1⟩ := stickfullaw13_TrimAgain.mono_l k
    refine ⟨?_, ?_⟩
    · intro y0 y1 y2 y3 y4
      unfold stickfullaw13_TrimAgain.l0
      repeat' first
      | (with_reducible exact ih0 _ _ _ _ _)
      | (with_reducible exact ih1 _ _)
      | (with_reducible exact stickfullaw13_head.mono _)
      | (with_reducible exact stickfullaw13_some.mono _ _)
      | (with_reducible exact stickfulref13_Same.mono _ _ _)
      | (with_reducible exact LeO.refl _)
      | (with_reducible exact LeO.none _)
      | (with_reducible refine LeO.ite ?_ ?_)
      | (with_reducible refine LeO.bind ?_ (fun _ => ?_))
      | exact ih0 _ _ _ _ _
      | exact ih1 _ _
      | exact stickfullaw13_head.mono _
      | exact stickfullaw13_some.mono _ _
      | exact stickfulref13_Same.mono _ _ _
      | exact LeO.none _
      | refine LeO.ite ?_ ?_
      | refine LeO.bind ?_ (fun _ => ?_)
    · intro y0 y1
      unfold stickfullaw13_TrimAgain.l1
      repeat' first
      | (with_reducible exact ih0 _ _ _ _ _)
      | (with_reducible exact ih1 _ _)
      | (with_reducible exact stickfullaw13_head.mono _)
      | (with_reducible exact stickfullaw13_some.mono _ _)
      | (with_reducible exact stickfulref13_Same.mono _ _ _)
      | (with_reducible exact LeO.refl _)
      | (with_reducible exact LeO.none _)
      | (with_reducible refine LeO.ite ?_ ?_)
      | (with_reducible refine LeO.bind ?_ (fun _ => ?_))
      | exact ih0 _ _ _ _ _
      | exact ih1 _ _
      | exact stickfullaw13_head.mono _
      | exact stickfullaw13_some.mono _ _
      | exact stickfulref13_Same.mono _ _ _
      | exact LeO.none _
      | refine LeO.ite ?_ ?_
      | refine LeO.bind ?_ (fun _ => ?_)
theorem stickfullaw13_TrimAgain.mono : ∀ a0 k, LeO (stickfullaw13_TrimAgain.f k a0) (stickfullaw13_TrimAgain.f (k + 1) a0) := by
  intro a0 k
  obtain ⟨ih0, ih1⟩ := stickfullaw13_TrimAgain.mono_l k
  unfold stickfullaw13_TrimAgain.f
  repeat' first
      | (with_reducible exact ih0 _ _ _ _ _)
      | (with_reducible exact ih1 _ _)
      | (with_reducible exact stickfullaw13_head.mono _)
      | (with_reducible exact stickfullaw13_some.mono _ _)
      | (with_reducible exact stickfulref13_Same.mono _ _ _)
      | (with_reducible exact LeO.refl _)
      | (with_reducible exact LeO.none _)
      | (with_reducible refine LeO.ite ?_ ?_)
      | (with_reducible refine LeO.bind ?_ (fun _ => ?_))
      | exact ih0 _ _ _ _ _
      | exact ih1 _ _
      | exact stickfullaw13_head.mono _
      | exact stickfullaw13_some.mono _ _
      | exact stickfulref13_Same.mono _ _ _
      | exact LeO.none _
      | refine LeO.ite ?_ ?_
      | refine LeO.bind ?_ (fun _ => ?_)
set_option maxHeartbeats 8000000 in
set_option maxRecDepth 100000 in
theorem stickfullaw13_TrimAgain.calls_t (k : Nat) (A0 : Option Addr) (c0 : Nat) (l0 : List (S35)) (r : Bool) (w : World) (hr0 : Kd.C k35 w A0 l0.length l0) (hc0 : l0.length ≤ c0) (h : stickfullaw13_TrimAgain.f k l0 = some r) (hr_ : r = true) :
    Calls Try.prog 4 #[.slice A0 l0.length c0] w fun e w' => e = .returned (.bool r) ∧ Below w.heap.size w w' := by
  have hu35 := Try.underlying35
  have HR_ := Aside0.mk hr_
  clear hr_
  have HR0 := Aside0.mk hr0
  have HC0 := Aside0.mk hc0
  clear hr0 hc0
  have HB := Aside0.mk (Below.refl w.heap.size w)
  have H : (if (l0.length : Int) > 150 then ((stickfullaw13_head.f k).bind fun t317 => (some t317)) else ((trim_Roles.f l0).bind fun t318 => (if (t318.length : Int) = (l0.length : Int) then (stickfullaw13_TrimAgain.l0 k l0 t318 ([] : List (S35)) ([] : List Int) 0) else (some false)))) = some r := h
  clear h
  by_cases c2 : (l0.length : Int) > 150
  · rw [if_pos c2] at H
    have c2b0 : decide (150 < (l0.length : Int)) = true := decide_eq_true c2
    have c2b1 : decide (150 < l0.length) = true := decide_eq_true (by omega)
    clear c2
    replace H := Option.bind_eq_some_iff.mp H
    obtain ⟨t317, A30, H⟩ := H
    replace H : (some t317) = some r := H
    have A3 := Aside0.mk A30
    clear A30
    obtain rfl := Option.some.inj H
    go_enter Try.func4, Try.ntmps4
    go_wp2_with (first | ((with_reducible refine gate_callee (f := 11) rfl ?_); refine goesB (some 11) rfl rfl Try.func11 #[] rfl ?_; (with_reducible refine (stickfullaw13_head.calls k  t317 _ A3.out).mono ?_); rintro e w4 ⟨rfl, hb⟩; refine ⟨_, rfl, ?_⟩; replace HB := bh HB hb; (try clear hb); (try clear hb2); (try clear hk); (try clear hi)))
    go_ret
    exact ⟨by first | rfl | (simp [errW_none, errW_some] <;> rfl) | (simp [*, errW_none, errW_some] <;> rfl), by repeat (first | (with_reducible first | exact HB.out | apply below_alloc | apply pw_below_drewN | apply below_drew1) | exact HB.out)⟩
  · rw [if_neg c2] at H
    have c2b0 : decide (150 < (l0.length : Int)) = false := decide_eq_false c2
    have c2b1 : decide (150 < l0.length) = false := decide_eq_false (by omega)
    clear c2
    replace H := Option.bind_eq_some_iff.mp H
    obtain ⟨t318, A50, H⟩ := H
    replace H : (if (t318.length : Int) = (l0.length : Int) then (stickfullaw13_TrimAgain.l0 k l0 t318 ([] : List (S35)) ([] : List Int) 0) else (some false)) = some r := H
    have A5 := Aside0.mk A50
    clear A50
    by_cases c6 : (t318.length : Int) = (l0.length : Int)
    · rw [if_pos c6] at H
      have c6b0 : ((t318.length : Int) == (l0.length : Int)) = true := beq_iff_eq.mpr c6
      have c6b1 : ((t318.length : Int) != (l0.length : Int)) = false := bne_eq_false_iff_eq.mpr c6
      have c6b2 : (t318.length == l0.length) = true := by first | simpa using c6 | (simp at c6 ⊢; omega)
      clear c6
      have H' := Aside0.mk H
      clear H
      go_enter Try.func4, Try.ntmps4
      go_wp2_with (first | ((with_reducible refine gate_callee (f := 17) rfl ?_); refine goesB (some 13) rfl rfl Try.func17 #[.slice A0 l0.length c0] rfl ?_; (with_reducible refine (trim_Roles.calls _ _ l0 t318 _ ?side1 ?side2 A5.out).mono ?_); (case side1 => repeat (first | exact HR0.out | (with_reducible refine Kd.C_alloc ?_ _) | (with_reducible refine Kd.C_drewN ?_ _) | (with_reducible refine Kd.C_drew ?_))); (case side2 => exact HC0.out); rintro e w7 ⟨v319, rfl, ho0, hb⟩; refine ⟨_, rfl, ?_⟩; have HO320 := Aside0.mk (Kd.R_lower ho0 (below_size (bw HB))); replace HB := bh HB hb; (try clear hb); (try clear hb2); (try clear hk); (try clear hi); (try clear ho0); obtain ⟨Ao8, co8, eo8⟩ := Kd.R_slice HO320.out; subst eo8))
      go_loopg [4, 5, 6] k (fun kq v4 v5 v6 w' => ∃ (x4_1 : List (S35)) (x5_1 : List Int) (x6_1 : Int), v6 = .int .i64 x6_1 ∧ Aside0 (stickfullaw13_TrimAgain.l0 kq l0 t318 x4_1 x5_1 x6_1 = some r) ∧ Aside0 (kq ≤ k) ∧ Aside0 (Kd.R (Kd.int .u8) 5 w' w.heap.size (fun k_ => some k_ ≠ (v5 : Value).ownBlock) (.slice Ao8 t318.length co8) t318) ∧ Aside0 (Kd.R k35 35 w' w.heap.size (fun _ => True) v4 x4_1) ∧ Aside0 (Kd.R (Kd.int .u8) 5 w' w.heap.size (fun k_ => some k_ ≠ ((.slice Ao8 t318.length co8) : Value).ownBlock) v5 x5_1) ∧ Aside0 (Below w.heap.size w w'))
      case atStart => exact ⟨(([] : List (S35))), (([] : List Int)), (0), (by first | rfl | (simp; done) | (simp [*]; done)), H', ⟨Nat.le_refl _⟩, ⟨by (with_reducible repeat (first | apply Kd.R_alloc | apply Kd.R_drewN | apply Kd.R_drew)); exact Kd.R_mono HO320.out (fun _ hk => (by simp [Value.ownBlock]))⟩, ⟨by first | exact Kd.R_nil _ _ _ _ _ | exact Kd.N_nil _ _ _ _ _ | exact Kd.V_nil _ _ _ _ _ | exact Kd.Q_nil _ _ _ _ _ | exact Kd.S_nil _ _ _ _ _⟩, ⟨by first | exact Kd.R_nil _ _ _ _ _ | exact Kd.N_nil _ _ _ _ _ | exact Kd.V_nil _ _ _ _ _ | exact Kd.Q_nil _ _ _ _ _ | exact Kd.S_nil _ _ _ _ _⟩, ⟨by repeat (first | (with_reducible first | exact HB.out | apply below_alloc | apply pw_below_drewN | apply below_drew1) | exact HB.out)⟩⟩
      case round =>
        clear H'
        try clear c1
        try clear c2
        try clear c2b0
        try clear c2b1
        try clear p2
        try clear c4
        try clear c6
        try clear c6b0
        try clear c6b1
        try clear c6b2
        obtain ⟨x4_1, x5_1, x6_1, rfl, HA, HK1, HO_3, HO_4, HO_5, HB⟩ := hrel
        cases gk with
        | zero => exact absurd HA.out (by simp [stickfullaw13_TrimAgain.l0])
        | succ k1 =>
          have H := HA.out
          clear HA
          simp only [stickfullaw13_TrimAgain.l0] at H
          by_cases c9 : x6_1 < (l0.length : Int)
          · rw [if_pos c9] at H
            have c9b0 : decide (x6_1 < (l0.length : Int)) = true := decide_eq_true c9
            clear c9
            by_cases c10 : 0 ≤ x6_1
            · rw [if_pos c10] at H
              have c10b0 : decide (0 ≤ x6_1) = true := decide_eq_true c10
              clear c10
              by_cases c11 : x6_1 < (t318.length : Int)
              · rw [if_pos c11] at H
                have c11b0 : decide (x6_1 < (t318.length : Int)) = true := decide_eq_true c11
                clear c11
                by_cases c12 : (rd t318 x6_1) = 1
                · rw [if_pos c12] at H
                  have c12b0 : ((rd t318 x6_1) == 1) = true := beq_iff_eq.mpr c12
                  have c12b1 : ((rd t318 x6_1) != 1) = false := bne_eq_false_iff_eq.mpr c12
                  clear c12
                  by_cases c13 : ((rd_T35 l0 x6_1).f0) = 1
                  · rw [if_pos c13] at H
                    have c13b0 : (((rd_T35 l0 x6_1).f0) == 1) = true := beq_iff_eq.mpr c13
                    have c13b1 : (((rd_T35 l0 x6_1).f0) != 1) = false := bne_eq_false_iff_eq.mpr c13
                    clear c13
                    by_cases c14 : (rd t318 x6_1) = 2
                    · rw [if_pos c14] at H
                      have c14b0 : ((rd t318 x6_1) == 2) = true := beq_iff_eq.mpr c14
                      have c14b1 : ((rd t318 x6_1) != 2) = false := bne_eq_false_iff_eq.mpr c14
                      clear c14
                      by_cases c15 : ((rd_T35 l0 x6_1).f0) = 2
                      · rw [if_pos c15] at H
                        have c15b0 : (((rd_T35 l0 x6_1).f0) == 2) = true := beq_iff_eq.mpr c15
                        have c15b1 : (((rd_T35 l0 x6_1).f0) != 2) = false := bne_eq_false_iff_eq.mpr c15
                        clear c15
                        by_cases c16 : (rd t318 x6_1) > 2
                        · rw [if_pos c16] at H
                          have c16b0 : decide (2 < (rd t318 x6_1)) = true := decide_eq_true c16
                          clear c16
                          exact absurd ((Option.some.inj H).trans HR_.out) (by decide)
                        · rw [if_neg c16] at H
                          have c16b0 : decide (2 < (rd t318 x6_1)) = false := decide_eq_false c16
                          clear c16
                          have H' := Aside0.mk H
                          clear H
                          have p321 : 0 ≤ (x6_1 : Int) := of_decide_eq_true (by first | (with_reducible assumption) | assumption)
                          have q321 : x6_1 < (t318.length : Int) := of_decide_eq_true (by first | (with_reducible assumption) | assumption)
                          obtain ⟨ad321, e321, hx321_0⟩ := Kd.at_int (Kd.R_reads' HO_3.out).2.2 x6_1 p321 q321
                          cases e321
                          replace p321 := eq_true p321
                          replace q321 := eq_true q321
                          have p322 : 0 ≤ (x6_1 : Int) := of_decide_eq_true (by first | (with_reducible assumption) | assumption)
                          have q322 : x6_1 < (t318.length : Int) := of_decide_eq_true (by first | (with_reducible assumption) | assumption)
                          obtain ⟨ad322, e322, hx322_0⟩ := Kd.at_int (Kd.R_reads' HO_3.out).2.2 x6_1 p322 q322
                          obtain rfl : ad321 = ad322 := (by injection e322)
                          replace p322 := eq_true p322
                          replace q322 := eq_true q322
                          have p323 : 0 ≤ (x6_1 : Int) := of_decide_eq_true (by first | (with_reducible assumption) | assumption)
                          have q323 : x6_1 < (l0.length : Int) := of_decide_eq_true (by first | (with_reducible assumption) | assumption)
                          obtain ⟨ad323, e323, hx323_0, hx323_1, hx323_2, hx323_3, hx323_4, hx323_5⟩ := at_T35 HR0.out x6_1 p323 q323
                          cases e323
                          replace hx323_0 := (HB.out.cell (World.block_lt_of_cell? w _ hx323_0)).trans hx323_0
                          replace hx323_1 := (HB.out.cell (World.block_lt_of_cell? w _ hx323_1)).trans hx323_1
                          replace hx323_2 := (HB.out.cell (World.block_lt_of_cell? w _ hx323_2)).trans hx323_2
                          replace hx323_3 := (HB.out.cell (World.block_lt_of_cell? w _ hx323_3)).trans hx323_3
                          replace hx323_4 := (HB.out.cell (World.block_lt_of_cell? w _ hx323_4)).trans hx323_4
                          replace hx323_5 := (HB.out.cell (World.block_lt_of_cell? w _ hx323_5)).trans hx323_5
                          replace p323 := eq_true p323
                          replace q323 := eq_true q323
                          have p324 : 0 ≤ (x6_1 : Int) := of_decide_eq_true (by first | (with_reducible assumption) | assumption)
                          have q324 : x6_1 < (t318.length : Int) := of_decide_eq_true (by first | (with_reducible assumption) | assumption)
                          obtain ⟨ad324, e324, hx324_0⟩ := Kd.at_int (Kd.R_reads' HO_3.out).2.2 x6_1 p324 q324
                          obtain rfl : ad321 = ad324 := (by injection e324)
                          replace p324 := eq_true p324
                          replace q324 := eq_true q324
                          have p325 : 0 ≤ (x6_1 : Int) := of_decide_eq_true (by first | (with_reducible assumption) | assumption)
                          have q325 : x6_1 < (l0.length : Int) := of_decide_eq_true (by first | (with_reducible assumption) | assumption)
                          obtain ⟨ad325, e325, hx325_0, hx325_1, hx325_2, hx325_3, hx325_4, hx325_5⟩ := at_T35 HR0.out x6_1 p325 q325
                          obtain rfl : ad323 = ad325 := (by injection e325)
                          replace hx325_0 := (HB.out.cell (World.block_lt_of_cell? w _ hx325_0)).trans hx325_0
                          replace hx325_1 := (HB.out.cell (World.block_lt_of_cell? w _ hx325_1)).trans hx325_1
                          replace hx325_2 := (HB.out.cell (World.block_lt_of_cell? w _ hx325_2)).trans hx325_2
                          replace hx325_3 := (HB.out.cell (World.block_lt_of_cell? w _ hx325_3)).trans hx325_3
                          replace hx325_4 := (HB.out.cell (World.block_lt_of_cell? w _ hx325_4)).trans hx325_4
                          replace hx325_5 := (HB.out.cell (World.block_lt_of_cell? w _ hx325_5)).trans hx325_5
                          replace p325 := eq_true p325
                          replace q325 := eq_true q325
                          have p326 : 0 ≤ (x6_1 : Int) := of_decide_eq_true (by first | (with_reducible assumption) | assumption)
                          have q326 : x6_1 < (t318.length : Int) := of_decide_eq_true (by first | (with_reducible assumption) | assumption)
                          obtain ⟨ad326, e326, hx326_0⟩ := Kd.at_int (Kd.R_reads' HO_3.out).2.2 x6_1 p326 q326
                          obtain rfl : ad321 = ad326 := (by injection e326)
                          replace p326 := eq_true p326
                          replace q326 := eq_true q326
                          go_wp2
                          go_roundg k1
                          case measure => have := HK1.out; omega
                          case rel => exact ⟨(x4_1), (x5_1), (wrap64 (x6_1 + 1)), (by first | rfl | (simp; done) | (simp [*]; done)), H', ⟨by have := HK1.out; omega⟩, ⟨by (with_reducible repeat (first | apply Kd.R_alloc | apply Kd.R_drewN | apply Kd.R_drew)); exact HO_3.out⟩, ⟨by (with_reducible repeat (first | apply Kd.R_alloc | apply Kd.R_drewN | apply Kd.R_drew)); exact HO_4.out⟩, ⟨by (with_reducible repeat (first | apply Kd.R_alloc | apply Kd.R_drewN | apply Kd.R_drew)); exact HO_5.out⟩, ⟨by repeat (first | (with_reducible first | exact HB.out | apply below_alloc | apply pw_below_drewN | apply below_drew1) | exact HB.out)⟩⟩
                      · rw [if_neg c15] at H
                        have c15b0 : (((rd_T35 l0 x6_1).f0) == 2) = false := beq_eq_false_iff_ne.mpr c15
                        have c15b1 : (((rd_T35 l0 x6_1).f0) != 2) = true := bne_iff_ne.mpr c15
                        exact absurd ((Option.some.inj H).trans HR_.out) (by decide)
                    · rw [if_neg c14] at H
                      have c14b0 : ((rd t318 x6_1) == 2) = false := beq_eq_false_iff_ne.mpr c14
                      have c14b1 : ((rd t318 x6_1) != 2) = true := bne_iff_ne.mpr c14
                      by_cases c17 : (rd t318 x6_1) > 2
                      · rw [if_pos c17] at H
                        have c17b0 : decide (2 < (rd t318 x6_1)) = true := decide_eq_true c17
                        clear c17
                        exact absurd ((Option.some.inj H).trans HR_.out) (by decide)
                      · rw [if_neg c17] at H
                        have c17b0 : decide (2 < (rd t318 x6_1)) = false := decide_eq_false c17
                        clear c17
                        have H' := Aside0.mk H
                        clear H
                        have p321 : 0 ≤ (x6_1 : Int) := of_decide_eq_true (by first | (with_reducible assumption) | assumption)
                        have q321 : x6_1 < (t318.length : Int) := of_decide_eq_true (by first | (with_reducible assumption) | assumption)
                        obtain ⟨ad321, e321, hx321_0⟩ := Kd.at_int (Kd.R_reads' HO_3.out).2.2 x6_1 p321 q321
                        cases e321
                        replace p321 := eq_true p321
                        replace q321 := eq_true q321
                        have p322 : 0 ≤ (x6_1 : Int) := of_decide_eq_true (by first | (with_reducible assumption) | assumption)
                        have q322 : x6_1 < (t318.length : Int) := of_decide_eq_true (by first | (with_reducible assumption) | assumption)
                        obtain ⟨ad322, e322, hx322_0⟩ := Kd.at_int (Kd.R_reads' HO_3.out).2.2 x6_1 p322 q322
                        obtain rfl : ad321 = ad322 := (by injection e322)
                        replace p322 := eq_true p322
                        replace q322 := eq_true q322
                        have p323 : 0 ≤ (x6_1 : Int) := of_decide_eq_true (by first | (with_reducible assumption) | assumption)
                        have q323 : x6_1 < (l0.length : Int) := of_decide_eq_true (by first | (with_reducible assumption) | assumption)
                        obtain ⟨ad323, e323, hx323_0, hx323_1, hx323_2, hx323_3, hx323_4, hx323_5⟩ := at_T35 HR0.out x6_1 p323 q323
                        cases e323
                        replace hx323_0 := (HB.out.cell (World.block_lt_of_cell? w _ hx323_0)).trans hx323_0
                        replace hx323_1 := (HB.out.cell (World.block_lt_of_cell? w _ hx323_1)).trans hx323_1
                        replace hx323_2 := (HB.out.cell (World.block_lt_of_cell? w _ hx323_2)).trans hx323_2
                        replace hx323_3 := (HB.out.cell (World.block_lt_of_cell? w _ hx323_3)).trans hx323_3
                        replace hx323_4 := (HB.out.cell (World.block_lt_of_cell? w _ hx323_4)).trans hx323_4
                        replace hx323_5 := (HB.out.cell (World.block_lt_of_cell? w _ hx323_5)).trans hx323_5
                        replace p323 := eq_true p323
                        replace q323 := eq_true q323
                        have p324 : 0 ≤ (x6_1 : Int) := of_decide_eq_true (by first | (with_reducible assumption) | assumption)
                        have q324 : x6_1 < (t318.length : Int) := of_decide_eq_true (by first | (with_reducible assumption) | assumption)
                        obtain ⟨ad324, e324, hx324_0⟩ := Kd.at_int (Kd.R_reads' HO_3.out).2.2 x6_1 p324 q324
                        obtain rfl : ad321 = ad324 := (by injection e324)
                        replace p324 := eq_true p324
                        replace q324 := eq_true q324
                        have p327 : 0 ≤ (x6_1 : Int) := of_decide_eq_true (by first | (with_reducible assumption) | assumption)
                        have q327 : x6_1 < (t318.length : Int) := of_decide_eq_true (by first | (with_reducible assumption) | assumption)
                        obtain ⟨ad327, e327, hx327_0⟩ := Kd.at_int (Kd.R_reads' HO_3.out).2.2 x6_1 p327 q327
                        obtain rfl : ad321 = ad327 := (by injection e327)
                        replace p327 := eq_true p327
                        replace q327 := eq_true q327
                        go_wp2
                        go_roundg k1
                        case measure => have := HK1.out; omega
                        case rel => exact ⟨(x4_1), (x5_1), (wrap64 (x6_1 + 1)), (by first | rfl | (simp; done) | (simp [*]; done)), H', ⟨by have := HK1.out; omega⟩, ⟨by (with_reducible repeat (first | apply Kd.R_alloc | apply Kd.R_drewN | apply Kd.R_drew)); exact HO_3.out⟩, ⟨by (with_reducible repeat (first | apply Kd.R_alloc | apply Kd.R_drewN | apply Kd.R_drew)); exact HO_4.out⟩, ⟨by (with_reducible repeat (first | apply Kd.R_alloc | apply Kd.R_drewN | apply Kd.R_drew)); exact HO_5.out⟩, ⟨by repeat (first | (with_reducible first | exact HB.out | apply below_alloc | apply pw_below_drewN | apply below_drew1) | exact HB.out)⟩⟩
                  · rw [if_neg c13] at H
                    have c13b0 : (((rd_T35 l0 x6_1).f0) == 1) = false := beq_eq_false_iff_ne.mpr c13
                    have c13b1 : (((rd_T35 l0 x6_1).f0) != 1) = true := bne_iff_ne.mpr c13
                    exact absurd ((Option.some.inj H).trans HR_.out) (by decide)
                · rw [if_neg c12] at H
                  have c12b0 : ((rd t318 x6_1) == 1) = false := beq_eq_false_iff_ne.mpr c12
                  have c12b1 : ((rd t318 x6_1) != 1) = true := bne_iff_ne.mpr c12
                  by_cases c18 : x4_1.length < 3518437208883
                  · rw [if_pos c18] at H
                    have LMc18 := Aside0.mk c18
                    clear c18
                    obtain ⟨y329, hy329⟩ : ∃ y_ : List (S35), y_ = (x4_1 ++ [(⟨(rd_T35 l0 x6_1).f0, (rd_T35 l0 x6_1).f1, (rd_T35 l0 x6_1).f2, (rd_T35 l0 x6_1).f3, (rd_T35 l0 x6_1).f4, (rd_T35 l0 x6_1).f5⟩ : S35)]) := ⟨_, rfl⟩
                    replace H : (if x5_1.length < 140737488355328 then ((some (x5_1 ++ [rd t318 x6_1] : List Int)).bind fun y333 => (if (rd t318 x6_1) = 2 then (if ((rd_T35 l0 x6_1).f0) = 2 then (if (rd t318 x6_1) > 2 then (some false) else (stickfullaw13_TrimAgain.l0 k1 l0 t318 y329 y333 (wrap64 (x6_1 + 1)))) else (some false)) else (if (rd t318 x6_1) > 2 then (some false) else (stickfullaw13_TrimAgain.l0 k1 l0 t318 y329 y333 (wrap64 (x6_1 + 1)))))) else (none)) = some r := by first | (rw [hy329]; with_reducible exact H) | (have H2_ := (Option.bind_some _ _).symm.trans H; rw [hy329]; with_reducible exact H2_) | (have H2_ := (Option.bind_some _ _).symm.trans H; with_reducible exact H2_) | with_reducible exact H | (rw [hy329]; exact H) | exact H
                    have Ny329 := Aside0.mk hy329
                    clear hy329
                    by_cases c19 : x5_1.length < 140737488355328
                    · rw [if_pos c19] at H
                      have LMc19 := Aside0.mk c19
                      clear c19
                      obtain ⟨y333, hy333⟩ : ∃ y_ : List Int, y_ = (x5_1 ++ [rd t318 x6_1]) := ⟨_, rfl⟩
                      replace H : (if (rd t318 x6_1) = 2 then (if ((rd_T35 l0 x6_1).f0) = 2 then (if (rd t318 x6_1) > 2 then (some false) else (stickfullaw13_TrimAgain.l0 k1 l0 t318 y329 y333 (wrap64 (x6_1 + 1)))) else (some false)) else (if (rd t318 x6_1) > 2 then (some false) else (stickfullaw13_TrimAgain.l0 k1 l0 t318 y329 y333 (wrap64 (x6_1 + 1))))) = some r := by first | (rw [hy333]; with_reducible exact H) | (have H2_ := (Option.bind_some _ _).symm.trans H; rw [hy333]; with_reducible exact H2_) | (have H2_ := (Option.bind_some _ _).symm.trans H; with_reducible exact H2_) | with_reducible exact H | (rw [hy333]; exact H) | exact H
                      have Ny333 := Aside0.mk hy333
                      clear hy333
                      by_cases c20 : (rd t318 x6_1) = 2
                      · rw [if_pos c20] at H
                        have c20b0 : ((rd t318 x6_1) == 2) = true := beq_iff_eq.mpr c20
                        have c20b1 : ((rd t318 x6_1) != 2) = false := bne_eq_false_iff_eq.mpr c20
                        clear c20
                        by_cases c21 : ((rd_T35 l0 x6_1).f0) = 2
                        · rw [if_pos c21] at H
                          have c21b0 : (((rd_T35 l0 x6_1).f0) == 2) = true := beq_iff_eq.mpr c21
                          have c21b1 : (((rd_T35 l0 x6_1).f0) != 2) = false := bne_eq_false_iff_eq.mpr c21
                          clear c21
                          by_cases c22 : (rd t318 x6_1) > 2
                          · rw [if_pos c22] at H
                            have c22b0 : decide (2 < (rd t318 x6_1)) = true := decide_eq_true c22
                            clear c22
                            exact absurd ((Option.some.inj H).trans HR_.out) (by decide)
                          · rw [if_neg c22] at H
                            have c22b0 : decide (2 < (rd t318 x6_1)) = false := decide_eq_false c22
                            clear c22
                            have H' := Aside0.mk H
                            clear H
                            have p321 : 0 ≤ (x6_1 : Int) := of_decide_eq_true (by first | (with_reducible assumption) | assumption)
                            have q321 : x6_1 < (t318.length : Int) := of_decide_eq_true (by first | (with_reducible assumption) | assumption)
                            obtain ⟨ad321, e321, hx321_0⟩ := Kd.at_int (Kd.R_reads' HO_3.out).2.2 x6_1 p321 q321
                            cases e321
                            replace p321 := eq_true p321
                            replace q321 := eq_true q321
                            have p328 : 0 ≤ (x6_1 : Int) := of_decide_eq_true (by first | (with_reducible assumption) | assumption)
                            have q328 : x6_1 < (l0.length : Int) := of_decide_eq_true (by first | (with_reducible assumption) | assumption)
                            obtain ⟨ad328, e328, hx328_0, hx328_1, hx328_2, hx328_3, hx328_4, hx328_5⟩ := at_T35 HR0.out x6_1 p328 q328
                            cases e328
                            replace hx328_0 := (HB.out.cell (World.block_lt_of_cell? w _ hx328_0)).trans hx328_0
                            replace hx328_1 := (HB.out.cell (World.block_lt_of_cell? w _ hx328_1)).trans hx328_1
                            replace hx328_2 := (HB.out.cell (World.block_lt_of_cell? w _ hx328_2)).trans hx328_2
                            replace hx328_3 := (HB.out.cell (World.block_lt_of_cell? w _ hx328_3)).trans hx328_3
                            replace hx328_4 := (HB.out.cell (World.block_lt_of_cell? w _ hx328_4)).trans hx328_4
                            replace hx328_5 := (HB.out.cell (World.block_lt_of_cell? w _ hx328_5)).trans hx328_5
                            replace p328 := eq_true p328
                            replace q328 := eq_true q328
                            go_wp2_with (first | ((with_reducible refine gate_builtin (b := .append) (xs := #[.tmp 30, .tmp 35]) rfl ?_); at_builtin; refine Kd.R_append k35 (w0 := w) w.heap.size rfl (.tmp 30) (.tmp 35) 22 35 (.agg #[(.int .u8 0), (.int .i64 0), (.int .i64 0), (.int .i64 0), (.bool false), (.bool false)]) 40 rfl Try.underlying22 info35 rfl (by decide) (by omega) u4 x4_1 (⟨(rd_T35 l0 x6_1).f0, (rd_T35 l0 x6_1).f1, (rd_T35 l0 x6_1).f2, (rd_T35 l0 x6_1).f3, (rd_T35 l0 x6_1).f4, (rd_T35 l0 x6_1).f5⟩ : S35) [.int .u8 ((rd_T35 l0 x6_1).f0), .int .i64 ((rd_T35 l0 x6_1).f1), .int .i64 ((rd_T35 l0 x6_1).f2), .int .i64 ((rd_T35 l0 x6_1).f3), .bool ((rd_T35 l0 x6_1).f4), .bool ((rd_T35 l0 x6_1).f5)] (fun _ => True) (fun _ => False) rfl rfl ?aP (fun _ hk => hk.elim) ?aF ?aO ?aB ?aS ?aL ?_; (case aP => exact k35_mkM _ _ _ (⟨(rd_T35 l0 x6_1).f0, (rd_T35 l0 x6_1).f1, (rd_T35 l0 x6_1).f2, (rd_T35 l0 x6_1).f3, (rd_T35 l0 x6_1).f4, (rd_T35 l0 x6_1).f5⟩ : S35)); (case aB => exact (bw HB)); (case aF => exact (fun _ _ => trivial)); (case aO => exact (rx HO_4)); (case aS => exact (below_size (bw HB))); (case aL => have := LMc18.out; omega); intro v330 w23 ho hb hg hat; rw [← Ny329.out] at ho; replace HO_3 := Aside0.mk (Kd.R_over' (rx HO_3) (Kd.R_typed (rx HO_4)) (by decide) hg); replace HO_5 := Aside0.mk (Kd.R_over' (rx HO_5) (Kd.R_typed (rx HO_4)) (by decide) hg); replace HB := Aside0.mk (hb); have HO331 := Aside0.mk (ho); clear HO_4; clear ho hb hg hat; have p332 : 0 ≤ (x6_1 : Int) := of_decide_eq_true (by first | (with_reducible assumption) | assumption); have q332 : x6_1 < (t318.length : Int) := of_decide_eq_true (by first | (with_reducible assumption) | assumption); obtain ⟨ad332, e332, hx332_0⟩ := Kd.at_int (Kd.R_reads' HO_3.out).2.2 x6_1 p332 q332; obtain rfl : ad321 = ad332 := (by injection e332); replace p332 := eq_true p332; replace q332 := eq_true q332) | ((with_reducible refine gate_builtin (b := .append) (xs := #[.tmp 37, .tmp 42]) rfl ?_); at_builtin; refine Kd.R_append (Kd.int .u8) (w0 := w) w.heap.size rfl (.tmp 37) (.tmp 42) 30 5 (.int .u8 0) 1 rfl Try.underlying30 info5 rfl (by decide) (by omega) u5 x5_1 (rd t318 x6_1) [.int .u8 (rd t318 x6_1)] (fun k_ => some k_ ≠ (.slice (some ad321) t318.length co8 : Value).ownBlock) (fun _ => False) rfl rfl ?aP (fun _ hk => hk.elim) ?aF ?aO ?aB ?aS ?aL ?_; (case aP => exact rfl); (case aB => exact (bw HB)); (case aF => exact (fun k_ hk => Kd.fresh' (Kd.R_lt (rx HO_3)) k_ hk)); (case aO => exact (rx HO_5)); (case aS => exact (below_size (bw HB))); (case aL => have := LMc19.out; omega); intro v334 w24 ho hb hg hat; rw [← Ny333.out] at ho; replace HO_3 := Aside0.mk (Kd.R_after (ok := (fun _ => True)) (by (with_reducible repeat (first | apply Kd.R_alloc | apply Kd.R_drewN | apply Kd.R_drew)); exact Kd.R_mono HO_3.out (fun _ hk => ⟨trivial, hk⟩)) hg hat); replace HO331 := Aside0.mk (Kd.R_over' (rx HO331) (Kd.R_typed (rx HO_5)) (by decide) hg); replace HB := Aside0.mk (hb); have HO335 := Aside0.mk (ho); clear HO_5; clear ho hb hg hat; have p336 : 0 ≤ (x6_1 : Int) := of_decide_eq_true (by first | (with_reducible assumption) | assumption); have q336 : x6_1 < (t318.length : Int) := of_decide_eq_true (by first | (with_reducible assumption) | assumption); obtain ⟨ad336, e336, hx336_0⟩ := Kd.at_int (Kd.R_reads' HO_3.out).2.2 x6_1 p336 q336; obtain rfl : ad321 = ad336 := (by injection e336); replace p336 := eq_true p336; replace q336 := eq_true q336; have p337 : 0 ≤ (x6_1 : Int) := of_decide_eq_true (by first | (with_reducible assumption) | assumption); have q337 : x6_1 < (t318.length : Int) := of_decide_eq_true (by first | (with_reducible assumption) | assumption); obtain ⟨ad337, e337, hx337_0⟩ := Kd.at_int (Kd.R_reads' HO_3.out).2.2 x6_1 p337 q337; obtain rfl : ad321 = ad337 := (by injection e337); replace p337 := eq_true p337; replace q337 := eq_true q337; have p338 : 0 ≤ (x6_1 : Int) := of_decide_eq_true (by first | (with_reducible assumption) | assumption); have q338 : x6_1 < (l0.length : Int) := of_decide_eq_true (by first | (with_reducible assumption) | assumption); obtain ⟨ad338, e338, hx338_0, hx338_1, hx338_2, hx338_3, hx338_4, hx338_5⟩ := at_T35 HR0.out x6_1 p338 q338; obtain rfl : ad328 = ad338 := (by injection e338); replace hx338_0 := (HB.out.cell (World.block_lt_of_cell? w _ hx338_0)).trans hx338_0; replace hx338_1 := (HB.out.cell (World.block_lt_of_cell? w _ hx338_1)).trans hx338_1; replace hx338_2 := (HB.out.cell (World.block_lt_of_cell? w _ hx338_2)).trans hx338_2; replace hx338_3 := (HB.out.cell (World.block_lt_of_cell? w _ hx338_3)).trans hx338_3; replace hx338_4 := (HB.out.cell (World.block_lt_of_cell? w _ hx338_4)).trans hx338_4; replace hx338_5 := (HB.out.cell (World.block_lt_of_cell? w _ hx338_5)).trans hx338_5; replace p338 := eq_true p338; replace q338 := eq_true q338; have p339 : 0 ≤ (x6_1 : Int) := of_decide_eq_true (by first | (with_reducible assumption) | assumption); have q339 : x6_1 < (t318.length : Int) := of_decide_eq_true (by first | (with_reducible assumption) | assumption); obtain ⟨ad339, e339, hx339_0⟩ := Kd.at_int (Kd.R_reads' HO_3.out).2.2 x6_1 p339 q339; obtain rfl : ad321 = ad339 := (by injection e339); replace p339 := eq_true p339; replace q339 := eq_true q339))
                            go_roundg k1
                            case measure => have := HK1.out; omega
                            case rel => exact ⟨(y329), (y333), (wrap64 (x6_1 + 1)), (by first | rfl | (simp; done) | (simp [*]; done)), H', ⟨by have := HK1.out; omega⟩, ⟨by (with_reducible repeat (first | apply Kd.R_alloc | apply Kd.R_drewN | apply Kd.R_drew)); exact Kd.R_mono HO_3.out (fun _ hk => hk.2)⟩, ⟨by (with_reducible repeat (first | apply Kd.R_alloc | apply Kd.R_drewN | apply Kd.R_drew)); exact HO331.out⟩, ⟨by (with_reducible repeat (first | apply Kd.R_alloc | apply Kd.R_drewN | apply Kd.R_drew)); exact HO335.out⟩, ⟨by repeat (first | (with_reducible first | exact HB.out | apply below_alloc | apply pw_below_drewN | apply below_drew1) | exact HB.out)⟩⟩
                        · rw [if_neg c21] at H
                          have c21b0 : (((rd_T35 l0 x6_1).f0) == 2) = false := beq_eq_false_iff_ne.mpr c21
                          have c21b1 : (((rd_T35 l0 x6_1).f0) != 2) = true := bne_iff_ne.mpr c21
                          exact absurd ((Option.some.inj H).trans HR_.out) (by decide)
                      · rw [if_neg c20] at H
                        have c20b0 : ((rd t318 x6_1) == 2) = false := beq_eq_false_iff_ne.mpr c20
                        have c20b1 : ((rd t318 x6_1) != 2) = true := bne_iff_ne.mpr c20
                        by_cases c25 : (rd t318 x6_1) > 2
                        · rw [if_pos c25] at H
                          have c25b0 : decide (2 < (rd t318 x6_1)) = true := decide_eq_true c25
                          clear c25
                          exact absurd ((Option.some.inj H).trans HR_.out) (by decide)
                        · rw [if_neg c25] at H
                          have c25b0 : decide (2 < (rd t318 x6_1)) = false := decide_eq_false c25
                          clear c25
                          have H' := Aside0.mk H
                          clear H
                          have p321 : 0 ≤ (x6_1 : Int) := of_decide_eq_true (by first | (with_reducible assumption) | assumption)
                          have q321 : x6_1 < (t318.length : Int) := of_decide_eq_true (by first | (with_reducible assumption) | assumption)
                          obtain ⟨ad321, e321, hx321_0⟩ := Kd.at_int (Kd.R_reads' HO_3.out).2.2 x6_1 p321 q321
                          cases e321
                          replace p321 := eq_true p321
                          replace q321 := eq_true q321
                          have p328 : 0 ≤ (x6_1 : Int) := of_decide_eq_true (by first | (with_reducible assumption) | assumption)
                          have q328 : x6_1 < (l0.length : Int) := of_decide_eq_true (by first | (with_reducible assumption) | assumption)
                          obtain ⟨ad328, e328, hx328_0, hx328_1, hx328_2, hx328_3, hx328_4, hx328_5⟩ := at_T35 HR0.out x6_1 p328 q328
                          cases e328
                          replace hx328_0 := (HB.out.cell (World.block_lt_of_cell? w _ hx328_0)).trans hx328_0
                          replace hx328_1 := (HB.out.cell (World.block_lt_of_cell? w _ hx328_1)).trans hx328_1
                          replace hx328_2 := (HB.out.cell (World.block_lt_of_cell? w _ hx328_2)).trans hx328_2
                          replace hx328_3 := (HB.out.cell (World.block_lt_of_cell? w _ hx328_3)).trans hx328_3
                          replace hx328_4 := (HB.out.cell (World.block_lt_of_cell? w _ hx328_4)).trans hx328_4
                          replace hx328_5 := (HB.out.cell (World.block_lt_of_cell? w _ hx328_5)).trans hx328_5
                          replace p328 := eq_true p328
                          replace q328 := eq_true q328
                          go_wp2_with (first | ((with_reducible refine gate_builtin (b := .append) (xs := #[.tmp 30, .tmp 35]) rfl ?_); at_builtin; refine Kd.R_append k35 (w0 := w) w.heap.size rfl (.tmp 30) (.tmp 35) 22 35 (.agg #[(.int .u8 0), (.int .i64 0), (.int .i64 0), (.int .i64 0), (.bool false), (.bool false)]) 40 rfl Try.underlying22 info35 rfl (by decide) (by omega) u4 x4_1 (⟨(rd_T35 l0 x6_1).f0, (rd_T35 l0 x6_1).f1, (rd_T35 l0 x6_1).f2, (rd_T35 l0 x6_1).f3, (rd_T35 l0 x6_1).f4, (rd_T35 l0 x6_1).f5⟩ : S35) [.int .u8 ((rd_T35 l0 x6_1).f0), .int .i64 ((rd_T35 l0 x6_1).f1), .int .i64 ((rd_T35 l0 x6_1).f2), .int .i64 ((rd_T35 l0 x6_1).f3), .bool ((rd_T35 l0 x6_1).f4), .bool ((rd_T35 l0 x6_1).f5)] (fun _ => True) (fun _ => False) rfl rfl ?aP (fun _ hk => hk.elim) ?aF ?aO ?aB ?aS ?aL ?_; (case aP => exact k35_mkM _ _ _ (⟨(rd_T35 l0 x6_1).f0, (rd_T35 l0 x6_1).f1, (rd_T35 l0 x6_1).f2, (rd_T35 l0 x6_1).f3, (rd_T35 l0 x6_1).f4, (rd_T35 l0 x6_1).f5⟩ : S35)); (case aB => exact (bw HB)); (case aF => exact (fun _ _ => trivial)); (case aO => exact (rx HO_4)); (case aS => exact (below_size (bw HB))); (case aL => have := LMc18.out; omega); intro v330 w26 ho hb hg hat; rw [← Ny329.out] at ho; replace HO_3 := Aside0.mk (Kd.R_over' (rx HO_3) (Kd.R_typed (rx HO_4)) (by decide) hg); replace HO_5 := Aside0.mk (Kd.R_over' (rx HO_5) (Kd.R_typed (rx HO_4)) (by decide) hg); replace HB := Aside0.mk (hb); have HO331 := Aside0.mk (ho); clear HO_4; clear ho hb hg hat; have p332 : 0 ≤ (x6_1 : Int) := of_decide_eq_true (by first | (with_reducible assumption) | assumption); have q332 : x6_1 < (t318.length : Int) := of_decide_eq_true (by first | (with_reducible assumption) | assumption); obtain ⟨ad332, e332, hx332_0⟩ := Kd.at_int (Kd.R_reads' HO_3.out).2.2 x6_1 p332 q332; obtain rfl : ad321 = ad332 := (by injection e332); replace p332 := eq_true p332; replace q332 := eq_true q332) | ((with_reducible refine gate_builtin (b := .append) (xs := #[.tmp 37, .tmp 42]) rfl ?_); at_builtin; refine Kd.R_append (Kd.int .u8) (w0 := w) w.heap.size rfl (.tmp 37) (.tmp 42) 30 5 (.int .u8 0) 1 rfl Try.underlying30 info5 rfl (by decide) (by omega) u5 x5_1 (rd t318 x6_1) [.int .u8 (rd t318 x6_1)] (fun k_ => some k_ ≠ (.slice (some ad321) t318.length co8 : Value).ownBlock) (fun _ => False) rfl rfl ?aP (fun _ hk => hk.elim) ?aF ?aO ?aB ?aS ?aL ?_; (case aP => exact rfl); (case aB => exact (bw HB)); (case aF => exact (fun k_ hk => Kd.fresh' (Kd.R_lt (rx HO_3)) k_ hk)); (case aO => exact (rx HO_5)); (case aS => exact (below_size (bw HB))); (case aL => have := LMc19.out; omega); intro v334 w27 ho hb hg hat; rw [← Ny333.out] at ho; replace HO_3 := Aside0.mk (Kd.R_after (ok := (fun _ => True)) (by (with_reducible repeat (first | apply Kd.R_alloc | apply Kd.R_drewN | apply Kd.R_drew)); exact Kd.R_mono HO_3.out (fun _ hk => ⟨trivial, hk⟩)) hg hat); replace HO331 := Aside0.mk (Kd.R_over' (rx HO331) (Kd.R_typed (rx HO_5)) (by decide) hg); replace HB := Aside0.mk (hb); have HO335 := Aside0.mk (ho); clear HO_5; clear ho hb hg hat; have p336 : 0 ≤ (x6_1 : Int) := of_decide_eq_true (by first | (with_reducible assumption) | assumption); have q336 : x6_1 < (t318.length : Int) := of_decide_eq_true (by first | (with_reducible assumption) | assumption); obtain ⟨ad336, e336, hx336_0⟩ := Kd.at_int (Kd.R_reads' HO_3.out).2.2 x6_1 p336 q336; obtain rfl : ad321 = ad336 := (by injection e336); replace p336 := eq_true p336; replace q336 := eq_true q336; have p337 : 0 ≤ (x6_1 : Int) := of_decide_eq_true (by first | (with_reducible assumption) | assumption); have q337 : x6_1 < (t318.length : Int) := of_decide_eq_true (by first | (with_reducible assumption) | assumption); obtain ⟨ad337, e337, hx337_0⟩ := Kd.at_int (Kd.R_reads' HO_3.out).2.2 x6_1 p337 q337; obtain rfl : ad321 = ad337 := (by injection e337); replace p337 := eq_true p337; replace q337 := eq_true q337; have p340 : 0 ≤ (x6_1 : Int) := of_decide_eq_true (by first | (with_reducible assumption) | assumption); have q340 : x6_1 < (t318.length : Int) := of_decide_eq_true (by first | (with_reducible assumption) | assumption); obtain ⟨ad340, e340, hx340_0⟩ := Kd.at_int (Kd.R_reads' HO_3.out).2.2 x6_1 p340 q340; obtain rfl : ad321 = ad340 := (by injection e340); replace p340 := eq_true p340; replace q340 := eq_true q340))
                          go_roundg k1
                          case measure => have := HK1.out; omega
                          case rel => exact ⟨(y329), (y333), (wrap64 (x6_1 + 1)), (by first | rfl | (simp; done) | (simp [*]; done)), H', ⟨by have := HK1.out; omega⟩, ⟨by (with_reducible repeat (first | apply Kd.R_alloc | apply Kd.R_drewN | apply Kd.R_drew)); exact Kd.R_mono HO_3.out (fun _ hk => hk.2)⟩, ⟨by (with_reducible repeat (first | apply Kd.R_alloc | apply Kd.R_drewN | apply Kd.R_drew)); exact HO331.out⟩, ⟨by (with_reducible repeat (first | apply Kd.R_alloc | apply Kd.R_drewN | apply Kd.R_drew)); exact HO335.out⟩, ⟨by repeat (first | (with_reducible first | exact HB.out | apply below_alloc | apply pw_below_drewN | apply below_drew1) | exact HB.out)⟩⟩
                    · rw [if_neg c19] at H
                      exact absurd H (by simp)
                  · rw [if_neg c18] at H
                    exact absurd H (by simp)
              · rw [if_neg c11] at H
                exact absurd H (by simp)
            · rw [if_neg c10] at H
              exact absurd H (by simp)
          · rw [if_neg c9] at H
            have c9b0 : decide (x6_1 < (l0.length : Int)) = false := decide_eq_false c9
            clear c9
            replace H := Option.bind_eq_some_iff.mp H
            obtain ⟨t341, A280, H⟩ := H
            replace H : ((stickfulref13_Same.f k1 t341 x5_1).bind fun t344 => (if t344 = true then (stickfullaw13_TrimAgain.l1 k1 x4_1 0) else (some false))) = some r := H
            have A28 := Aside0.mk A280
            clear A280
            replace H := Option.bind_eq_some_iff.mp H
            obtain ⟨t344, A290, H⟩ := H
            replace H : (if t344 = true then (stickfullaw13_TrimAgain.l1 k1 x4_1 0) else (some false)) = some r := H
            have A29 := Aside0.mk A290
            clear A290
            by_cases c30 : t344 = true
            · subst c30
              have H1 : (stickfullaw13_TrimAgain.l1 k1 x4_1 0) = some r := by rw [if_pos rfl] at H; exact H
              clear H
              have H := H1
              clear H1
              have H' := Aside0.mk H
              clear H
              obtain ⟨Ao31, co31, eo31⟩ := Kd.R_slice HO_4.out
              subst eo31
              go_wp2_with (first | ((with_reducible refine gate_callee (f := 17) rfl ?_); refine goesB (some 80) rfl rfl Try.func17 #[.slice Ao31 x4_1.length co31] rfl ?_; (with_reducible refine (trim_Roles.calls _ _ x4_1 t341 _ ?side1 ?side2 A28.out).mono ?_); (case side1 => repeat (first | exact (Kd.R_reads' HO_4.out).2.2 | (with_reducible refine Kd.C_alloc ?_ _) | (with_reducible refine Kd.C_drewN ?_ _) | (with_reducible refine Kd.C_drew ?_))); (case side2 => exact (Kd.R_reads' HO_4.out).2.1); rintro e w32 ⟨v342, rfl, ho0, hb⟩; refine ⟨_, rfl, ?_⟩; replace HO_4 := Aside0.mk (Kd.R_below (rx HO_4) hb); have HO343 := Aside0.mk (Kd.R_lower (Kd.R_new' (Kd.R_new' ho0 (Kd.R_lt (rx HO_3))) (Kd.R_lt (rx HO_5))) (below_size (bw HB))); replace HO_3 := Aside0.mk (Kd.R_elder' (rx HO_3) (Kd.R_base ho0) hb); replace HO_5 := Aside0.mk (Kd.R_elder' (rx HO_5) (Kd.R_base ho0) hb); replace HB := bh HB hb; (try clear hb); (try clear hb2); (try clear hk); (try clear hi); (try clear ho0); obtain ⟨Ao33, co33, eo33⟩ := Kd.R_slice HO343.out; subst eo33; obtain ⟨Ao34, co34, eo34⟩ := Kd.R_slice HO_5.out; subst eo34) | ((with_reducible refine gate_callee (f := 16) rfl ?_); refine goesB (some 82) rfl rfl Try.func16 #[.slice Ao33 t341.length co33, .slice Ao34 x5_1.length co34] rfl ?_; (with_reducible refine (stickfulref13_Same.calls k1 _ _ t341 _ _ x5_1 true _ ?side1 ?side2 ?side3 ?side4 A29.out).mono ?_); (case side1 => repeat (first | exact (Kd.R_reads' HO343.out).2.2 | (with_reducible refine Kd.C_alloc ?_ _) | (with_reducible refine Kd.C_drewN ?_ _) | (with_reducible refine Kd.C_drew ?_))); (case side2 => exact (Kd.R_reads' HO343.out).2.1); (case side3 => repeat (first | exact (Kd.R_reads' HO_5.out).2.2 | (with_reducible refine Kd.C_alloc ?_ _) | (with_reducible refine Kd.C_drewN ?_ _) | (with_reducible refine Kd.C_drew ?_))); (case side4 => exact (Kd.R_reads' HO_5.out).2.1); rintro e w' ⟨rfl, ⟨nd, rfl⟩⟩; refine ⟨_, rfl, ?_⟩))
              go_loopg [7] k1 (fun kq v7 w' => ∃ (x7_2 : Int), v7 = .int .i64 x7_2 ∧ Aside0 (stickfullaw13_TrimAgain.l1 kq x4_1 x7_2 = some r) ∧ Aside0 (kq ≤ k1) ∧ Aside0 (Kd.R k35 35 w' w.heap.size (fun _ => True) (.slice Ao31 x4_1.length co31) x4_1) ∧ Aside0 (Below w.heap.size w w'))
              case atStart => exact ⟨(0), (by first | rfl | (simp; done) | (simp [*]; done)), H', ⟨Nat.le_refl _⟩, ⟨by (with_reducible repeat (first | apply Kd.R_alloc | apply Kd.R_drewN | apply Kd.R_drew)); exact HO_4.out⟩, ⟨by repeat (first | (with_reducible first | exact HB.out | apply below_alloc | apply pw_below_drewN | apply below_drew1) | exact HB.out)⟩⟩
              case round =>
                clear H'
                try clear c1
                try clear c2
                try clear c2b0
                try clear c2b1
                try clear p2
                try clear c3
                try clear p3
                try clear q3
                try clear hx3
                try clear c4
                try clear c6
                try clear c6b0
                try clear c6b1
                try clear c6b2
                try clear p6
                try clear c9
                try clear c9b0
                try clear c10
                try clear c10b0
                try clear c11
                try clear c11b0
                try clear c12
                try clear c12b0
                try clear c12b1
                try clear c13
                try clear c13b0
                try clear c13b1
                try clear c14
                try clear c14b0
                try clear c14b1
                try clear c15
                try clear c15b0
                try clear c15b1
                try clear c16
                try clear c16b0
                try clear c17
                try clear c17b0
                try clear c18
                try clear c19
                try clear c20
                try clear c20b0
                try clear c20b1
                try clear c21
                try clear c21b0
                try clear c21b1
                try clear c22
                try clear c22b0
                try clear c25
                try clear c25b0
                try clear c30
                try clear p32
                try clear q32
                try clear hx32
                try clear p33
                try clear q33
                try clear hx33
                try clear p34
                try clear q34
                try clear hx34
                try clear hx321_0
                try clear hx322_0
                try clear hx323_0
                try clear hx323_1
                try clear hx323_2
                try clear hx323_3
                try clear hx323_4
                try clear hx323_5
                try clear hx324_0
                try clear hx325_0
                try clear hx325_1
                try clear hx325_2
                try clear hx325_3
                try clear hx325_4
                try clear hx325_5
                try clear hx326_0
                try clear hx327_0
                try clear hx328_0
                try clear hx328_1
                try clear hx328_2
                try clear hx328_3
                try clear hx328_4
                try clear hx328_5
                try clear hx332_0
                try clear hx336_0
                try clear hx337_0
                try clear hx338_0
                try clear hx338_1
                try clear hx338_2
                try clear hx338_3
                try clear hx338_4
                try clear hx338_5
                try clear hx339_0
                try clear hx340_0
                try clear p2
                try clear p321
                try clear p322
                try clear p323
                try clear p324
                try clear p325
                try clear p326
                try clear p327
                try clear p328
                try clear p332
                try clear p336
                try clear p337
                try clear p338
                try clear p339
                try clear p340
                try clear q321
                try clear q322
                try clear q323
                try clear q324
                try clear q325
                try clear q326
                try clear q327
                try clear q328
                try clear q332
                try clear q336
                try clear q337
                try clear q338
                try clear q339
                try clear q340
                obtain ⟨x7_2, rfl, HA, HK2, HO_4, HB⟩ := hrel
                cases gk with
                | zero => exact absurd HA.out (by simp [stickfullaw13_TrimAgain.l1])
                | succ k2 =>
                  have H := HA.out
                  clear HA
                  simp only [stickfullaw13_TrimAgain.l1] at H
                  by_cases c35 : x7_2 < (x4_1.length : Int)
                  · rw [if_pos c35] at H
                    have c35b0 : decide (x7_2 < (x4_1.length : Int)) = true := decide_eq_true c35
                    clear c35
                    by_cases c36 : 0 ≤ x7_2
                    · rw [if_pos c36] at H
                      have c36b0 : decide (0 ≤ x7_2) = true := decide_eq_true c36
                      clear c36
                      by_cases c37 : ((rd_T35 x4_1 x7_2).f0) = 1
                      · rw [if_pos c37] at H
                        have c37b0 : (((rd_T35 x4_1 x7_2).f0) == 1) = true := beq_iff_eq.mpr c37
                        have c37b1 : (((rd_T35 x4_1 x7_2).f0) != 1) = false := bne_eq_false_iff_eq.mpr c37
                        clear c37
                        have c38b0 := eq_true (of_decide_eq_true (by first | (with_reducible assumption) | assumption) : 0 ≤ x7_2)
                        by_cases c39 : x7_2 ≤ (x4_1.length : Int)
                        · rw [if_pos c39] at H
                          have c39b0 := eq_true c39
                          have c39b1 : decide (x7_2 ≤ (x4_1.length : Int)) = true := decide_eq_true c39
                          clear c39
                          obtain ⟨y347, hy347⟩ : ∃ y_ : List (S35), y_ = (x4_1.take (x7_2 : Int).toNat) := ⟨_, rfl⟩
                          replace H : ((stickfullaw13_some.f k2 y347).bind fun t351 => (if t351 = 0 then (some false) else (if 0 ≤ (wrap64 (x7_2 + 1)) then (if (wrap64 (x7_2 + 1)) ≤ (x4_1.length : Int) then ((stickfullaw13_some.f k2 (x4_1.drop ((wrap64 (x7_2 + 1)) : Int).toNat)).bind fun t356 => (if t356 = 0 then (some false) else (stickfullaw13_TrimAgain.l1 k2 x4_1 (wrap64 (x7_2 + 1))))) else (none)) else (none)))) = some r := by first | (rw [hy347]; with_reducible exact H) | (have H2_ := (Option.bind_some _ _).symm.trans H; rw [hy347]; with_reducible exact H2_) | (have H2_ := (Option.bind_some _ _).symm.trans H; with_reducible exact H2_) | with_reducible exact H | (rw [hy347]; exact H) | exact H
                          have Ny347 := Aside0.mk hy347
                          clear hy347
                          replace H := Option.bind_eq_some_iff.mp H
                          obtain ⟨t351, A400, H⟩ := H
                          replace H : (if t351 = 0 then (some false) else (if 0 ≤ (wrap64 (x7_2 + 1)) then (if (wrap64 (x7_2 + 1)) ≤ (x4_1.length : Int) then ((stickfullaw13_some.f k2 (x4_1.drop ((wrap64 (x7_2 + 1)) : Int).toNat)).bind fun t356 => (if t356 = 0 then (some false) else (stickfullaw13_TrimAgain.l1 k2 x4_1 (wrap64 (x7_2 + 1))))) else (none)) else (none))) = some r := H
                          have A40 := Aside0.mk A400
                          clear A400
                          by_cases c41 : t351 = 0
                          · rw [if_pos c41] at H
                            have c41b0 : (t351 == 0) = true := beq_iff_eq.mpr c41
                            have c41b1 : (t351 != 0) = false := bne_eq_false_iff_eq.mpr c41
                            clear c41
                            exact absurd ((Option.some.inj H).trans HR_.out) (by decide)
                          · rw [if_neg c41] at H
                            have c41b0 : (t351 == 0) = false := beq_eq_false_iff_ne.mpr c41
                            have c41b1 : (t351 != 0) = true := bne_iff_ne.mpr c41
                            obtain ⟨ji42, hji42⟩ : ∃ j_ : Int, (wrap64 (x7_2 + 1)) = j_ := ⟨_, rfl⟩
                            replace H : (if 0 ≤ (ji42) then (if (ji42) ≤ (x4_1.length : Int) then ((stickfullaw13_some.f k2 (x4_1.drop ((ji42) : Int).toNat)).bind fun t356 => (if t356 = 0 then (some false) else (stickfullaw13_TrimAgain.l1 k2 x4_1 ji42))) else (none)) else (none)) = some r := by first | (rw [hji42] at H; exact H) | (simp only [hji42] at H ⊢; exact H)
                            (try rw [hji42] at A40)
                            have hji42w : (IntKind.i64.wrap (x7_2 + 1)) = ji42 := (i64_w _).trans hji42
                            by_cases c43 : 0 ≤ (ji42)
                            · rw [if_pos c43] at H
                              have c43b0 := eq_true c43
                              have c43b1 : decide (0 ≤ (ji42)) = true := decide_eq_true c43
                              clear c43
                              by_cases c44 : (ji42) ≤ (x4_1.length : Int)
                              · rw [if_pos c44] at H
                                have c44b0 := eq_true c44
                                have c44b1 : decide ((ji42) ≤ (x4_1.length : Int)) = true := decide_eq_true c44
                                clear c44
                                obtain ⟨y352, hy352⟩ : ∃ y_ : List (S35), y_ = (x4_1.drop ((ji42) : Int).toNat) := ⟨_, rfl⟩
                                replace H : ((stickfullaw13_some.f k2 y352).bind fun t356 => (if t356 = 0 then (some false) else (stickfullaw13_TrimAgain.l1 k2 x4_1 ji42))) = some r := by first | (rw [hy352]; with_reducible exact H) | (have H2_ := (Option.bind_some _ _).symm.trans H; rw [hy352]; with_reducible exact H2_) | (have H2_ := (Option.bind_some _ _).symm.trans H; with_reducible exact H2_) | with_reducible exact H | (rw [hy352]; exact H) | exact H
                                have Ny352 := Aside0.mk hy352
                                clear hy352
                                replace H := Option.bind_eq_some_iff.mp H
                                obtain ⟨t356, A450, H⟩ := H
                                replace H : (if t356 = 0 then (some false) else (stickfullaw13_TrimAgain.l1 k2 x4_1 ji42)) = some r := H
                                have A45 := Aside0.mk A450
                                clear A450
                                by_cases c46 : t356 = 0
                                · rw [if_pos c46] at H
                                  have c46b0 : (t356 == 0) = true := beq_iff_eq.mpr c46
                                  have c46b1 : (t356 != 0) = false := bne_eq_false_iff_eq.mpr c46
                                  clear c46
                                  exact absurd ((Option.some.inj H).trans HR_.out) (by decide)
                                · rw [if_neg c46] at H
                                  have c46b0 : (t356 == 0) = false := beq_eq_false_iff_ne.mpr c46
                                  have c46b1 : (t356 != 0) = true := bne_iff_ne.mpr c46
                                  have H' := Aside0.mk H
                                  clear H
                                  have p346 : 0 ≤ (x7_2 : Int) := of_decide_eq_true (by first | (with_reducible assumption) | assumption)
                                  have q346 : x7_2 < (x4_1.length : Int) := of_decide_eq_true (by first | (with_reducible assumption) | assumption)
                                  obtain ⟨ad346, e346, hx346_0, hx346_1, hx346_2, hx346_3, hx346_4, hx346_5⟩ := at_T35 (Kd.R_reads' HO_4.out).2.2 x7_2 p346 q346
                                  cases e346
                                  replace p346 := eq_true p346
                                  replace q346 := eq_true q346
                                  have q47 : (x7_2 : Int) ≤ ((x4_1.length : Int) : Int) := of_decide_eq_true (by first | (with_reducible assumption) | assumption)
                                  obtain ⟨i047, hi047, _, hsz47, _⟩ := info_parts info35
                                  have hroom47 : x4_1.length ≤ co31 := (Kd.R_reads' HO_4.out).2.1
                                  have hC47 : Kd.C k35 _ (some ad346) x4_1.length x4_1 := (Kd.R_reads' HO_4.out).2.2
                                  have hcut47 := cut_to (P := Try.prog) 22 35 .i64 Try.underlying22 hi047 (some ad346) x4_1.length co31 x7_2 (of_decide_eq_true (by first | (with_reducible assumption) | assumption)) q47 hroom47
                                  have hr47 := Kd.C_take (m := (x7_2 : Int).toNat) hC47 (by omega)
                                  have hy47 : y347.length = (x7_2 : Int).toNat := (by rw [Ny347.out, List.length_take]; omega)
                                  rw [← Ny347.out] at hr47
                                  rw [← hy47] at hcut47
                                  have HR350 := Aside0.mk hr47
                                  have HC350 := Aside0.mk (show y347.length ≤ co31 from by omega)
                                  clear hr47 hC47 hroom47 hi047 hsz47
                                  have KY47 := Aside0.mk hy47
                                  clear hy47
                                  have KL47 := Aside0.mk (show (x7_2 : Int).toNat ≤ x4_1.length from by omega)
                                  replace q47 := eq_true q47
                                  go_wp2_with (first | (go_at_call 21; (with_reducible refine (stickfullaw13_some.calls k2 _ _ y347 t351 _ ?side1 ?side2 A40.out).mono ?_); (case side1 => repeat (first | exact (by repeat (first | (with_reducible exact HR350.out) | (with_reducible refine Kd.C_alloc ?_ _) | (with_reducible refine Kd.C_drewN ?_ _) | (with_reducible refine Kd.C_drew ?_) | exact HR350.out)) | (with_reducible refine Kd.C_alloc ?_ _) | (with_reducible refine Kd.C_drewN ?_ _) | (with_reducible refine Kd.C_drew ?_))); (case side2 => exact HC350.out); rintro e w' ⟨rfl, ⟨nd, rfl⟩⟩; have q48 : ((ji42) : Int) ≤ ((x4_1.length : Int) : Int) := of_decide_eq_true (by first | (with_reducible assumption) | assumption); obtain ⟨i048, hi048, _, hsz48, _⟩ := info_parts info35; have hroom48 : x4_1.length ≤ co31 := (Kd.R_reads' HO_4.out).2.1; have hC48 : Kd.C k35 _ (some ad346) x4_1.length x4_1 := (Kd.R_reads' HO_4.out).2.2; have q048 : (0 : Int) ≤ ((ji42) : Int) := of_decide_eq_true (by first | (with_reducible assumption) | assumption); have hcut48 := cut_from (P := Try.prog) 22 35 .i64 Try.underlying22 hi048 6 hsz48 (some ad346) x4_1.length co31 (ji42) q048 q48; have hr48 := Kd.C_drop (m := ((ji42) : Int).toNat) (c := co31) hC48 (by omega) hroom48; obtain ⟨A48, hA48⟩ : ∃ A1, A1 = (if co31 = ((ji42) : Int).toNat then (some ad346) else ((some ad346) : Option Addr).map (·.add (((ji42) : Int).toNat * 6))) := ⟨_, rfl⟩; obtain ⟨c48, hc48⟩ : ∃ c1, c1 = co31 - ((ji42) : Int).toNat := ⟨_, rfl⟩; have hy48 : y352.length = x4_1.length - ((ji42) : Int).toNat := (by rw [Ny352.out, List.length_drop] <;> omega); rw [show (x4_1).drop ((ji42) : Int).toNat = y352 from Ny352.out.symm] at hr48; replace hr48 : Kd.C k35 _ A48 y352.length y352 := (by rw [hA48]; exact hr48); rw [← hy48, ← hA48, ← hc48] at hcut48; have HR355 := Aside0.mk hr48; have HC355 := Aside0.mk (show y352.length ≤ c48 from by rw [hy48, hc48]; exact Nat.sub_le_sub_right hroom48 _); clear hr48 hC48 hroom48 hi048 hsz48 hc48; have KY48 := Aside0.mk hy48; have KA48 := Aside0.mk hA48; clear hy48 hA48; have KL48 := Aside0.mk (show ((ji42) : Int).toNat ≤ x4_1.length from by omega); replace q48 := eq_true q48) | (go_at_call 21; (with_reducible refine (stickfullaw13_some.calls k2 _ _ y352 t356 _ ?side1 ?side2 A45.out).mono ?_); (case side1 => repeat (first | exact (by repeat (first | (with_reducible exact HR355.out) | (with_reducible refine Kd.C_alloc ?_ _) | (with_reducible refine Kd.C_drewN ?_ _) | (with_reducible refine Kd.C_drew ?_) | exact HR355.out)) | (with_reducible refine Kd.C_alloc ?_ _) | (with_reducible refine Kd.C_drewN ?_ _) | (with_reducible refine Kd.C_drew ?_))); (case side2 => exact HC355.out); rintro e w' ⟨rfl, ⟨nd, rfl⟩⟩))
                                  go_roundg k2
                                  case measure => have := HK1.out; have := HK2.out; omega
                                  case rel => exact ⟨(ji42), (by first | rfl | (simp; done) | (simp only [← hji42] <;> (first | rfl | simp)) | (simp [*]; done)), H', ⟨by have := HK1.out; have := HK2.out; omega⟩, ⟨by (with_reducible repeat (first | apply Kd.R_alloc | apply Kd.R_drewN | apply Kd.R_drew)); exact HO_4.out⟩, ⟨by repeat (first | (with_reducible first | exact HB.out | apply below_alloc | apply pw_below_drewN | apply below_drew1) | exact HB.out)⟩⟩
                              · rw [if_neg c44] at H
                                exact absurd H (by simp)
                            · rw [if_neg c43] at H
                              exact absurd H (by simp)
                        · rw [if_neg c39] at H
                          exact absurd H (by simp)
                      · rw [if_neg c37] at H
                        have c37b0 : (((rd_T35 x4_1 x7_2).f0) == 1) = false := beq_eq_false_iff_ne.mpr c37
                        have c37b1 : (((rd_T35 x4_1 x7_2).f0) != 1) = true := bne_iff_ne.mpr c37
                        have H' := Aside0.mk H
                        clear H
                        have p346 : 0 ≤ (x7_2 : Int) := of_decide_eq_true (by first | (with_reducible assumption) | assumption)
                        have q346 : x7_2 < (x4_1.length : Int) := of_decide_eq_true (by first | (with_reducible assumption) | assumption)
                        obtain ⟨ad346, e346, hx346_0, hx346_1, hx346_2, hx346_3, hx346_4, hx346_5⟩ := at_T35 (Kd.R_reads' HO_4.out).2.2 x7_2 p346 q346
                        cases e346
                        replace p346 := eq_true p346
                        replace q346 := eq_true q346
                        go_wp2
                        go_roundg k2
                        case measure => have := HK1.out; have := HK2.out; omega
                        case rel => exact ⟨(wrap64 (x7_2 + 1)), (by first | rfl | (simp; done) | (simp [*]; done)), H', ⟨by have := HK1.out; have := HK2.out; omega⟩, ⟨by (with_reducible repeat (first | apply Kd.R_alloc | apply Kd.R_drewN | apply Kd.R_drew)); exact HO_4.out⟩, ⟨by repeat (first | (with_reducible first | exact HB.out | apply below_alloc | apply pw_below_drewN | apply below_drew1) | exact HB.out)⟩⟩
                    · rw [if_neg c36] at H
                      exact absurd H (by simp)
                  · rw [if_neg c35] at H
                    have c35b0 : decide (x7_2 < (x4_1.length : Int)) = false := decide_eq_false c35
                    clear c35
                    replace H := Option.bind_eq_some_iff.mp H
                    obtain ⟨t345, A490, H⟩ := H
                    replace H : (some t345) = some r := H
                    have A49 := Aside0.mk A490
                    clear A490
                    obtain rfl := Option.some.inj H
                    go_wp2_with (first | ((with_reducible refine gate_callee (f := 11) rfl ?_); refine goesB (some 111) rfl rfl Try.func11 #[] rfl ?_; (with_reducible refine (stickfullaw13_head.calls k2  t345 _ A49.out).mono ?_); rintro e w50 ⟨rfl, hb⟩; refine ⟨_, rfl, ?_⟩; replace HO_4 := Aside0.mk (Kd.R_below (rx HO_4) hb); replace HB := bh HB hb; (try clear hb); (try clear hb2); (try clear hk); (try clear hi)))
                    go_ret
                    exact ⟨by first | rfl | (simp [errW_none, errW_some] <;> rfl) | (simp [*, errW_none, errW_some] <;> rfl), by repeat (first | (with_reducible first | exact HB.out | apply below_alloc | apply pw_below_drewN | apply below_drew1) | exact HB.out)⟩
            · replace c30 := Bool.eq_false_iff.mpr c30
              subst c30
              have H1 : (some false) = some r := by rw [if_neg (show ¬ (false = true) by decide)] at H; exact H
              clear H
              have H := H1
              clear H1
              exact absurd ((Option.some.inj H).trans HR_.out) (by decide)
    · rw [if_neg c6] at H
      have c6b0 : ((t318.length : Int) == (l0.length : Int)) = false := beq_eq_false_iff_ne.mpr c6
      have c6b1 : ((t318.length : Int) != (l0.length : Int)) = true := bne_iff_ne.mpr c6
      have c6b2 : (t318.length == l0.length) = false := by first | simpa using c6 | (simp at c6 ⊢; omega)
      exact absurd ((Option.some.inj H).trans HR_.out) (by decide)

end Go.Proofs.Ytkegnlidlabjeaa.HTrim
