-- Written by this claim's own program over the kit's print.
import Derived.Test.YtahpkfmgeifenaaHStyleb
import Derived.Test.YtahpkfmgeifenaaHStylex0
import Derived.Test.YtahpkfmgeifenaaHStylex1
import Derived.Test.YtahpkfmgeifenaaHStylex7
import Derived.Test.YtahpkfmgeifenaaHStylex8
import Derived.Test.YtahpkfmgeifenaaHStylex12
namespace Go.Proofs.Ytahpkfmgeifenaa.HStyle
open Go.RowKit Go.Proofs.YtahpkfmgeifenaaW.PrintWords Go.Proofs.YtahpkfmgeifenaaW.PrintLast Go.Proofs.YtahpkfmgeifenaaW.PrintMore Go.Proofs.Ytahpkfmgeifenaa.Hand
attribute [local go_sem] max2_int min2_int max_two min_two max_three min_three max_four min_four   -- for this text's walks alone
set_option linter.unusedVariables false
set_option linter.unusedSimpArgs false

attribute [local go_sem high] eqA23
/-! ### stickfulref06_Styles: function 24 -/
mutual
def stickfulref06_Styles.l0 : Nat → List Int → List (S26) → Int → Int → Int → Int → Int → Int → Int → Int → Int → Int → Option ((List (S23)) × Int)
  | 0, _, _, _, _, _, _, _, _, _, _, _, _ => none
  | k + 1, x1, x2, x8, x397000, x397001, x397002, x397003, x397004, x397005, x397006, x397007, x397008 => if x8 < (x1.length : Int) then (if 0 ≤ x8 then (if (rd x1 x8) < (-1) then (some (([] : List (S23)), 2)) else (if (rd x1 x8) ≥ x8 then (some (([] : List (S23)), 2)) else (stickfulref06_Styles.l0 k x1 x2 (wrap64 (x8 + 1)) x397000 x397001 x397002 x397003 x397004 x397005 x397006 x397007 x397008))) else (none)) else ((stickfulref06_Check.f x397000 x397001 x397002 x397003 x397004 x397005 x397006 x397007 x397008).bind fun t399 => (if t399 = 0 then (stickfulref06_Styles.l1 k x1 x2 0 x397000 x397001 x397002 x397003 x397004 x397005 x397006 x397007 x397008) else (some (([] : List (S23)), 60))))
def stickfulref06_Styles.l1 : Nat → List Int → List (S26) → Int → Int → Int → Int → Int → Int → Int → Int → Int → Int → Option ((List (S23)) × Int)
  | 0, _, _, _, _, _, _, _, _, _, _, _, _ => none
  | k + 1, x1, x2, x9, x397000, x397001, x397002, x397003, x397004, x397005, x397006, x397007, x397008 => if x9 < (x2.length : Int) then (if 0 ≤ x9 then ((stickfulref06_CheckDecl.f k ((rd_T26 x2 x9).f0) ((rd_T26 x2 x9).f1.f0) ((rd_T26 x2 x9).f1.f1) ((rd_T26 x2 x9).f1.f2) ((rd_T26 x2 x9).f1.f3) ((rd_T26 x2 x9).f1.f4) ((rd_T26 x2 x9).f1.f5) ((rd_T26 x2 x9).f1.f6) ((rd_T26 x2 x9).f1.f7) ((rd_T26 x2 x9).f1.f8)).bind fun t401 => (if t401 = 0 then (stickfulref06_Styles.l1 k x1 x2 (wrap64 (x9 + 1)) x397000 x397001 x397002 x397003 x397004 x397005 x397006 x397007 x397008) else (some (([] : List (S23)), 60)))) else (none)) else (stickfulref06_Styles.l2 k x1 x2 ([] : List (S23)) 0 x397000 x397001 x397002 x397003 x397004 x397005 x397006 x397007 x397008)
def stickfulref06_Styles.l2 : Nat → List Int → List (S26) → List (S23) → Int → Int → Int → Int → Int → Int → Int → Int → Int → Int → Option ((List (S23)) × Int)
  | 0, _, _, _, _, _, _, _, _, _, _, _, _, _ => none
  | k + 1, x1, x2, x10, x11, x397000, x397001, x397002, x397003, x397004, x397005, x397006, x397007, x397008 => if x11 < (x2.length : Int) then ((stickfulref06_At.f k x397000 x397001 x397002 x397003 x397004 x397005 x397006 x397007 x397008 x1 x2 x11).bind fun bt402 => (if x10.length < 2932031007402 then (stickfulref06_Styles.l2 k x1 x2 (x10 ++ [(⟨bt402.1, bt402.2.1, bt402.2.2.1, bt402.2.2.2.1, bt402.2.2.2.2.1, bt402.2.2.2.2.2.1, bt402.2.2.2.2.2.2.1, bt402.2.2.2.2.2.2.2.1, bt402.2.2.2.2.2.2.2.2⟩ : S23)]) (wrap64 (x11 + 1)) x397000 x397001 x397002 x397003 x397004 x397005 x397006 x397007 x397008) else (none))) else (some (x10, 0))
end
def stickfulref06_Styles.f (k : Nat) (a0_0 a0_1 a0_2 a0_3 a0_4 a0_5 a0_6 a0_7 a0_8 : Int) (l1 : List Int) (l2 : List (S26)) : Option ((List (S23)) × Int) := if (l1.length : Int) = (l2.length : Int) then (stickfulref06_Styles.l0 k l1 l2 0 a0_0 a0_1 a0_2 a0_3 a0_4 a0_5 a0_6 a0_7 a0_8) else (some (([] : List (S23)), 2))
theorem stickfulref06_Styles.mono_l : ∀ k, (∀ y0 y1 y2 y3 y4 y5 y6 y7 y8 y9 y10 y11, LeO (stickfulref06_Styles.l0 k y0 y1 y2 y3 y4 y5 y6 y7 y8 y9 y10 y11) (stickfulref06_Styles.l0 (k + 1) y0 y1 y2 y3 y4 y5 y6 y7 y8 y9 y10 y11)) ∧ (∀ y0 y1 y2 y3 y4 y5 y6 y7 y8 y9 y10 y11, LeO (stickfulref06_Styles.l1 k y0 y1 y2 y3 y4 y5 y6 y7 y8 y9 y10 y11) (stickfulref06_Styles.l1 (k + 1) y0 y1 y2 y3 y4 y5 y6 y7 y8 y9 y10 y11)) ∧ (∀ y0 y1 y2 y3 y4 y5 y6 y7 y8 y9 y10 y11 y12, LeO (stickfulref06_Styles.l2 k y0 y1 y2 y3 y4 y5 y6 y7 y8 y9 y10 y11 y12) (stickfulref06_Styles.l2 (k + 1) y0 y1 y2 y3 y4 y5 y6 y7 y8 y9 y10 y11 y12))
  | 0 => ⟨fun _ _ _ _ _ _ _ _ _ _ _ _ r h => by simp [stickfulref06_Styles.l0] at h, fun _ _ _ _ _ _ _ _ _ _ _ _ r h => by simp [stickfulref06_Styles.l1] at h, fun _ _ _ _ _ _ _ _ _ _ _ _ _ r h => by simp [stickfulref06_Styles.l2] at h⟩
  | k + 1 => by
    obtain ⟨ih0, ih1, ih2⟩ := stickfulref06_Styles.mono_l k
    refine ⟨?_, ?_, ?_⟩
    · intro y0 y1 y2 y3 y4 y5 y6 y7 y8 y9 y10 y11
      unfold stickfulref06_Styles.l0
      repeat' first
      | (with_reducible exact ih0 _ _ _ _ _ _ _ _ _ _ _ _)
      | (with_reducible exact ih1 _ _ _ _ _ _ _ _ _ _ _ _)
      | (with_reducible exact ih2 _ _ _ _ _ _ _ _ _ _ _ _ _)
      | (with_reducible exact stickfulref06_At.mono _ _ _ _ _ _ _ _ _ _ _ _ _)
      | (with_reducible exact stickfulref06_CheckDecl.mono _ _ _ _ _ _ _ _ _ _ _)
      | (with_reducible exact LeO.refl _)
      | (with_reducible exact LeO.none _)
      | (with_reducible refine LeO.ite ?_ ?_)
      | (with_reducible refine LeO.bind ?_ (fun _ => ?_))
      | exact ih0 _ _ _ _ _ _ _ _ _ _ _ _
      | exact ih1 _ _ _ _ _ _ _ _ _ _ _ _
      | exact ih2 _ _ _ _ _ _ _ _ _ _ _ _ _
      | exact stickfulref06_At.mono _ _ _ _ _ _ _ _ _ _ _ _ _
      | exact stickfulref06_CheckDecl.mono _ _ _ _ _ _ _ _ _ _ _
      | exact LeO.none _
      | refine LeO.ite ?_ ?_
      | refine LeO.bind ?_ (fun _ => ?_)
    · intro y0 y1 y2 y3 y4 y5 y6 y7 y8 y9 y10 y11
      unfold stickfulref06_Styles.l1
      repeat' first
      | (with_reducible exact ih0 _ _ _ _ _ _ _ _ _ _ _ _)
      | (with_reducible exact ih1 _ _ _ _ _ _ _ _ _ _ _ _)
      | (with_reducible exact ih2 _ _ _ _ _ _ _ _ _ _ _ _ _)
      | (with_reducible exact stickfulref06_At.mono _ _ _ _ _ _ _ _ _ _ _ _ _)
      | (with_reducible exact stickfulref06_CheckDecl.mono _ _ _ _ _ _ _ _ _ _ _)
      | (with_reducible exact LeO.refl _)
      | (with_reducible exact LeO.none _)
      | (with_reducible refine LeO.ite ?_ ?_)
      | (with_reducible refine LeO.bind ?_ (fun _ => ?_))
      | exact ih0 _ _ _ _ _ _ _ _ _ _ _ _
      | exact ih1 _ _ _ _ _ _ _ _ _ _ _ _
      | exact ih2 _ _ _ _ _ _ _ _ _ _ _ _ _
      | exact stickfulref06_At.mono _ _ _ _ _ _ _ _ _ _ _ _ _
      | exact stickfulref06_CheckDecl.mono _ _ _ _ _ _ _ _ _ _ _
      | exact LeO.none _
      | refine LeO.ite ?_ ?_
      | refine LeO.bind ?_ (fun _ => ?_)
    · intro y0 y1 y2 y3 y4 y5 y6 y7 y8 y9 y10 y11 y12
      unfold stickfulref06_Styles.l2
      repeat' first
      | (with_reducible exact ih0 _ _ _ _ _ _ _ _ _ _ _ _)
      | (with_reducible exact ih1 _ _ _ _ _ _ _ _ _ _ _ _)
      | (with_reducible exact ih2 _ _ _ _ _ _ _ _ _ _ _ _ _)
      | (with_reducible exact stickfulref06_At.mono _ _ _ _ _ _ _ _ _ _ _ _ _)
      | (with_reducible exact stickfulref06_CheckDecl.mono _ _ _ _ _ _ _ _ _ _ _)
      | (with_reducible exact LeO.refl _)
      | (with_reducible exact LeO.none _)
      | (with_reducible refine LeO.ite ?_ ?_)
      | (with_reducible refine LeO.bind ?_ (fun _ => ?_))
      | exact ih0 _ _ _ _ _ _ _ _ _ _ _ _
      | exact ih1 _ _ _ _ _ _ _ _ _ _ _ _
      | exact ih2 _ _ _ _ _ _ _ _ _ _ _ _ _
      | exact stickfulref06_At.mono _ _ _ _ _ _ _ _ _ _ _ _ _
      | exact stickfulref06_CheckDecl.mono _ _ _ _ _ _ _ _ _ _ _
      | exact LeO.none _
      | refine LeO.ite ?_ ?_
      | refine LeO.bind ?_ (fun _ => ?_)
theorem stickfulref06_Styles.mono : ∀ a0 a1 a2 a3 a4 a5 a6 a7 a8 a9 a10 k, LeO (stickfulref06_Styles.f k a0 a1 a2 a3 a4 a5 a6 a7 a8 a9 a10) (stickfulref06_Styles.f (k + 1) a0 a1 a2 a3 a4 a5 a6 a7 a8 a9 a10) := by
  intro a0 a1 a2 a3 a4 a5 a6 a7 a8 a9 a10 k
  obtain ⟨ih0, ih1, ih2⟩ := stickfulref06_Styles.mono_l k
  unfold stickfulref06_Styles.f
  repeat' first
      | (with_reducible exact ih0 _ _ _ _ _ _ _ _ _ _ _ _)
      | (with_reducible exact ih1 _ _ _ _ _ _ _ _ _ _ _ _)
      | (with_reducible exact ih2 _ _ _ _ _ _ _ _ _ _ _ _ _)
      | (with_reducible exact stickfulref06_At.mono _ _ _ _ _ _ _ _ _ _ _ _ _)
      | (with_reducible exact stickfulref06_CheckDecl.mono _ _ _ _ _ _ _ _ _ _ _)
      | (with_reducible exact LeO.refl _)
      | (with_reducible exact LeO.none _)
      | (with_reducible refine LeO.ite ?_ ?_)
      | (with_reducible refine LeO.bind ?_ (fun _ => ?_))
      | exact ih0 _ _ _ _ _ _ _ _ _ _ _ _
      | exact ih1 _ _ _ _ _ _ _ _ _ _ _ _
      | exact ih2 _ _ _ _ _ _ _ _ _ _ _ _ _
      | exact stickfulref06_At.mono _ _ _ _ _ _ _ _ _ _ _ _ _
      | exact stickfulref06_CheckDecl.mono _ _ _ _ _ _ _ _ _ _ _
      | exact LeO.none _
      | refine LeO.ite ?_ ?_
      | refine LeO.bind ?_ (fun _ => ?_)
set_option maxHeartbeats 8000000 in
set_option maxRecDepth 100000 in
theorem stickfulref06_Styles.calls (k : Nat) (a0_0 a0_1 a0_2 a0_3 a0_4 a0_5 a0_6 a0_7 a0_8 : Int) (A1 : Option Addr) (c1 : Nat) (l1 : List Int) (A2 : Option Addr) (c2 : Nat) (l2 : List (S26)) (r1 : List (S23)) (r2 : Int) (w : World) (hr1 : Kd.C (Kd.int .i64) w A1 l1.length l1) (hc1 : l1.length ≤ c1) (hr2 : Kd.C k26 w A2 l2.length l2) (hc2 : l2.length ≤ c2) (h : stickfulref06_Styles.f k a0_0 a0_1 a0_2 a0_3 a0_4 a0_5 a0_6 a0_7 a0_8 l1 l2 = some (r1, r2)) :
    Calls Try.prog 24 #[.agg #[.int .u8 a0_0, .int .u8 a0_1, .int .u8 a0_2, .int .u8 a0_3, .int .i64 a0_4, .int .i64 a0_5, .int .i64 a0_6, .int .u8 a0_7, .int .i64 a0_8], .slice A1 l1.length c1, .slice A2 l2.length c2] w fun e w' => ∃ v0_ : Value, e = .returned (.tuple #[v0_, .int .i64 r2]) ∧ Kd.R k23 23 w' w.heap.size (fun _ => True) v0_ r1 ∧ Below w.heap.size w w' := by
  have hu23 := Try.underlying23
  have hu26 := Try.underlying26
  have HR1 := Aside0.mk hr1
  have HC1 := Aside0.mk hc1
  clear hr1 hc1
  have HR2 := Aside0.mk hr2
  have HC2 := Aside0.mk hc2
  clear hr2 hc2
  have HB := Aside0.mk (Below.refl w.heap.size w)
  have H : (if (l1.length : Int) = (l2.length : Int) then (stickfulref06_Styles.l0 k l1 l2 0 a0_0 a0_1 a0_2 a0_3 a0_4 a0_5 a0_6 a0_7 a0_8) else (some (([] : List (S23)), 2))) = some (r1, r2) := h
  clear h
  by_cases c4 : (l1.length : Int) = (l2.length : Int)
  · rw [if_pos c4] at H
    have c4b0 : ((l1.length : Int) == (l2.length : Int)) = true := beq_iff_eq.mpr c4
    have c4b1 : ((l1.length : Int) != (l2.length : Int)) = false := bne_eq_false_iff_eq.mpr c4
    have c4b2 : (l1.length == l2.length) = true := by first | simpa using c4 | (simp at c4 ⊢; omega)
    clear c4
    have H' := Aside0.mk H
    clear H
    go_enter Try.func24, Try.ntmps24
    go_wp2_with (first | ((with_reducible refine gate_dst (N := 3) rfl ?_); refine box_event ?hg (N := 3) ?hd (cs := #[.int .u8 a0_0, .int .u8 a0_1, .int .u8 a0_2, .int .u8 a0_3, .int .i64 a0_4, .int .i64 a0_5, .int .i64 a0_6, .int .u8 a0_7, .int .i64 a0_8]) (t := 23) ?hr ?_; (case hd => rfl); (case hg => rfl); (case hr => first | (go_simp; done) | (go_simp; rfl)); intro gb396 hg w5 hbox hb; have BK396 := Aside0.mk (hbox); have GW396 := bge HB hg; have GE396 := bge HB hg; replace HB := bh HB hb; clear hb hbox hg))
    go_loopg [8] k (fun kq v8 w' => ∃ (x8_1 : Int), v8 = .int .i64 x8_1 ∧ Aside0 (stickfulref06_Styles.l0 kq l1 l2 x8_1 a0_0 a0_1 a0_2 a0_3 a0_4 a0_5 a0_6 a0_7 a0_8 = some (r1, r2)) ∧ Aside0 (kq ≤ k) ∧ Aside0 (w'.heap[gb396]? = some (.cells #[.int .u8 a0_0, .int .u8 a0_1, .int .u8 a0_2, .int .u8 a0_3, .int .i64 a0_4, .int .i64 a0_5, .int .i64 a0_6, .int .u8 a0_7, .int .i64 a0_8] 23 (0, 0))) ∧ Aside0 (Below w.heap.size w w'))
    case atStart => exact ⟨(0), (by first | rfl | (simp; done) | (simp [*]; done)), H', ⟨Nat.le_refl _⟩, ⟨by (with_reducible repeat (first | refine blk_drewN ?_ _ | refine blk_drew ?_ | refine blk_alloc ?_ _)); exact BK396.out⟩, ⟨by repeat (first | (with_reducible first | exact HB.out | apply below_alloc | apply pw_below_drewN | apply below_drew1 | refine below_set ?_ GE396.out) | exact HB.out)⟩⟩
    case round =>
      clear H'
      try clear c1
      try clear c2
      try clear p2
      try clear c4
      try clear c4b0
      try clear c4b1
      try clear c4b2
      obtain ⟨x8_1, rfl, HA, HK1, BK396, HB⟩ := hrel
      cases gk with
      | zero => exact absurd HA.out (by simp [stickfulref06_Styles.l0])
      | succ k1 =>
        have H := HA.out
        clear HA
        simp only [stickfulref06_Styles.l0] at H
        by_cases c6 : x8_1 < (l1.length : Int)
        · rw [if_pos c6] at H
          have c6b0 : decide (x8_1 < (l1.length : Int)) = true := decide_eq_true c6
          clear c6
          by_cases c7 : 0 ≤ x8_1
          · rw [if_pos c7] at H
            have c7b0 : decide (0 ≤ x8_1) = true := decide_eq_true c7
            clear c7
            by_cases c8 : (rd l1 x8_1) < (-1)
            · rw [if_pos c8] at H
              have c8b0 : decide ((rd l1 x8_1) < (-1)) = true := decide_eq_true c8
              clear c8
              simp only [Option.some.injEq, Prod.mk.injEq] at H
              obtain ⟨rfl, rfl⟩ := H
              have p397 : 0 ≤ (x8_1 : Int) := of_decide_eq_true (by first | (with_reducible assumption) | assumption)
              have q397 : x8_1 < (l1.length : Int) := of_decide_eq_true (by first | (with_reducible assumption) | assumption)
              obtain ⟨ad397, e397, hx397_0⟩ := Kd.at_int HR1.out x8_1 p397 q397
              cases e397
              replace hx397_0 := (HB.out.cell (World.block_lt_of_cell? w _ hx397_0)).trans hx397_0
              replace p397 := eq_true p397
              replace q397 := eq_true q397
              go_wp2
              go_ret2
              exact ⟨_, by first | rfl | (simp [errW_none, errW_some] <;> rfl) | (simp [*, errW_none, errW_some] <;> rfl), by first | exact Kd.R_nil _ _ _ _ _ | exact Kd.N_nil _ _ _ _ _ | exact Kd.V_nil _ _ _ _ _ | exact Kd.Q_nil _ _ _ _ _ | exact Kd.S_nil _ _ _ _ _, by repeat (first | (with_reducible first | exact HB.out | apply below_alloc | apply pw_below_drewN | apply below_drew1 | refine below_set ?_ GE396.out) | exact HB.out)⟩
            · rw [if_neg c8] at H
              have c8b0 : decide ((rd l1 x8_1) < (-1)) = false := decide_eq_false c8
              clear c8
              by_cases c9 : (rd l1 x8_1) ≥ x8_1
              · rw [if_pos c9] at H
                have c9b0 : decide (x8_1 ≤ (rd l1 x8_1)) = true := decide_eq_true c9
                clear c9
                simp only [Option.some.injEq, Prod.mk.injEq] at H
                obtain ⟨rfl, rfl⟩ := H
                have p397 : 0 ≤ (x8_1 : Int) := of_decide_eq_true (by first | (with_reducible assumption) | assumption)
                have q397 : x8_1 < (l1.length : Int) := of_decide_eq_true (by first | (with_reducible assumption) | assumption)
                obtain ⟨ad397, e397, hx397_0⟩ := Kd.at_int HR1.out x8_1 p397 q397
                cases e397
                replace hx397_0 := (HB.out.cell (World.block_lt_of_cell? w _ hx397_0)).trans hx397_0
                replace p397 := eq_true p397
                replace q397 := eq_true q397
                have p398 : 0 ≤ (x8_1 : Int) := of_decide_eq_true (by first | (with_reducible assumption) | assumption)
                have q398 : x8_1 < (l1.length : Int) := of_decide_eq_true (by first | (with_reducible assumption) | assumption)
                obtain ⟨ad398, e398, hx398_0⟩ := Kd.at_int HR1.out x8_1 p398 q398
                obtain rfl : ad397 = ad398 := (by injection e398)
                replace hx398_0 := (HB.out.cell (World.block_lt_of_cell? w _ hx398_0)).trans hx398_0
                replace p398 := eq_true p398
                replace q398 := eq_true q398
                go_wp2
                go_ret2
                exact ⟨_, by first | rfl | (simp [errW_none, errW_some] <;> rfl) | (simp [*, errW_none, errW_some] <;> rfl), by first | exact Kd.R_nil _ _ _ _ _ | exact Kd.N_nil _ _ _ _ _ | exact Kd.V_nil _ _ _ _ _ | exact Kd.Q_nil _ _ _ _ _ | exact Kd.S_nil _ _ _ _ _, by repeat (first | (with_reducible first | exact HB.out | apply below_alloc | apply pw_below_drewN | apply below_drew1 | refine below_set ?_ GE396.out) | exact HB.out)⟩
              · rw [if_neg c9] at H
                have c9b0 : decide (x8_1 ≤ (rd l1 x8_1)) = false := decide_eq_false c9
                clear c9
                have H' := Aside0.mk H
                clear H
                have p397 : 0 ≤ (x8_1 : Int) := of_decide_eq_true (by first | (with_reducible assumption) | assumption)
                have q397 : x8_1 < (l1.length : Int) := of_decide_eq_true (by first | (with_reducible assumption) | assumption)
                obtain ⟨ad397, e397, hx397_0⟩ := Kd.at_int HR1.out x8_1 p397 q397
                cases e397
                replace hx397_0 := (HB.out.cell (World.block_lt_of_cell? w _ hx397_0)).trans hx397_0
                replace p397 := eq_true p397
                replace q397 := eq_true q397
                have p398 : 0 ≤ (x8_1 : Int) := of_decide_eq_true (by first | (with_reducible assumption) | assumption)
                have q398 : x8_1 < (l1.length : Int) := of_decide_eq_true (by first | (with_reducible assumption) | assumption)
                obtain ⟨ad398, e398, hx398_0⟩ := Kd.at_int HR1.out x8_1 p398 q398
                obtain rfl : ad397 = ad398 := (by injection e398)
                replace hx398_0 := (HB.out.cell (World.block_lt_of_cell? w _ hx398_0)).trans hx398_0
                replace p398 := eq_true p398
                replace q398 := eq_true q398
                go_wp2
                go_roundg k1
                case measure => have := HK1.out; omega
                case rel => exact ⟨(wrap64 (x8_1 + 1)), (by first | rfl | (simp; done) | (simp [*]; done)), H', ⟨by have := HK1.out; omega⟩, ⟨by (with_reducible repeat (first | refine blk_drewN ?_ _ | refine blk_drew ?_ | refine blk_alloc ?_ _)); exact BK396.out⟩, ⟨by repeat (first | (with_reducible first | exact HB.out | apply below_alloc | apply pw_below_drewN | apply below_drew1 | refine below_set ?_ GE396.out) | exact HB.out)⟩⟩
          · rw [if_neg c7] at H
            exact absurd H (by simp)
        · rw [if_neg c6] at H
          have c6b0 : decide (x8_1 < (l1.length : Int)) = false := decide_eq_false c6
          clear c6
          replace H := Option.bind_eq_some_iff.mp H
          obtain ⟨t399, A100, H⟩ := H
          replace H : (if t399 = 0 then (stickfulref06_Styles.l1 k1 l1 l2 0 a0_0 a0_1 a0_2 a0_3 a0_4 a0_5 a0_6 a0_7 a0_8) else (some (([] : List (S23)), 60))) = some (r1, r2) := H
          have A10 := Aside0.mk A100
          clear A100
          by_cases c11 : t399 = 0
          · rw [if_pos c11] at H
            have c11b0 : (t399 == 0) = true := beq_iff_eq.mpr c11
            have c11b1 : (t399 != 0) = false := bne_eq_false_iff_eq.mpr c11
            clear c11
            have H' := Aside0.mk H
            clear H
            obtain ⟨hcz12_0, hcz12_1, hcz12_2, hcz12_3, hcz12_4, hcz12_5, hcz12_6, hcz12_7, hcz12_8⟩ := cz9 BK396
            obtain ⟨hfz12_0, hfz12_1, hfz12_2, hfz12_3, hfz12_4, hfz12_5, hfz12_6, hfz12_7, hfz12_8⟩ := fz9 BK396
            go_wp2_with (first | ((with_reducible refine gate_callee (f := 17) rfl ?_); refine goesB (some 37) rfl rfl Try.func17 #[.agg #[.int .u8 a0_0, .int .u8 a0_1, .int .u8 a0_2, .int .u8 a0_3, .int .i64 a0_4, .int .i64 a0_5, .int .i64 a0_6, .int .u8 a0_7, .int .i64 a0_8]] rfl ?_; (with_reducible refine (stickfulref06_Check.calls a0_0 a0_1 a0_2 a0_3 a0_4 a0_5 a0_6 a0_7 a0_8 t399 _ A10.out).mono ?_); rintro e w13 ⟨rfl, hb⟩; refine ⟨_, rfl, ?_⟩; replace BK396 := bb BK396 hb; replace HB := bh HB hb; (try clear hb); (try clear hb2); (try clear hk); (try clear hi)))
            go_loopg [9] k1 (fun kq v9 w' => ∃ (x9_2 : Int), v9 = .int .i64 x9_2 ∧ Aside0 (stickfulref06_Styles.l1 kq l1 l2 x9_2 a0_0 a0_1 a0_2 a0_3 a0_4 a0_5 a0_6 a0_7 a0_8 = some (r1, r2)) ∧ Aside0 (kq ≤ k1) ∧ Aside0 (w'.heap[gb396]? = some (.cells #[.int .u8 a0_0, .int .u8 a0_1, .int .u8 a0_2, .int .u8 a0_3, .int .i64 a0_4, .int .i64 a0_5, .int .i64 a0_6, .int .u8 a0_7, .int .i64 a0_8] 23 (0, 0))) ∧ Aside0 (Below w.heap.size w w'))
            case atStart => exact ⟨(0), (by first | rfl | (simp; done) | (simp [*]; done)), H', ⟨Nat.le_refl _⟩, ⟨by (with_reducible repeat (first | refine blk_drewN ?_ _ | refine blk_drew ?_ | refine blk_alloc ?_ _)); exact BK396.out⟩, ⟨by repeat (first | (with_reducible first | exact HB.out | apply below_alloc | apply pw_below_drewN | apply below_drew1 | refine below_set ?_ GE396.out) | exact HB.out)⟩⟩
            case round =>
              clear H'
              try clear c1
              try clear c2
              try clear p2
              try clear p3
              try clear q3
              try clear hx3
              try clear c4
              try clear c4b0
              try clear c4b1
              try clear c4b2
              try clear c6
              try clear c6b0
              try clear p6
              try clear c7
              try clear c7b0
              try clear c8
              try clear c8b0
              try clear c9
              try clear c9b0
              try clear c11
              try clear c11b0
              try clear c11b1
              try clear hcz12_0
              try clear hcz12_1
              try clear hcz12_2
              try clear hcz12_3
              try clear hcz12_4
              try clear hcz12_5
              try clear hcz12_6
              try clear hcz12_7
              try clear hcz12_8
              try clear hfz12_0
              try clear hfz12_1
              try clear hfz12_2
              try clear hfz12_3
              try clear hfz12_4
              try clear hfz12_5
              try clear hfz12_6
              try clear hfz12_7
              try clear hfz12_8
              try clear hx397_0
              try clear hx398_0
              try clear p2
              try clear p397
              try clear p398
              try clear q397
              try clear q398
              obtain ⟨x9_2, rfl, HA, HK2, BK396, HB⟩ := hrel
              cases gk with
              | zero => exact absurd HA.out (by simp [stickfulref06_Styles.l1])
              | succ k2 =>
                have H := HA.out
                clear HA
                simp only [stickfulref06_Styles.l1] at H
                by_cases c14 : x9_2 < (l2.length : Int)
                · rw [if_pos c14] at H
                  have c14b0 : decide (x9_2 < (l2.length : Int)) = true := decide_eq_true c14
                  clear c14
                  by_cases c15 : 0 ≤ x9_2
                  · rw [if_pos c15] at H
                    have c15b0 : decide (0 ≤ x9_2) = true := decide_eq_true c15
                    clear c15
                    replace H := Option.bind_eq_some_iff.mp H
                    obtain ⟨t401, A160, H⟩ := H
                    replace H : (if t401 = 0 then (stickfulref06_Styles.l1 k2 l1 l2 (wrap64 (x9_2 + 1)) a0_0 a0_1 a0_2 a0_3 a0_4 a0_5 a0_6 a0_7 a0_8) else (some (([] : List (S23)), 60))) = some (r1, r2) := H
                    have A16 := Aside0.mk A160
                    clear A160
                    by_cases c17 : t401 = 0
                    · rw [if_pos c17] at H
                      have c17b0 : (t401 == 0) = true := beq_iff_eq.mpr c17
                      have c17b1 : (t401 != 0) = false := bne_eq_false_iff_eq.mpr c17
                      clear c17
                      have H' := Aside0.mk H
                      clear H
                      have p400 : 0 ≤ (x9_2 : Int) := of_decide_eq_true (by first | (with_reducible assumption) | assumption)
                      have q400 : x9_2 < (l2.length : Int) := of_decide_eq_true (by first | (with_reducible assumption) | assumption)
                      obtain ⟨ad400, e400, hx400_0, hx400_1, hx400_2, hx400_3, hx400_4, hx400_5, hx400_6, hx400_7, hx400_8, hx400_9⟩ := at_T26 HR2.out x9_2 p400 q400
                      cases e400
                      replace hx400_0 := (HB.out.cell (World.block_lt_of_cell? w _ hx400_0)).trans hx400_0
                      replace hx400_1 := (HB.out.cell (World.block_lt_of_cell? w _ hx400_1)).trans hx400_1
                      replace hx400_2 := (HB.out.cell (World.block_lt_of_cell? w _ hx400_2)).trans hx400_2
                      replace hx400_3 := (HB.out.cell (World.block_lt_of_cell? w _ hx400_3)).trans hx400_3
                      replace hx400_4 := (HB.out.cell (World.block_lt_of_cell? w _ hx400_4)).trans hx400_4
                      replace hx400_5 := (HB.out.cell (World.block_lt_of_cell? w _ hx400_5)).trans hx400_5
                      replace hx400_6 := (HB.out.cell (World.block_lt_of_cell? w _ hx400_6)).trans hx400_6
                      replace hx400_7 := (HB.out.cell (World.block_lt_of_cell? w _ hx400_7)).trans hx400_7
                      replace hx400_8 := (HB.out.cell (World.block_lt_of_cell? w _ hx400_8)).trans hx400_8
                      replace hx400_9 := (HB.out.cell (World.block_lt_of_cell? w _ hx400_9)).trans hx400_9
                      replace p400 := eq_true p400
                      replace q400 := eq_true q400
                      go_wp2_with (first | ((with_reducible refine gate_callee (f := 19) rfl ?_); refine goesB (some 49) rfl rfl Try.func19 #[.agg #[.int .u16 ((rd_T26 l2 x9_2).f0), .int .u8 ((rd_T26 l2 x9_2).f1.f0), .int .u8 ((rd_T26 l2 x9_2).f1.f1), .int .u8 ((rd_T26 l2 x9_2).f1.f2), .int .u8 ((rd_T26 l2 x9_2).f1.f3), .int .i64 ((rd_T26 l2 x9_2).f1.f4), .int .i64 ((rd_T26 l2 x9_2).f1.f5), .int .i64 ((rd_T26 l2 x9_2).f1.f6), .int .u8 ((rd_T26 l2 x9_2).f1.f7), .int .i64 ((rd_T26 l2 x9_2).f1.f8)]] rfl ?_; (with_reducible refine (stickfulref06_CheckDecl.calls k2 ((rd_T26 l2 x9_2).f0) ((rd_T26 l2 x9_2).f1.f0) ((rd_T26 l2 x9_2).f1.f1) ((rd_T26 l2 x9_2).f1.f2) ((rd_T26 l2 x9_2).f1.f3) ((rd_T26 l2 x9_2).f1.f4) ((rd_T26 l2 x9_2).f1.f5) ((rd_T26 l2 x9_2).f1.f6) ((rd_T26 l2 x9_2).f1.f7) ((rd_T26 l2 x9_2).f1.f8) t401 _ A16.out).mono ?_); rintro e w18 ⟨rfl, hb⟩; refine ⟨_, rfl, ?_⟩; replace BK396 := bb BK396 hb; replace HB := bh HB hb; (try clear hb); (try clear hb2); (try clear hk); (try clear hi)))
                      go_roundg k2
                      case measure => have := HK1.out; have := HK2.out; omega
                      case rel => exact ⟨(wrap64 (x9_2 + 1)), (by first | rfl | (simp; done) | (simp [*]; done)), H', ⟨by have := HK1.out; have := HK2.out; omega⟩, ⟨by (with_reducible repeat (first | refine blk_drewN ?_ _ | refine blk_drew ?_ | refine blk_alloc ?_ _)); exact BK396.out⟩, ⟨by repeat (first | (with_reducible first | exact HB.out | apply below_alloc | apply pw_below_drewN | apply below_drew1 | refine below_set ?_ GE396.out) | exact HB.out)⟩⟩
                    · rw [if_neg c17] at H
                      have c17b0 : (t401 == 0) = false := beq_eq_false_iff_ne.mpr c17
                      have c17b1 : (t401 != 0) = true := bne_iff_ne.mpr c17
                      simp only [Option.some.injEq, Prod.mk.injEq] at H
                      obtain ⟨rfl, rfl⟩ := H
                      have p400 : 0 ≤ (x9_2 : Int) := of_decide_eq_true (by first | (with_reducible assumption) | assumption)
                      have q400 : x9_2 < (l2.length : Int) := of_decide_eq_true (by first | (with_reducible assumption) | assumption)
                      obtain ⟨ad400, e400, hx400_0, hx400_1, hx400_2, hx400_3, hx400_4, hx400_5, hx400_6, hx400_7, hx400_8, hx400_9⟩ := at_T26 HR2.out x9_2 p400 q400
                      cases e400
                      replace hx400_0 := (HB.out.cell (World.block_lt_of_cell? w _ hx400_0)).trans hx400_0
                      replace hx400_1 := (HB.out.cell (World.block_lt_of_cell? w _ hx400_1)).trans hx400_1
                      replace hx400_2 := (HB.out.cell (World.block_lt_of_cell? w _ hx400_2)).trans hx400_2
                      replace hx400_3 := (HB.out.cell (World.block_lt_of_cell? w _ hx400_3)).trans hx400_3
                      replace hx400_4 := (HB.out.cell (World.block_lt_of_cell? w _ hx400_4)).trans hx400_4
                      replace hx400_5 := (HB.out.cell (World.block_lt_of_cell? w _ hx400_5)).trans hx400_5
                      replace hx400_6 := (HB.out.cell (World.block_lt_of_cell? w _ hx400_6)).trans hx400_6
                      replace hx400_7 := (HB.out.cell (World.block_lt_of_cell? w _ hx400_7)).trans hx400_7
                      replace hx400_8 := (HB.out.cell (World.block_lt_of_cell? w _ hx400_8)).trans hx400_8
                      replace hx400_9 := (HB.out.cell (World.block_lt_of_cell? w _ hx400_9)).trans hx400_9
                      replace p400 := eq_true p400
                      replace q400 := eq_true q400
                      go_wp2_with (first | ((with_reducible refine gate_callee (f := 19) rfl ?_); refine goesB (some 49) rfl rfl Try.func19 #[.agg #[.int .u16 ((rd_T26 l2 x9_2).f0), .int .u8 ((rd_T26 l2 x9_2).f1.f0), .int .u8 ((rd_T26 l2 x9_2).f1.f1), .int .u8 ((rd_T26 l2 x9_2).f1.f2), .int .u8 ((rd_T26 l2 x9_2).f1.f3), .int .i64 ((rd_T26 l2 x9_2).f1.f4), .int .i64 ((rd_T26 l2 x9_2).f1.f5), .int .i64 ((rd_T26 l2 x9_2).f1.f6), .int .u8 ((rd_T26 l2 x9_2).f1.f7), .int .i64 ((rd_T26 l2 x9_2).f1.f8)]] rfl ?_; (with_reducible refine (stickfulref06_CheckDecl.calls k2 ((rd_T26 l2 x9_2).f0) ((rd_T26 l2 x9_2).f1.f0) ((rd_T26 l2 x9_2).f1.f1) ((rd_T26 l2 x9_2).f1.f2) ((rd_T26 l2 x9_2).f1.f3) ((rd_T26 l2 x9_2).f1.f4) ((rd_T26 l2 x9_2).f1.f5) ((rd_T26 l2 x9_2).f1.f6) ((rd_T26 l2 x9_2).f1.f7) ((rd_T26 l2 x9_2).f1.f8) t401 _ A16.out).mono ?_); rintro e w19 ⟨rfl, hb⟩; refine ⟨_, rfl, ?_⟩; replace BK396 := bb BK396 hb; replace HB := bh HB hb; (try clear hb); (try clear hb2); (try clear hk); (try clear hi)))
                      go_ret2
                      exact ⟨_, by first | rfl | (simp [errW_none, errW_some] <;> rfl) | (simp [*, errW_none, errW_some] <;> rfl), by first | exact Kd.R_nil _ _ _ _ _ | exact Kd.N_nil _ _ _ _ _ | exact Kd.V_nil _ _ _ _ _ | exact Kd.Q_nil _ _ _ _ _ | exact Kd.S_nil _ _ _ _ _, by repeat (first | (with_reducible first | exact HB.out | apply below_alloc | apply pw_below_drewN | apply below_drew1 | refine below_set ?_ GE396.out) | exact HB.out)⟩
                  · rw [if_neg c15] at H
                    exact absurd H (by simp)
                · rw [if_neg c14] at H
                  have c14b0 : decide (x9_2 < (l2.length : Int)) = false := decide_eq_false c14
                  clear c14
                  have H' := Aside0.mk H
                  clear H
                  go_wp2
                  go_loopg [10, 11] k2 (fun kq v10 v11 w' => ∃ (x10_3 : List (S23)) (x11_3 : Int), v11 = .int .i64 x11_3 ∧ Aside0 (stickfulref06_Styles.l2 kq l1 l2 x10_3 x11_3 a0_0 a0_1 a0_2 a0_3 a0_4 a0_5 a0_6 a0_7 a0_8 = some (r1, r2)) ∧ Aside0 (kq ≤ k2) ∧ Aside0 (Kd.R k23 23 w' w.heap.size (fun k_ => k_ ≠ gb396) v10 x10_3) ∧ Aside0 (w'.heap[gb396]? = some (.cells #[.int .u8 a0_0, .int .u8 a0_1, .int .u8 a0_2, .int .u8 a0_3, .int .i64 a0_4, .int .i64 a0_5, .int .i64 a0_6, .int .u8 a0_7, .int .i64 a0_8] 23 (0, 0))) ∧ Aside0 (Below w.heap.size w w'))
                  case atStart => exact ⟨(([] : List (S23))), (0), (by first | rfl | (simp; done) | (simp [*]; done)), H', ⟨Nat.le_refl _⟩, ⟨by first | exact Kd.R_nil _ _ _ _ _ | exact Kd.N_nil _ _ _ _ _ | exact Kd.V_nil _ _ _ _ _ | exact Kd.Q_nil _ _ _ _ _ | exact Kd.S_nil _ _ _ _ _⟩, ⟨by (with_reducible repeat (first | refine blk_drewN ?_ _ | refine blk_drew ?_ | refine blk_alloc ?_ _)); exact BK396.out⟩, ⟨by repeat (first | (with_reducible first | exact HB.out | apply below_alloc | apply pw_below_drewN | apply below_drew1 | refine below_set ?_ GE396.out) | exact HB.out)⟩⟩
                  case round =>
                    clear H'
                    try clear c1
                    try clear c2
                    try clear p2
                    try clear p3
                    try clear q3
                    try clear hx3
                    try clear c4
                    try clear c4b0
                    try clear c4b1
                    try clear c4b2
                    try clear p4
                    try clear q4
                    try clear hx4
                    try clear c6
                    try clear c6b0
                    try clear p6
                    try clear c7
                    try clear c7b0
                    try clear c8
                    try clear c8b0
                    try clear c9
                    try clear c9b0
                    try clear c11
                    try clear c11b0
                    try clear c11b1
                    try clear c14
                    try clear c14b0
                    try clear c15
                    try clear c15b0
                    try clear c17
                    try clear c17b0
                    try clear c17b1
                    try clear c19
                    try clear hcz12_0
                    try clear hcz12_1
                    try clear hcz12_2
                    try clear hcz12_3
                    try clear hcz12_4
                    try clear hcz12_5
                    try clear hcz12_6
                    try clear hcz12_7
                    try clear hcz12_8
                    try clear hfz12_0
                    try clear hfz12_1
                    try clear hfz12_2
                    try clear hfz12_3
                    try clear hfz12_4
                    try clear hfz12_5
                    try clear hfz12_6
                    try clear hfz12_7
                    try clear hfz12_8
                    try clear hx397_0
                    try clear hx398_0
                    try clear hx400_0
                    try clear hx400_1
                    try clear hx400_2
                    try clear hx400_3
                    try clear hx400_4
                    try clear hx400_5
                    try clear hx400_6
                    try clear hx400_7
                    try clear hx400_8
                    try clear hx400_9
                    try clear p2
                    try clear p3
                    try clear p397
                    try clear p398
                    try clear p400
                    try clear p6
                    try clear q3
                    try clear q397
                    try clear q398
                    try clear q400
                    obtain ⟨x10_3, x11_3, rfl, HA, HK3, HO_10, BK396, HB⟩ := hrel
                    cases gk with
                    | zero => exact absurd HA.out (by simp [stickfulref06_Styles.l2])
                    | succ k3 =>
                      have H := HA.out
                      clear HA
                      simp only [stickfulref06_Styles.l2] at H
                      by_cases c20 : x11_3 < (l2.length : Int)
                      · rw [if_pos c20] at H
                        have c20b0 : decide (x11_3 < (l2.length : Int)) = true := decide_eq_true c20
                        clear c20
                        replace H := Option.bind_eq_some_iff.mp H
                        obtain ⟨⟨t402, t403, t404, t405, t406, t407, t408, t409, t410⟩, A210, H⟩ := H
                        replace H : (if x10_3.length < 2932031007402 then (stickfulref06_Styles.l2 k3 l1 l2 (x10_3 ++ [(⟨t402, t403, t404, t405, t406, t407, t408, t409, t410⟩ : S23)]) (wrap64 (x11_3 + 1)) a0_0 a0_1 a0_2 a0_3 a0_4 a0_5 a0_6 a0_7 a0_8) else (none)) = some (r1, r2) := H
                        have A21 := Aside0.mk A210
                        clear A210
                        by_cases c22 : x10_3.length < 2932031007402
                        · rw [if_pos c22] at H
                          have LMc22 := Aside0.mk c22
                          clear c22
                          obtain ⟨y411, hy411⟩ : ∃ y_ : List (S23), y_ = (x10_3 ++ [(⟨t402, t403, t404, t405, t406, t407, t408, t409, t410⟩ : S23)]) := ⟨_, rfl⟩
                          replace H : (stickfulref06_Styles.l2 k3 l1 l2 y411 (wrap64 (x11_3 + 1)) a0_0 a0_1 a0_2 a0_3 a0_4 a0_5 a0_6 a0_7 a0_8) = some (r1, r2) := by first | (rw [hy411]; with_reducible exact H) | (have H2_ := (Option.bind_some _ _).symm.trans H; rw [hy411]; with_reducible exact H2_) | (have H2_ := (Option.bind_some _ _).symm.trans H; with_reducible exact H2_) | with_reducible exact H | (rw [hy411]; exact H) | exact H
                          have Ny411 := Aside0.mk hy411
                          clear hy411
                          have H' := Aside0.mk H
                          clear H
                          obtain ⟨hcz23_0, hcz23_1, hcz23_2, hcz23_3, hcz23_4, hcz23_5, hcz23_6, hcz23_7, hcz23_8⟩ := cz9 BK396
                          obtain ⟨hfz23_0, hfz23_1, hfz23_2, hfz23_3, hfz23_4, hfz23_5, hfz23_6, hfz23_7, hfz23_8⟩ := fz9 BK396
                          go_wp2_with (first | ((with_reducible refine gate_callee (f := 34) rfl ?_); refine goesB (some 62) rfl rfl Try.func34 #[.agg #[.int .u8 a0_0, .int .u8 a0_1, .int .u8 a0_2, .int .u8 a0_3, .int .i64 a0_4, .int .i64 a0_5, .int .i64 a0_6, .int .u8 a0_7, .int .i64 a0_8], .slice A1 l1.length c1, .slice A2 l2.length c2, .int .i64 x11_3] rfl ?_; (with_reducible refine (stickfulref06_At.calls k3 a0_0 a0_1 a0_2 a0_3 a0_4 a0_5 a0_6 a0_7 a0_8 _ _ l1 _ _ l2 x11_3 t402 t403 t404 t405 t406 t407 t408 t409 t410 _ ?side1 ?side2 ?side3 ?side4 A21.out).mono ?_); (case side1 => repeat (first | exact (Kd.C_below HR1.out HB.out) | (with_reducible refine Kd.C_alloc ?_ _) | (with_reducible refine Kd.C_drewN ?_ _) | (with_reducible refine Kd.C_drew ?_))); (case side2 => exact HC1.out); (case side3 => repeat (first | exact (Kd.C_below HR2.out HB.out) | (with_reducible refine Kd.C_alloc ?_ _) | (with_reducible refine Kd.C_drewN ?_ _) | (with_reducible refine Kd.C_drew ?_))); (case side4 => exact HC2.out); rintro e w24 ⟨rfl, hb⟩; refine ⟨_, rfl, ?_⟩; replace HO_10 := Aside0.mk (Kd.R_below (rx HO_10) hb); replace BK396 := bb BK396 hb; replace HB := bh HB hb; (try clear hb); (try clear hb2); (try clear hk); (try clear hi)) | ((with_reducible refine gate_builtin (b := .append) (xs := #[.tmp 57, .tmp 63]) rfl ?_); at_builtin; refine Kd.R_append k23 (w0 := w) w.heap.size rfl (.tmp 57) (.tmp 63) 45 23 (.agg #[(.int .u8 0), (.int .u8 0), (.int .u8 0), (.int .u8 0), (.int .i64 0), (.int .i64 0), (.int .i64 0), (.int .u8 0), (.int .i64 0)]) 48 rfl Try.underlying45 info23 rfl (by decide) (by omega) u10 x10_3 (⟨t402, t403, t404, t405, t406, t407, t408, t409, t410⟩ : S23) [.int .u8 t402, .int .u8 t403, .int .u8 t404, .int .u8 t405, .int .i64 t406, .int .i64 t407, .int .i64 t408, .int .u8 t409, .int .i64 t410] (fun k_ => k_ ≠ gb396) (fun _ => False) rfl rfl ?aP (fun _ hk => hk.elim) ?aF ?aO ?aB ?aS ?aL ?_; (case aP => exact k23_mkM _ _ _ (⟨t402, t403, t404, t405, t406, t407, t408, t409, t410⟩ : S23)); (case aB => exact (bw HB)); (case aF => exact (fun k_ hk => Kd.freshB (bx BK396) k_ hk)); (case aO => exact (rx HO_10)); (case aS => exact (below_size (bw HB))); (case aL => have := LMc22.out; omega); intro v412 w25 ho hb hg hat; rw [← Ny411.out] at ho; replace BK396 := Aside0.mk (blk_grown (bx BK396) hg (Kd.R_away HO_10.out (fun _ hk => hk))); replace HB := Aside0.mk (hb); have HO413 := Aside0.mk (ho); clear HO_10; clear ho hb hg hat))
                          go_roundg k3
                          case measure => have := HK1.out; have := HK2.out; have := HK3.out; omega
                          case rel => exact ⟨(y411), (wrap64 (x11_3 + 1)), (by first | rfl | (simp; done) | (simp [*]; done)), H', ⟨by have := HK1.out; have := HK2.out; have := HK3.out; omega⟩, ⟨by (with_reducible repeat (first | apply Kd.R_alloc | apply Kd.R_drewN | apply Kd.R_drew)); exact HO413.out⟩, ⟨by (with_reducible repeat (first | refine blk_drewN ?_ _ | refine blk_drew ?_ | refine blk_alloc ?_ _)); exact BK396.out⟩, ⟨by repeat (first | (with_reducible first | exact HB.out | apply below_alloc | apply pw_below_drewN | apply below_drew1 | refine below_set ?_ GE396.out) | exact HB.out)⟩⟩
                        · rw [if_neg c22] at H
                          exact absurd H (by simp)
                      · rw [if_neg c20] at H
                        have c20b0 : decide (x11_3 < (l2.length : Int)) = false := decide_eq_false c20
                        clear c20
                        simp only [Option.some.injEq, Prod.mk.injEq] at H
                        obtain ⟨rfl, rfl⟩ := H
                        go_wp2
                        go_ret2
                        exact ⟨_, by first | rfl | (simp [errW_none, errW_some] <;> rfl) | (simp [*, errW_none, errW_some] <;> rfl), by (with_reducible repeat (first | apply Kd.R_alloc | apply Kd.R_drewN | apply Kd.R_drew)); exact Kd.R_mono HO_10.out (fun _ hk => trivial), by repeat (first | (with_reducible first | exact HB.out | apply below_alloc | apply pw_below_drewN | apply below_drew1 | refine below_set ?_ GE396.out) | exact HB.out)⟩
          · rw [if_neg c11] at H
            have c11b0 : (t399 == 0) = false := beq_eq_false_iff_ne.mpr c11
            have c11b1 : (t399 != 0) = true := bne_iff_ne.mpr c11
            simp only [Option.some.injEq, Prod.mk.injEq] at H
            obtain ⟨rfl, rfl⟩ := H
            obtain ⟨hcz26_0, hcz26_1, hcz26_2, hcz26_3, hcz26_4, hcz26_5, hcz26_6, hcz26_7, hcz26_8⟩ := cz9 BK396
            obtain ⟨hfz26_0, hfz26_1, hfz26_2, hfz26_3, hfz26_4, hfz26_5, hfz26_6, hfz26_7, hfz26_8⟩ := fz9 BK396
            go_wp2_with (first | ((with_reducible refine gate_callee (f := 17) rfl ?_); refine goesB (some 37) rfl rfl Try.func17 #[.agg #[.int .u8 a0_0, .int .u8 a0_1, .int .u8 a0_2, .int .u8 a0_3, .int .i64 a0_4, .int .i64 a0_5, .int .i64 a0_6, .int .u8 a0_7, .int .i64 a0_8]] rfl ?_; (with_reducible refine (stickfulref06_Check.calls a0_0 a0_1 a0_2 a0_3 a0_4 a0_5 a0_6 a0_7 a0_8 t399 _ A10.out).mono ?_); rintro e w27 ⟨rfl, hb⟩; refine ⟨_, rfl, ?_⟩; replace BK396 := bb BK396 hb; replace HB := bh HB hb; (try clear hb); (try clear hb2); (try clear hk); (try clear hi)))
            go_ret2
            exact ⟨_, by first | rfl | (simp [errW_none, errW_some] <;> rfl) | (simp [*, errW_none, errW_some] <;> rfl), by first | exact Kd.R_nil _ _ _ _ _ | exact Kd.N_nil _ _ _ _ _ | exact Kd.V_nil _ _ _ _ _ | exact Kd.Q_nil _ _ _ _ _ | exact Kd.S_nil _ _ _ _ _, by repeat (first | (with_reducible first | exact HB.out | apply below_alloc | apply pw_below_drewN | apply below_drew1 | refine below_set ?_ GE396.out) | exact HB.out)⟩
  · rw [if_neg c4] at H
    have c4b0 : ((l1.length : Int) == (l2.length : Int)) = false := beq_eq_false_iff_ne.mpr c4
    have c4b1 : ((l1.length : Int) != (l2.length : Int)) = true := bne_iff_ne.mpr c4
    have c4b2 : (l1.length == l2.length) = false := by first | simpa using c4 | (simp at c4 ⊢; omega)
    simp only [Option.some.injEq, Prod.mk.injEq] at H
    obtain ⟨rfl, rfl⟩ := H
    go_enter Try.func24, Try.ntmps24
    go_wp2_with (first | ((with_reducible refine gate_dst (N := 3) rfl ?_); refine box_event ?hg (N := 3) ?hd (cs := #[.int .u8 a0_0, .int .u8 a0_1, .int .u8 a0_2, .int .u8 a0_3, .int .i64 a0_4, .int .i64 a0_5, .int .i64 a0_6, .int .u8 a0_7, .int .i64 a0_8]) (t := 23) ?hr ?_; (case hd => rfl); (case hg => rfl); (case hr => first | (go_simp; done) | (go_simp; rfl)); intro gb396 hg w28 hbox hb; have BK396 := Aside0.mk (hbox); have GW396 := bge HB hg; have GE396 := bge HB hg; replace HB := bh HB hb; clear hb hbox hg))
    go_ret2
    exact ⟨_, by first | rfl | (simp [errW_none, errW_some] <;> rfl) | (simp [*, errW_none, errW_some] <;> rfl), by first | exact Kd.R_nil _ _ _ _ _ | exact Kd.N_nil _ _ _ _ _ | exact Kd.V_nil _ _ _ _ _ | exact Kd.Q_nil _ _ _ _ _ | exact Kd.S_nil _ _ _ _ _, by repeat (first | (with_reducible first | exact HB.out | apply below_alloc | apply pw_below_drewN | apply below_drew1 | refine below_set ?_ GE396.out) | exact HB.out)⟩

/-! ### stickfulref06_Same: function 25 -/
def stickfulref06_Same.l0 : Nat → List (S23) → List (S23) → Int → Option (Bool)
  | 0, _, _, _ => none
  | k + 1, x0, x1, x5 => if x5 < (x0.length : Int) then (if 0 ≤ x5 then (if x5 < (x1.length : Int) then (if (!(((rd_T23 x0 x5).f0) == ((rd_T23 x1 x5).f0)) || (!(((rd_T23 x0 x5).f1) == ((rd_T23 x1 x5).f1)) || (!(((rd_T23 x0 x5).f2) == ((rd_T23 x1 x5).f2)) || (!(((rd_T23 x0 x5).f3) == ((rd_T23 x1 x5).f3)) || (!(((rd_T23 x0 x5).f4) == ((rd_T23 x1 x5).f4)) || (!(((rd_T23 x0 x5).f5) == ((rd_T23 x1 x5).f5)) || (!(((rd_T23 x0 x5).f6) == ((rd_T23 x1 x5).f6)) || (!(((rd_T23 x0 x5).f7) == ((rd_T23 x1 x5).f7)) || (!(((rd_T23 x0 x5).f8) == ((rd_T23 x1 x5).f8))))))))))) = true then (some false) else (stickfulref06_Same.l0 k x0 x1 (wrap64 (x5 + 1)))) else (none)) else (none)) else (some true)
def stickfulref06_Same.f (k : Nat) (l0 : List (S23)) (l1 : List (S23)) : Option (Bool) := if (l0.length : Int) = (l1.length : Int) then (stickfulref06_Same.l0 k l0 l1 0) else (some false)
theorem stickfulref06_Same.mono_l : ∀ k, (∀ y0 y1 y2, LeO (stickfulref06_Same.l0 k y0 y1 y2) (stickfulref06_Same.l0 (k + 1) y0 y1 y2))
  | 0 => fun _ _ _ r h => by simp [stickfulref06_Same.l0] at h
  | k + 1 => by
    have ih0 := stickfulref06_Same.mono_l k
    · intro y0 y1 y2
      unfold stickfulref06_Same.l0
      repeat' first
      | (with_reducible exact ih0 _ _ _)
      | (with_reducible exact LeO.refl _)
      | (with_reducible exact LeO.none _)
      | (with_reducible refine LeO.ite ?_ ?_)
      | (with_reducible refine LeO.bind ?_ (fun _ => ?_))
      | exact ih0 _ _ _
      | exact LeO.none _
      | refine LeO.ite ?_ ?_
      | refine LeO.bind ?_ (fun _ => ?_)
theorem stickfulref06_Same.mono : ∀ a0 a1 k, LeO (stickfulref06_Same.f k a0 a1) (stickfulref06_Same.f (k + 1) a0 a1) := by
  intro a0 a1 k
  have ih0 := stickfulref06_Same.mono_l k
  unfold stickfulref06_Same.f
  repeat' first
      | (with_reducible exact ih0 _ _ _)
      | (with_reducible exact LeO.refl _)
      | (with_reducible exact LeO.none _)
      | (with_reducible refine LeO.ite ?_ ?_)
      | (with_reducible refine LeO.bind ?_ (fun _ => ?_))
      | exact ih0 _ _ _
      | exact LeO.none _
      | refine LeO.ite ?_ ?_
      | refine LeO.bind ?_ (fun _ => ?_)
set_option maxHeartbeats 8000000 in
set_option maxRecDepth 100000 in
theorem stickfulref06_Same.calls (k : Nat) (A0 : Option Addr) (c0 : Nat) (l0 : List (S23)) (A1 : Option Addr) (c1 : Nat) (l1 : List (S23)) (r : Bool) (w : World) (hr0 : Kd.C k23 w A0 l0.length l0) (hc0 : l0.length ≤ c0) (hr1 : Kd.C k23 w A1 l1.length l1) (hc1 : l1.length ≤ c1) (h : stickfulref06_Same.f k l0 l1 = some r) :
    Calls Try.prog 25 #[.slice A0 l0.length c0, .slice A1 l1.length c1] w fun e w' => e = .returned (.bool r) ∧ Drawn0 w w' := by
  have hu23 := Try.underlying23
  have HR0 := Aside0.mk hr0
  have HC0 := Aside0.mk hc0
  clear hr0 hc0
  have HR1 := Aside0.mk hr1
  have HC1 := Aside0.mk hc1
  clear hr1 hc1
  have H : (if (l0.length : Int) = (l1.length : Int) then (stickfulref06_Same.l0 k l0 l1 0) else (some false)) = some r := h
  clear h
  by_cases c3 : (l0.length : Int) = (l1.length : Int)
  · rw [if_pos c3] at H
    have c3b0 : ((l0.length : Int) == (l1.length : Int)) = true := beq_iff_eq.mpr c3
    have c3b1 : ((l0.length : Int) != (l1.length : Int)) = false := bne_eq_false_iff_eq.mpr c3
    have c3b2 : (l0.length == l1.length) = true := by first | simpa using c3 | (simp at c3 ⊢; omega)
    clear c3
    have H' := Aside0.mk H
    clear H
    go_enter Try.func25, Try.ntmps25
    go_wp2
    repeat (go_quiet (fail); try go_wp2)
    go_loopg [5] k (fun kq v5 w' => ∃ (x5_1 : Int), v5 = .int .i64 x5_1 ∧ Aside0 (stickfulref06_Same.l0 kq l0 l1 x5_1 = some r) ∧ Aside0 (kq ≤ k) ∧ Drawn0 w w')
    case atStart => exact ⟨(0), (by first | rfl | (simp; done) | (simp [*]; done)), H', ⟨Nat.le_refl _⟩, by repeat (first | exact Drawn0.refl _ | apply Drawn0.step)⟩
    case round =>
      clear H'
      try clear c1
      try clear c2
      try clear p2
      try clear c3
      try clear c3b0
      try clear c3b1
      try clear c3b2
      obtain ⟨x5_1, rfl, HA, HK1, ⟨m1, rfl⟩⟩ := hrel
      cases gk with
      | zero => exact absurd HA.out (by simp [stickfulref06_Same.l0])
      | succ k1 =>
        have H := HA.out
        clear HA
        simp only [stickfulref06_Same.l0] at H
        by_cases c4 : x5_1 < (l0.length : Int)
        · rw [if_pos c4] at H
          have c4b0 : decide (x5_1 < (l0.length : Int)) = true := decide_eq_true c4
          clear c4
          by_cases c5 : 0 ≤ x5_1
          · rw [if_pos c5] at H
            have c5b0 : decide (0 ≤ x5_1) = true := decide_eq_true c5
            clear c5
            by_cases c6 : x5_1 < (l1.length : Int)
            · rw [if_pos c6] at H
              have c6b0 : decide (x5_1 < (l1.length : Int)) = true := decide_eq_true c6
              clear c6
              by_cases c7 : (!(((rd_T23 l0 x5_1).f0) == ((rd_T23 l1 x5_1).f0)) || (!(((rd_T23 l0 x5_1).f1) == ((rd_T23 l1 x5_1).f1)) || (!(((rd_T23 l0 x5_1).f2) == ((rd_T23 l1 x5_1).f2)) || (!(((rd_T23 l0 x5_1).f3) == ((rd_T23 l1 x5_1).f3)) || (!(((rd_T23 l0 x5_1).f4) == ((rd_T23 l1 x5_1).f4)) || (!(((rd_T23 l0 x5_1).f5) == ((rd_T23 l1 x5_1).f5)) || (!(((rd_T23 l0 x5_1).f6) == ((rd_T23 l1 x5_1).f6)) || (!(((rd_T23 l0 x5_1).f7) == ((rd_T23 l1 x5_1).f7)) || (!(((rd_T23 l0 x5_1).f8) == ((rd_T23 l1 x5_1).f8))))))))))) = true
              · rw [if_pos c7] at H
                have c7b0 : (!(((rd_T23 l0 x5_1).f0) == ((rd_T23 l1 x5_1).f0)) || (!(((rd_T23 l0 x5_1).f1) == ((rd_T23 l1 x5_1).f1)) || (!(((rd_T23 l0 x5_1).f2) == ((rd_T23 l1 x5_1).f2)) || (!(((rd_T23 l0 x5_1).f3) == ((rd_T23 l1 x5_1).f3)) || (!(((rd_T23 l0 x5_1).f4) == ((rd_T23 l1 x5_1).f4)) || (!(((rd_T23 l0 x5_1).f5) == ((rd_T23 l1 x5_1).f5)) || (!(((rd_T23 l0 x5_1).f6) == ((rd_T23 l1 x5_1).f6)) || (!(((rd_T23 l0 x5_1).f7) == ((rd_T23 l1 x5_1).f7)) || (!(((rd_T23 l0 x5_1).f8) == ((rd_T23 l1 x5_1).f8))))))))))) = true := c7
                clear c7
                obtain rfl := Option.some.inj H
                have p414 : 0 ≤ (x5_1 : Int) := of_decide_eq_true (by first | (with_reducible assumption) | assumption)
                have q414 : x5_1 < (l0.length : Int) := of_decide_eq_true (by first | (with_reducible assumption) | assumption)
                obtain ⟨ad414, e414, hx414_0, hx414_1, hx414_2, hx414_3, hx414_4, hx414_5, hx414_6, hx414_7, hx414_8⟩ := at_T23 HR0.out x5_1 p414 q414
                cases e414
                replace p414 := eq_true p414
                replace q414 := eq_true q414
                have p415 : 0 ≤ (x5_1 : Int) := of_decide_eq_true (by first | (with_reducible assumption) | assumption)
                have q415 : x5_1 < (l1.length : Int) := of_decide_eq_true (by first | (with_reducible assumption) | assumption)
                obtain ⟨ad415, e415, hx415_0, hx415_1, hx415_2, hx415_3, hx415_4, hx415_5, hx415_6, hx415_7, hx415_8⟩ := at_T23 HR1.out x5_1 p415 q415
                cases e415
                replace p415 := eq_true p415
                replace q415 := eq_true q415
                go_wp2
                repeat (go_quiet (fail); try go_wp2)
                go_ret
                exact ⟨by first | rfl | (simp; done) | (simp [*]; done), by repeat (first | exact Drawn0.refl _ | apply Drawn0.step)⟩
              · rw [if_neg c7] at H
                have c7b0 : (!(((rd_T23 l0 x5_1).f0) == ((rd_T23 l1 x5_1).f0)) || (!(((rd_T23 l0 x5_1).f1) == ((rd_T23 l1 x5_1).f1)) || (!(((rd_T23 l0 x5_1).f2) == ((rd_T23 l1 x5_1).f2)) || (!(((rd_T23 l0 x5_1).f3) == ((rd_T23 l1 x5_1).f3)) || (!(((rd_T23 l0 x5_1).f4) == ((rd_T23 l1 x5_1).f4)) || (!(((rd_T23 l0 x5_1).f5) == ((rd_T23 l1 x5_1).f5)) || (!(((rd_T23 l0 x5_1).f6) == ((rd_T23 l1 x5_1).f6)) || (!(((rd_T23 l0 x5_1).f7) == ((rd_T23 l1 x5_1).f7)) || (!(((rd_T23 l0 x5_1).f8) == ((rd_T23 l1 x5_1).f8))))))))))) = false := by simpa using c7
                clear c7
                have H' := Aside0.mk H
                clear H
                have p414 : 0 ≤ (x5_1 : Int) := of_decide_eq_true (by first | (with_reducible assumption) | assumption)
                have q414 : x5_1 < (l0.length : Int) := of_decide_eq_true (by first | (with_reducible assumption) | assumption)
                obtain ⟨ad414, e414, hx414_0, hx414_1, hx414_2, hx414_3, hx414_4, hx414_5, hx414_6, hx414_7, hx414_8⟩ := at_T23 HR0.out x5_1 p414 q414
                cases e414
                replace p414 := eq_true p414
                replace q414 := eq_true q414
                have p415 : 0 ≤ (x5_1 : Int) := of_decide_eq_true (by first | (with_reducible assumption) | assumption)
                have q415 : x5_1 < (l1.length : Int) := of_decide_eq_true (by first | (with_reducible assumption) | assumption)
                obtain ⟨ad415, e415, hx415_0, hx415_1, hx415_2, hx415_3, hx415_4, hx415_5, hx415_6, hx415_7, hx415_8⟩ := at_T23 HR1.out x5_1 p415 q415
                cases e415
                replace p415 := eq_true p415
                replace q415 := eq_true q415
                go_wp2
                repeat (go_quiet (fail); try go_wp2)
                go_roundg k1
                case measure => have := HK1.out; omega
                case rel => exact ⟨(wrap64 (x5_1 + 1)), (by first | rfl | (simp; done) | (simp [*]; done)), H', ⟨by have := HK1.out; omega⟩, by repeat (first | exact Drawn0.refl _ | apply Drawn0.step)⟩
            · rw [if_neg c6] at H
              exact absurd H (by simp)
          · rw [if_neg c5] at H
            exact absurd H (by simp)
        · rw [if_neg c4] at H
          have c4b0 : decide (x5_1 < (l0.length : Int)) = false := decide_eq_false c4
          clear c4
          obtain rfl := Option.some.inj H
          go_wp2
          repeat (go_quiet (fail); try go_wp2)
          go_ret
          exact ⟨by first | rfl | (simp; done) | (simp [*]; done), by repeat (first | exact Drawn0.refl _ | apply Drawn0.step)⟩
  · rw [if_neg c3] at H
    have c3b0 : ((l0.length : Int) == (l1.length : Int)) = false := beq_eq_false_iff_ne.mpr c3
    have c3b1 : ((l0.length : Int) != (l1.length : Int)) = true := bne_iff_ne.mpr c3
    have c3b2 : (l0.length == l1.length) = false := by first | simpa using c3 | (simp at c3 ⊢; omega)
    obtain rfl := Option.some.inj H
    go_enter Try.func25, Try.ntmps25
    go_wp2
    repeat (go_quiet (fail); try go_wp2)
    go_ret
    exact ⟨by first | rfl | (simp; done) | (simp [*]; done), by repeat (first | exact Drawn0.refl _ | apply Drawn0.step)⟩

end Go.Proofs.Ytahpkfmgeifenaa.HStyle
