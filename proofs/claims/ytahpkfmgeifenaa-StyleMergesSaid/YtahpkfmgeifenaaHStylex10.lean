-- Written by this claim's own program over the kit's print.
import Derived.Test.YtahpkfmgeifenaaHStyleb
import Derived.Test.YtahpkfmgeifenaaHStylex0
import Derived.Test.YtahpkfmgeifenaaHStylex1
import Derived.Test.YtahpkfmgeifenaaHStylex2
import Derived.Test.YtahpkfmgeifenaaHStylex4
import Derived.Test.YtahpkfmgeifenaaHStylex5
import Derived.Test.YtahpkfmgeifenaaHStylex6
import Derived.Test.YtahpkfmgeifenaaHStylex7
import Derived.Test.YtahpkfmgeifenaaHStylex8
import Derived.Test.YtahpkfmgeifenaaHStylex9
import Derived.Test.YtahpkfmgeifenaaHand3
import Derived.StillTailTactics
namespace Go.Proofs.Ytahpkfmgeifenaa.HStyle
open Go.RowKit Go.Proofs.YtahpkfmgeifenaaW.PrintWords Go.Proofs.YtahpkfmgeifenaaW.PrintLast Go.Proofs.YtahpkfmgeifenaaW.PrintMore Go.Proofs.Ytahpkfmgeifenaa.Hand
attribute [local go_sem] max2_int min2_int max_two min_two max_three min_three max_four min_four   -- for this text's walks alone
set_option linter.unusedVariables false
set_option linter.unusedSimpArgs false

attribute [local go_sem high] eqA23 eqA26
/-! ### style_Styles: function 23 -/
mutual
def style_Styles.l0 : Nat → List Int → List (S26) → List Int → Int → Int → Int → Int → Int → Int → Int → Int → Int → Int → Int → Option ((List (S23)) × Int)
  | 0, _, _, _, _, _, _, _, _, _, _, _, _, _, _ => none
  | k + 1, x1, x2, x20, x21, x22, x201000, x201001, x201002, x201003, x201004, x201005, x201006, x201007, x201008 => if x22 < x21 then (if 0 ≤ x22 then (if x22 < (x20.length : Int) then (if (rd x20 x22) < (-1) then (some (([] : List (S23)), 2)) else (if (rd x20 x22) ≥ x22 then (some (([] : List (S23)), 2)) else (style_Styles.l0 k x1 x2 x20 x21 (wrap64 (x22 + 1)) x201000 x201001 x201002 x201003 x201004 x201005 x201006 x201007 x201008))) else (none)) else (none)) else ((style_Check.f x201000 x201001 x201002 x201003 x201004 x201005 x201006 x201007 x201008).bind fun t202 => (if t202 = 0 then (style_Styles.l1 k x1 ([] : List (S23)) x2 (x2.length : Int) 0 x201000 x201001 x201002 x201003 x201004 x201005 x201006 x201007 x201008) else (some (([] : List (S23)), 60))))
def style_Styles.l1 : Nat → List Int → List (S23) → List (S26) → Int → Int → Int → Int → Int → Int → Int → Int → Int → Int → Int → Option ((List (S23)) × Int)
  | 0, _, _, _, _, _, _, _, _, _, _, _, _, _, _ => none
  | k + 1, x1, x10, x38, x39, x40, x201000, x201001, x201002, x201003, x201004, x201005, x201006, x201007, x201008 => if x40 < x39 then (if 0 ≤ x40 then (if x40 < (x38.length : Int) then ((style_CheckDecl.f ((rd_T26 x38 x40).f0) ((rd_T26 x38 x40).f1.f0) ((rd_T26 x38 x40).f1.f1) ((rd_T26 x38 x40).f1.f2) ((rd_T26 x38 x40).f1.f3) ((rd_T26 x38 x40).f1.f4) ((rd_T26 x38 x40).f1.f5) ((rd_T26 x38 x40).f1.f6) ((rd_T26 x38 x40).f1.f7) ((rd_T26 x38 x40).f1.f8)).bind fun t205 => (if t205 = 0 then (if x40 < (x1.length : Int) then (if (rd x1 x40) ≥ 0 then (if 0 ≤ (rd x1 x40) then (if (rd x1 x40) < (x10.length : Int) then ((style_over.f ((rd_T23 x10 (rd x1 x40)).f0) ((rd_T23 x10 (rd x1 x40)).f1) ((rd_T23 x10 (rd x1 x40)).f2) ((rd_T23 x10 (rd x1 x40)).f3) ((rd_T23 x10 (rd x1 x40)).f4) ((rd_T23 x10 (rd x1 x40)).f5) ((rd_T23 x10 (rd x1 x40)).f6) ((rd_T23 x10 (rd x1 x40)).f7) ((rd_T23 x10 (rd x1 x40)).f8) ((rd_T26 x38 x40).f0) ((rd_T26 x38 x40).f1.f0) ((rd_T26 x38 x40).f1.f1) ((rd_T26 x38 x40).f1.f2) ((rd_T26 x38 x40).f1.f3) ((rd_T26 x38 x40).f1.f4) ((rd_T26 x38 x40).f1.f5) ((rd_T26 x38 x40).f1.f6) ((rd_T26 x38 x40).f1.f7) ((rd_T26 x38 x40).f1.f8)).bind fun bt209 => (if x10.length < 2932031007402 then (style_Styles.l1 k x1 (x10 ++ [(⟨bt209.1, bt209.2.1, bt209.2.2.1, bt209.2.2.2.1, bt209.2.2.2.2.1, bt209.2.2.2.2.2.1, bt209.2.2.2.2.2.2.1, bt209.2.2.2.2.2.2.2.1, bt209.2.2.2.2.2.2.2.2⟩ : S23)]) x38 x39 (wrap64 (x40 + 1)) x201000 x201001 x201002 x201003 x201004 x201005 x201006 x201007 x201008) else (none))) else (none)) else (none)) else ((style_over.f x201000 x201001 x201002 x201003 x201004 x201005 x201006 x201007 x201008 ((rd_T26 x38 x40).f0) ((rd_T26 x38 x40).f1.f0) ((rd_T26 x38 x40).f1.f1) ((rd_T26 x38 x40).f1.f2) ((rd_T26 x38 x40).f1.f3) ((rd_T26 x38 x40).f1.f4) ((rd_T26 x38 x40).f1.f5) ((rd_T26 x38 x40).f1.f6) ((rd_T26 x38 x40).f1.f7) ((rd_T26 x38 x40).f1.f8)).bind fun bt221 => (if x10.length < 2932031007402 then (style_Styles.l1 k x1 (x10 ++ [(⟨bt221.1, bt221.2.1, bt221.2.2.1, bt221.2.2.2.1, bt221.2.2.2.2.1, bt221.2.2.2.2.2.1, bt221.2.2.2.2.2.2.1, bt221.2.2.2.2.2.2.2.1, bt221.2.2.2.2.2.2.2.2⟩ : S23)]) x38 x39 (wrap64 (x40 + 1)) x201000 x201001 x201002 x201003 x201004 x201005 x201006 x201007 x201008) else (none)))) else (none)) else (some (([] : List (S23)), 60)))) else (none)) else (none)) else (some (x10, 0))
end
def style_Styles.f (k : Nat) (a0_0 a0_1 a0_2 a0_3 a0_4 a0_5 a0_6 a0_7 a0_8 : Int) (l1 : List Int) (l2 : List (S26)) : Option ((List (S23)) × Int) := if (l2.length : Int) = (l1.length : Int) then (style_Styles.l0 k l1 l2 l1 (l1.length : Int) 0 a0_0 a0_1 a0_2 a0_3 a0_4 a0_5 a0_6 a0_7 a0_8) else (some (([] : List (S23)), 2))
theorem style_Styles.mono_l : ∀ k, (∀ y0 y1 y2 y3 y4 y5 y6 y7 y8 y9 y10 y11 y12 y13, LeO (style_Styles.l0 k y0 y1 y2 y3 y4 y5 y6 y7 y8 y9 y10 y11 y12 y13) (style_Styles.l0 (k + 1) y0 y1 y2 y3 y4 y5 y6 y7 y8 y9 y10 y11 y12 y13)) ∧ (∀ y0 y1 y2 y3 y4 y5 y6 y7 y8 y9 y10 y11 y12 y13, LeO (style_Styles.l1 k y0 y1 y2 y3 y4 y5 y6 y7 y8 y9 y10 y11 y12 y13) (style_Styles.l1 (k + 1) y0 y1 y2 y3 y4 y5 y6 y7 y8 y9 y10 y11 y12 y13))
  | 0 => ⟨fun _ _ _ _ _ _ _ _ _ _ _ _ _ _ r h => by simp [style_Styles.l0] at h, fun _ _ _ _ _ _ _ _ _ _ _ _ _ _ r h => by simp [style_Styles.l1] at h⟩
  | k + 1 => by
    obtain ⟨ih0, ih1⟩ := style_Styles.mono_l k
    refine ⟨?_, ?_⟩
    · intro y0 y1 y2 y3 y4 y5 y6 y7 y8 y9 y10 y11 y12 y13
      unfold style_Styles.l0
      repeat' first
      | (with_reducible exact ih0 _ _ _ _ _ _ _ _ _ _ _ _ _ _)
      | (with_reducible exact ih1 _ _ _ _ _ _ _ _ _ _ _ _ _ _)
      | (with_reducible exact LeO.refl _)
      | (with_reducible exact LeO.none _)
      | (with_reducible refine LeO.ite ?_ ?_)
      | (with_reducible refine LeO.bind ?_ (fun _ => ?_))
      | exact ih0 _ _ _ _ _ _ _ _ _ _ _ _ _ _
      | exact ih1 _ _ _ _ _ _ _ _ _ _ _ _ _ _
      | exact LeO.none _
      | refine LeO.ite ?_ ?_
      | refine LeO.bind ?_ (fun _ => ?_)
    · intro y0 y1 y2 y3 y4 y5 y6 y7 y8 y9 y10 y11 y12 y13
      unfold style_Styles.l1
      repeat' first
      | (with_reducible exact ih0 _ _ _ _ _ _ _ _ _ _ _ _ _ _)
      | (with_reducible exact ih1 _ _ _ _ _ _ _ _ _ _ _ _ _ _)
      | (with_reducible exact LeO.refl _)
      | (with_reducible exact LeO.none _)
      | (with_reducible refine LeO.ite ?_ ?_)
      | (with_reducible refine LeO.bind ?_ (fun _ => ?_))
      | exact ih0 _ _ _ _ _ _ _ _ _ _ _ _ _ _
      | exact ih1 _ _ _ _ _ _ _ _ _ _ _ _ _ _
      | exact LeO.none _
      | refine LeO.ite ?_ ?_
      | refine LeO.bind ?_ (fun _ => ?_)
theorem style_Styles.mono : ∀ a0 a1 a2 a3 a4 a5 a6 a7 a8 a9 a10 k, LeO (style_Styles.f k a0 a1 a2 a3 a4 a5 a6 a7 a8 a9 a10) (style_Styles.f (k + 1) a0 a1 a2 a3 a4 a5 a6 a7 a8 a9 a10) := by
  intro a0 a1 a2 a3 a4 a5 a6 a7 a8 a9 a10 k
  obtain ⟨ih0, ih1⟩ := style_Styles.mono_l k
  unfold style_Styles.f
  repeat' first
      | (with_reducible exact ih0 _ _ _ _ _ _ _ _ _ _ _ _ _ _)
      | (with_reducible exact ih1 _ _ _ _ _ _ _ _ _ _ _ _ _ _)
      | (with_reducible exact LeO.refl _)
      | (with_reducible exact LeO.none _)
      | (with_reducible refine LeO.ite ?_ ?_)
      | (with_reducible refine LeO.bind ?_ (fun _ => ?_))
      | exact ih0 _ _ _ _ _ _ _ _ _ _ _ _ _ _
      | exact ih1 _ _ _ _ _ _ _ _ _ _ _ _ _ _
      | exact LeO.none _
      | refine LeO.ite ?_ ?_
      | refine LeO.bind ?_ (fun _ => ?_)
set_option maxHeartbeats 8000000 in
set_option maxRecDepth 100000 in
theorem style_Styles.calls (k : Nat) (a0_0 a0_1 a0_2 a0_3 a0_4 a0_5 a0_6 a0_7 a0_8 : Int) (A1 : Option Addr) (c1 : Nat) (l1 : List Int) (A2 : Option Addr) (c2 : Nat) (l2 : List (S26)) (r1 : List (S23)) (r2 : Int) (w : World) (hr1 : Kd.C (Kd.int .i64) w A1 l1.length l1) (hc1 : l1.length ≤ c1) (hr2 : Kd.C k26 w A2 l2.length l2) (hc2 : l2.length ≤ c2) (h : style_Styles.f k a0_0 a0_1 a0_2 a0_3 a0_4 a0_5 a0_6 a0_7 a0_8 l1 l2 = some (r1, r2)) :
    Calls Try.prog 23 #[.agg #[.int .u8 a0_0, .int .u8 a0_1, .int .u8 a0_2, .int .u8 a0_3, .int .i64 a0_4, .int .i64 a0_5, .int .i64 a0_6, .int .u8 a0_7, .int .i64 a0_8], .slice A1 l1.length c1, .slice A2 l2.length c2] w fun e w' => ∃ v0_ : Value, e = .returned (.tuple #[v0_, .int .i64 r2]) ∧ Kd.R k23 23 w' w.heap.size (fun _ => True) v0_ r1 ∧ Below w.heap.size w w' := by
  have hu23 := Try.underlying23
  have hu26 := Try.underlying26
  have HR1 := Aside0.mk hr1
  have HC1 := Aside0.mk hc1
  clear hr1 hc1
  have HR2 := Aside0.mk hr2
  have HC2 := Aside0.mk hc2
  clear hr2 hc2
  have HB := Aside0.mk (Below.refl w.heap.size w)
  have H : (if (l2.length : Int) = (l1.length : Int) then (style_Styles.l0 k l1 l2 l1 (l1.length : Int) 0 a0_0 a0_1 a0_2 a0_3 a0_4 a0_5 a0_6 a0_7 a0_8) else (some (([] : List (S23)), 2))) = some (r1, r2) := h
  clear h
  by_cases c4 : (l2.length : Int) = (l1.length : Int)
  · rw [if_pos c4] at H
    have c4b0 : ((l2.length : Int) == (l1.length : Int)) = true := beq_iff_eq.mpr c4
    have c4b1 : ((l2.length : Int) != (l1.length : Int)) = false := bne_eq_false_iff_eq.mpr c4
    have c4b2 : (l2.length == l1.length) = true := by first | simpa using c4 | (simp at c4 ⊢; omega)
    clear c4
    have H' := Aside0.mk H
    clear H
    go_enter Try.func23, Try.ntmps23
    go_wp2_with (first | ((with_reducible refine gate_dst (N := 3) rfl ?_); refine box_event ?hg (N := 3) ?hd (cs := #[.int .u8 a0_0, .int .u8 a0_1, .int .u8 a0_2, .int .u8 a0_3, .int .i64 a0_4, .int .i64 a0_5, .int .i64 a0_6, .int .u8 a0_7, .int .i64 a0_8]) (t := 23) ?hr ?_; (case hd => rfl); (case hg => rfl); (case hr => first | (go_simp; done) | (go_simp; rfl)); intro gb200 hg w5 hbox hb; have BK200 := Aside0.mk (hbox); have GW200 := bge HB hg; have GE200 := bge HB hg; replace HB := bh HB hb; clear hb hbox hg))
    go_loopg [22] k (fun kq v22 w' => ∃ (x22_1 : Int), v22 = .int .i64 x22_1 ∧ Aside0 (style_Styles.l0 kq l1 l2 l1 (l1.length : Int) x22_1 a0_0 a0_1 a0_2 a0_3 a0_4 a0_5 a0_6 a0_7 a0_8 = some (r1, r2)) ∧ Aside0 (kq ≤ k) ∧ Aside0 (w'.heap[gb200]? = some (.cells #[.int .u8 a0_0, .int .u8 a0_1, .int .u8 a0_2, .int .u8 a0_3, .int .i64 a0_4, .int .i64 a0_5, .int .i64 a0_6, .int .u8 a0_7, .int .i64 a0_8] 23 (0, 0))) ∧ Aside0 (Below w.heap.size w w'))
    case atStart => exact ⟨(0), (by first | rfl | (simp; done) | (simp [*]; done)), H', ⟨Nat.le_refl _⟩, ⟨by (with_reducible repeat (first | refine blk_drewN ?_ _ | refine blk_drew ?_ | refine blk_alloc ?_ _)); exact BK200.out⟩, ⟨by repeat (first | (with_reducible first | exact HB.out | apply below_alloc | apply pw_below_drewN | apply below_drew1 | refine below_set ?_ GE200.out) | exact HB.out)⟩⟩
    case round =>
      clear H'
      try clear c1
      try clear c2
      try clear p2
      try clear c4
      try clear c4b0
      try clear c4b1
      try clear c4b2
      obtain ⟨x22_1, rfl, HA, HK1, BK200, HB⟩ := hrel
      cases gk with
      | zero => exact absurd HA.out (by simp [style_Styles.l0])
      | succ k1 =>
        have H := HA.out
        clear HA
        simp only [style_Styles.l0] at H
        by_cases c6 : x22_1 < (l1.length : Int)
        · rw [if_pos c6] at H
          have c6b0 : decide (x22_1 < (l1.length : Int)) = true := decide_eq_true c6
          clear c6
          by_cases c7 : 0 ≤ x22_1
          · rw [if_pos c7] at H
            have c7b0 : decide (0 ≤ x22_1) = true := decide_eq_true c7
            clear c7
            by_cases c8 : x22_1 < (l1.length : Int)
            · rw [if_pos c8] at H
              have c8b0 : decide (x22_1 < (l1.length : Int)) = true := decide_eq_true c8
              clear c8
              by_cases c9 : (rd l1 x22_1) < (-1)
              · rw [if_pos c9] at H
                have c9b0 : decide ((rd l1 x22_1) < (-1)) = true := decide_eq_true c9
                clear c9
                simp only [Option.some.injEq, Prod.mk.injEq] at H
                obtain ⟨rfl, rfl⟩ := H
                have p201 : 0 ≤ (x22_1 : Int) := of_decide_eq_true (by first | (with_reducible assumption) | assumption)
                have q201 : x22_1 < (l1.length : Int) := of_decide_eq_true (by first | (with_reducible assumption) | assumption)
                obtain ⟨ad201, e201, hx201_0⟩ := Kd.at_int HR1.out x22_1 p201 q201
                cases e201
                replace hx201_0 := (HB.out.cell (World.block_lt_of_cell? w _ hx201_0)).trans hx201_0
                replace p201 := eq_true p201
                replace q201 := eq_true q201
                go_wp2
                go_ret2
                exact ⟨_, by first | rfl | (simp [errW_none, errW_some] <;> rfl) | (simp [*, errW_none, errW_some] <;> rfl), by first | exact Kd.R_nil _ _ _ _ _ | exact Kd.N_nil _ _ _ _ _ | exact Kd.V_nil _ _ _ _ _ | exact Kd.Q_nil _ _ _ _ _ | exact Kd.S_nil _ _ _ _ _, by repeat (first | (with_reducible first | exact HB.out | apply below_alloc | apply pw_below_drewN | apply below_drew1 | refine below_set ?_ GE200.out) | exact HB.out)⟩
              · rw [if_neg c9] at H
                have c9b0 : decide ((rd l1 x22_1) < (-1)) = false := decide_eq_false c9
                clear c9
                by_cases c10 : (rd l1 x22_1) ≥ x22_1
                · rw [if_pos c10] at H
                  have c10b0 : decide (x22_1 ≤ (rd l1 x22_1)) = true := decide_eq_true c10
                  clear c10
                  simp only [Option.some.injEq, Prod.mk.injEq] at H
                  obtain ⟨rfl, rfl⟩ := H
                  have p201 : 0 ≤ (x22_1 : Int) := of_decide_eq_true (by first | (with_reducible assumption) | assumption)
                  have q201 : x22_1 < (l1.length : Int) := of_decide_eq_true (by first | (with_reducible assumption) | assumption)
                  obtain ⟨ad201, e201, hx201_0⟩ := Kd.at_int HR1.out x22_1 p201 q201
                  cases e201
                  replace hx201_0 := (HB.out.cell (World.block_lt_of_cell? w _ hx201_0)).trans hx201_0
                  replace p201 := eq_true p201
                  replace q201 := eq_true q201
                  go_wp2
                  go_ret2
                  exact ⟨_, by first | rfl | (simp [errW_none, errW_some] <;> rfl) | (simp [*, errW_none, errW_some] <;> rfl), by first | exact Kd.R_nil _ _ _ _ _ | exact Kd.N_nil _ _ _ _ _ | exact Kd.V_nil _ _ _ _ _ | exact Kd.Q_nil _ _ _ _ _ | exact Kd.S_nil _ _ _ _ _, by repeat (first | (with_reducible first | exact HB.out | apply below_alloc | apply pw_below_drewN | apply below_drew1 | refine below_set ?_ GE200.out) | exact HB.out)⟩
                · rw [if_neg c10] at H
                  have c10b0 : decide (x22_1 ≤ (rd l1 x22_1)) = false := decide_eq_false c10
                  clear c10
                  have H' := Aside0.mk H
                  clear H
                  have p201 : 0 ≤ (x22_1 : Int) := of_decide_eq_true (by first | (with_reducible assumption) | assumption)
                  have q201 : x22_1 < (l1.length : Int) := of_decide_eq_true (by first | (with_reducible assumption) | assumption)
                  obtain ⟨ad201, e201, hx201_0⟩ := Kd.at_int HR1.out x22_1 p201 q201
                  cases e201
                  replace hx201_0 := (HB.out.cell (World.block_lt_of_cell? w _ hx201_0)).trans hx201_0
                  replace p201 := eq_true p201
                  replace q201 := eq_true q201
                  go_wp2
                  go_roundg k1
                  case measure => have := HK1.out; omega
                  case rel => exact ⟨(wrap64 (x22_1 + 1)), (by first | rfl | (simp; done) | (simp [*]; done)), H', ⟨by have := HK1.out; omega⟩, ⟨by (with_reducible repeat (first | refine blk_drewN ?_ _ | refine blk_drew ?_ | refine blk_alloc ?_ _)); exact BK200.out⟩, ⟨by repeat (first | (with_reducible first | exact HB.out | apply below_alloc | apply pw_below_drewN | apply below_drew1 | refine below_set ?_ GE200.out) | exact HB.out)⟩⟩
            · rw [if_neg c8] at H
              exact absurd H (by simp)
          · rw [if_neg c7] at H
            exact absurd H (by simp)
        · rw [if_neg c6] at H
          have c6b0 : decide (x22_1 < (l1.length : Int)) = false := decide_eq_false c6
          clear c6
          replace H := Option.bind_eq_some_iff.mp H
          obtain ⟨t202, A110, H⟩ := H
          replace H : (if t202 = 0 then (style_Styles.l1 k1 l1 ([] : List (S23)) l2 (l2.length : Int) 0 a0_0 a0_1 a0_2 a0_3 a0_4 a0_5 a0_6 a0_7 a0_8) else (some (([] : List (S23)), 60))) = some (r1, r2) := H
          have A11 := Aside0.mk A110
          clear A110
          by_cases c12 : t202 = 0
          · rw [if_pos c12] at H
            have c12b0 : (t202 == 0) = true := beq_iff_eq.mpr c12
            have c12b1 : (t202 != 0) = false := bne_eq_false_iff_eq.mpr c12
            clear c12
            have H' := Aside0.mk H
            clear H
            obtain ⟨hcz13_0, hcz13_1, hcz13_2, hcz13_3, hcz13_4, hcz13_5, hcz13_6, hcz13_7, hcz13_8⟩ := cz9 BK200
            obtain ⟨hfz13_0, hfz13_1, hfz13_2, hfz13_3, hfz13_4, hfz13_5, hfz13_6, hfz13_7, hfz13_8⟩ := fz9 BK200
            go_wp2_with (first | ((with_reducible refine gate_callee (f := 16) rfl ?_); refine goesB (some 36) rfl rfl Try.func16 #[.agg #[.int .u8 a0_0, .int .u8 a0_1, .int .u8 a0_2, .int .u8 a0_3, .int .i64 a0_4, .int .i64 a0_5, .int .i64 a0_6, .int .u8 a0_7, .int .i64 a0_8]] rfl ?_; (with_reducible refine (style_Check.calls a0_0 a0_1 a0_2 a0_3 a0_4 a0_5 a0_6 a0_7 a0_8 t202 _ A11.out).mono ?_); rintro e w14 ⟨rfl, hb⟩; refine ⟨_, rfl, ?_⟩; replace BK200 := bb BK200 hb; replace HB := bh HB hb; (try clear hb); (try clear hb2); (try clear hk); (try clear hi)))
            go_loopg [10, 40] k1 (fun kq v10 v40 w' => ∃ (x10_2 : List (S23)) (x40_2 : Int), v40 = .int .i64 x40_2 ∧ Aside0 (style_Styles.l1 kq l1 x10_2 l2 (l2.length : Int) x40_2 a0_0 a0_1 a0_2 a0_3 a0_4 a0_5 a0_6 a0_7 a0_8 = some (r1, r2)) ∧ Aside0 (kq ≤ k1) ∧ Aside0 (Kd.R k23 23 w' w.heap.size (fun k_ => k_ ≠ gb200) v10 x10_2) ∧ Aside0 (w'.heap[gb200]? = some (.cells #[.int .u8 a0_0, .int .u8 a0_1, .int .u8 a0_2, .int .u8 a0_3, .int .i64 a0_4, .int .i64 a0_5, .int .i64 a0_6, .int .u8 a0_7, .int .i64 a0_8] 23 (0, 0))) ∧ Aside0 (Below w.heap.size w w'))
            case atStart => exact ⟨(([] : List (S23))), (0), (by first | rfl | (simp; done) | (simp [*]; done)), H', ⟨Nat.le_refl _⟩, ⟨by first | exact Kd.R_nil _ _ _ _ _ | exact Kd.N_nil _ _ _ _ _ | exact Kd.V_nil _ _ _ _ _ | exact Kd.Q_nil _ _ _ _ _ | exact Kd.S_nil _ _ _ _ _⟩, ⟨by (with_reducible repeat (first | refine blk_drewN ?_ _ | refine blk_drew ?_ | refine blk_alloc ?_ _)); exact BK200.out⟩, ⟨by repeat (first | (with_reducible first | exact HB.out | apply below_alloc | apply pw_below_drewN | apply below_drew1 | refine below_set ?_ GE200.out) | exact HB.out)⟩⟩
            case round =>
              clear H'
              try clear c1
              try clear c2
              try clear p2
              try clear q2
              try clear hx2
              try clear c4
              try clear c4b0
              try clear c4b1
              try clear c4b2
              try clear c6
              try clear c6b0
              try clear p6
              try clear c7
              try clear c7b0
              try clear c8
              try clear c8b0
              try clear c9
              try clear c9b0
              try clear c10
              try clear c10b0
              try clear c12
              try clear c12b0
              try clear c12b1
              try clear hcz13_0
              try clear hcz13_1
              try clear hcz13_2
              try clear hcz13_3
              try clear hcz13_4
              try clear hcz13_5
              try clear hcz13_6
              try clear hcz13_7
              try clear hcz13_8
              try clear hfz13_0
              try clear hfz13_1
              try clear hfz13_2
              try clear hfz13_3
              try clear hfz13_4
              try clear hfz13_5
              try clear hfz13_6
              try clear hfz13_7
              try clear hfz13_8
              try clear hx201_0
              try clear p2
              try clear p201
              try clear q201
              obtain ⟨x10_2, x40_2, rfl, HA, HK2, HO_10, BK200, HB⟩ := hrel
              cases gk with
              | zero => exact absurd HA.out (by simp [style_Styles.l1])
              | succ k2 =>
                have H := HA.out
                clear HA
                simp only [style_Styles.l1] at H
                by_cases c15 : x40_2 < (l2.length : Int)
                · rw [if_pos c15] at H
                  have c15b0 : decide (x40_2 < (l2.length : Int)) = true := decide_eq_true c15
                  clear c15
                  by_cases c16 : 0 ≤ x40_2
                  · rw [if_pos c16] at H
                    have c16b0 : decide (0 ≤ x40_2) = true := decide_eq_true c16
                    clear c16
                    by_cases c17 : x40_2 < (l2.length : Int)
                    · rw [if_pos c17] at H
                      have c17b0 : decide (x40_2 < (l2.length : Int)) = true := decide_eq_true c17
                      clear c17
                      replace H := Option.bind_eq_some_iff.mp H
                      obtain ⟨t205, A180, H⟩ := H
                      replace H : (if t205 = 0 then (if x40_2 < (l1.length : Int) then (if (rd l1 x40_2) ≥ 0 then (if 0 ≤ (rd l1 x40_2) then (if (rd l1 x40_2) < (x10_2.length : Int) then ((style_over.f ((rd_T23 x10_2 (rd l1 x40_2)).f0) ((rd_T23 x10_2 (rd l1 x40_2)).f1) ((rd_T23 x10_2 (rd l1 x40_2)).f2) ((rd_T23 x10_2 (rd l1 x40_2)).f3) ((rd_T23 x10_2 (rd l1 x40_2)).f4) ((rd_T23 x10_2 (rd l1 x40_2)).f5) ((rd_T23 x10_2 (rd l1 x40_2)).f6) ((rd_T23 x10_2 (rd l1 x40_2)).f7) ((rd_T23 x10_2 (rd l1 x40_2)).f8) ((rd_T26 l2 x40_2).f0) ((rd_T26 l2 x40_2).f1.f0) ((rd_T26 l2 x40_2).f1.f1) ((rd_T26 l2 x40_2).f1.f2) ((rd_T26 l2 x40_2).f1.f3) ((rd_T26 l2 x40_2).f1.f4) ((rd_T26 l2 x40_2).f1.f5) ((rd_T26 l2 x40_2).f1.f6) ((rd_T26 l2 x40_2).f1.f7) ((rd_T26 l2 x40_2).f1.f8)).bind fun bt209 => (if x10_2.length < 2932031007402 then (style_Styles.l1 k2 l1 (x10_2 ++ [(⟨bt209.1, bt209.2.1, bt209.2.2.1, bt209.2.2.2.1, bt209.2.2.2.2.1, bt209.2.2.2.2.2.1, bt209.2.2.2.2.2.2.1, bt209.2.2.2.2.2.2.2.1, bt209.2.2.2.2.2.2.2.2⟩ : S23)]) l2 (l2.length : Int) (wrap64 (x40_2 + 1)) a0_0 a0_1 a0_2 a0_3 a0_4 a0_5 a0_6 a0_7 a0_8) else (none))) else (none)) else (none)) else ((style_over.f a0_0 a0_1 a0_2 a0_3 a0_4 a0_5 a0_6 a0_7 a0_8 ((rd_T26 l2 x40_2).f0) ((rd_T26 l2 x40_2).f1.f0) ((rd_T26 l2 x40_2).f1.f1) ((rd_T26 l2 x40_2).f1.f2) ((rd_T26 l2 x40_2).f1.f3) ((rd_T26 l2 x40_2).f1.f4) ((rd_T26 l2 x40_2).f1.f5) ((rd_T26 l2 x40_2).f1.f6) ((rd_T26 l2 x40_2).f1.f7) ((rd_T26 l2 x40_2).f1.f8)).bind fun bt221 => (if x10_2.length < 2932031007402 then (style_Styles.l1 k2 l1 (x10_2 ++ [(⟨bt221.1, bt221.2.1, bt221.2.2.1, bt221.2.2.2.1, bt221.2.2.2.2.1, bt221.2.2.2.2.2.1, bt221.2.2.2.2.2.2.1, bt221.2.2.2.2.2.2.2.1, bt221.2.2.2.2.2.2.2.2⟩ : S23)]) l2 (l2.length : Int) (wrap64 (x40_2 + 1)) a0_0 a0_1 a0_2 a0_3 a0_4 a0_5 a0_6 a0_7 a0_8) else (none)))) else (none)) else (some (([] : List (S23)), 60))) = some (r1, r2) := H
                      have A18 := Aside0.mk A180
                      clear A180
                      by_cases c19 : t205 = 0
                      · rw [if_pos c19] at H
                        have c19b0 : (t205 == 0) = true := beq_iff_eq.mpr c19
                        have c19b1 : (t205 != 0) = false := bne_eq_false_iff_eq.mpr c19
                        clear c19
                        by_cases c20 : x40_2 < (l1.length : Int)
                        · rw [if_pos c20] at H
                          have c20b0 : decide (x40_2 < (l1.length : Int)) = true := decide_eq_true c20
                          clear c20
                          by_cases c21 : (rd l1 x40_2) ≥ 0
                          · rw [if_pos c21] at H
                            have c21b0 : decide (0 ≤ (rd l1 x40_2)) = true := decide_eq_true c21
                            clear c21
                            by_cases c22 : 0 ≤ (rd l1 x40_2)
                            · rw [if_pos c22] at H
                              have c22b0 : decide (0 ≤ (rd l1 x40_2)) = true := decide_eq_true c22
                              clear c22
                              by_cases c23 : (rd l1 x40_2) < (x10_2.length : Int)
                              · rw [if_pos c23] at H
                                have c23b0 : decide ((rd l1 x40_2) < (x10_2.length : Int)) = true := decide_eq_true c23
                                clear c23
                                replace H := Option.bind_eq_some_iff.mp H
                                obtain ⟨⟨t209, t210, t211, t212, t213, t214, t215, t216, t217⟩, A240, H⟩ := H
                                replace H : (if x10_2.length < 2932031007402 then (style_Styles.l1 k2 l1 (x10_2 ++ [(⟨t209, t210, t211, t212, t213, t214, t215, t216, t217⟩ : S23)]) l2 (l2.length : Int) (wrap64 (x40_2 + 1)) a0_0 a0_1 a0_2 a0_3 a0_4 a0_5 a0_6 a0_7 a0_8) else (none)) = some (r1, r2) := H
                                have A24 := Aside0.mk A240
                                clear A240
                                by_cases c25 : x10_2.length < 2932031007402
                                · rw [if_pos c25] at H
                                  have LMc25 := Aside0.mk c25
                                  clear c25
                                  obtain ⟨y218, hy218⟩ : ∃ y_ : List (S23), y_ = (x10_2 ++ [(⟨t209, t210, t211, t212, t213, t214, t215, t216, t217⟩ : S23)]) := ⟨_, rfl⟩
                                  replace H : (style_Styles.l1 k2 l1 y218 l2 (l2.length : Int) (wrap64 (x40_2 + 1)) a0_0 a0_1 a0_2 a0_3 a0_4 a0_5 a0_6 a0_7 a0_8) = some (r1, r2) := by first | (rw [hy218]; with_reducible exact H) | (have H2_ := (Option.bind_some _ _).symm.trans H; rw [hy218]; with_reducible exact H2_) | (have H2_ := (Option.bind_some _ _).symm.trans H; with_reducible exact H2_) | with_reducible exact H | (rw [hy218]; exact H) | exact H
                                  have Ny218 := Aside0.mk hy218
                                  clear hy218
                                  have H' := Aside0.mk H
                                  clear H
                                  have p203 : 0 ≤ (x40_2 : Int) := of_decide_eq_true (by first | (with_reducible assumption) | assumption)
                                  have q203 : x40_2 < (l2.length : Int) := of_decide_eq_true (by first | (with_reducible assumption) | assumption)
                                  obtain ⟨ad203, e203, hx203_0, hx203_1, hx203_2, hx203_3, hx203_4, hx203_5, hx203_6, hx203_7, hx203_8, hx203_9⟩ := at_T26 HR2.out x40_2 p203 q203
                                  cases e203
                                  replace hx203_0 := (HB.out.cell (World.block_lt_of_cell? w _ hx203_0)).trans hx203_0
                                  replace hx203_1 := (HB.out.cell (World.block_lt_of_cell? w _ hx203_1)).trans hx203_1
                                  replace hx203_2 := (HB.out.cell (World.block_lt_of_cell? w _ hx203_2)).trans hx203_2
                                  replace hx203_3 := (HB.out.cell (World.block_lt_of_cell? w _ hx203_3)).trans hx203_3
                                  replace hx203_4 := (HB.out.cell (World.block_lt_of_cell? w _ hx203_4)).trans hx203_4
                                  replace hx203_5 := (HB.out.cell (World.block_lt_of_cell? w _ hx203_5)).trans hx203_5
                                  replace hx203_6 := (HB.out.cell (World.block_lt_of_cell? w _ hx203_6)).trans hx203_6
                                  replace hx203_7 := (HB.out.cell (World.block_lt_of_cell? w _ hx203_7)).trans hx203_7
                                  replace hx203_8 := (HB.out.cell (World.block_lt_of_cell? w _ hx203_8)).trans hx203_8
                                  replace hx203_9 := (HB.out.cell (World.block_lt_of_cell? w _ hx203_9)).trans hx203_9
                                  replace p203 := eq_true p203
                                  replace q203 := eq_true q203
                                  go_wp2_with (first | ((with_reducible refine gate_dst (N := 12) rfl ?_); refine box_event ?hg (N := 12) ?hd (cs := #[.int .u16 0, .int .u8 0, .int .u8 0, .int .u8 0, .int .u8 0, .int .i64 0, .int .i64 0, .int .i64 0, .int .u8 0, .int .i64 0]) (t := 26) ?hr ?_; (case hd => rfl); (case hg => rfl); (case hr => first | (go_simp; done) | (go_simp; rfl)); intro gb204 hg w26 hbox hb; replace HO_10 := Aside0.mk (Kd.R_below (rx HO_10) hb); have BK204 := Aside0.mk (hbox); have GW204 := bge HB hg; have GE204 := bge HB hg; replace HB := bh HB hb; have NB200_204 := nbl BK200 hg; have NB204_200 := nbg BK200 hg; replace BK200 := bb BK200 hb; clear hb hbox hg; have hnb27 := NB204_200.out; have hnc27 := NB200_204.out; obtain ⟨hcz28_0, hcz28_1, hcz28_2, hcz28_3, hcz28_4, hcz28_5, hcz28_6, hcz28_7, hcz28_8, hcz28_9⟩ := cz10 BK204; obtain ⟨hfz28_0, hfz28_1, hfz28_2, hfz28_3, hfz28_4, hfz28_5, hfz28_6, hfz28_7, hfz28_8, hfz28_9⟩ := fz10 BK204) | ((with_reducible refine gate_callee (f := 18) rfl ?_); refine goesB (some 46) rfl rfl Try.func18 #[.agg #[.int .u16 ((rd_T26 l2 x40_2).f0), .int .u8 ((rd_T26 l2 x40_2).f1.f0), .int .u8 ((rd_T26 l2 x40_2).f1.f1), .int .u8 ((rd_T26 l2 x40_2).f1.f2), .int .u8 ((rd_T26 l2 x40_2).f1.f3), .int .i64 ((rd_T26 l2 x40_2).f1.f4), .int .i64 ((rd_T26 l2 x40_2).f1.f5), .int .i64 ((rd_T26 l2 x40_2).f1.f6), .int .u8 ((rd_T26 l2 x40_2).f1.f7), .int .i64 ((rd_T26 l2 x40_2).f1.f8)]] rfl ?_; (with_reducible refine (style_CheckDecl.calls ((rd_T26 l2 x40_2).f0) ((rd_T26 l2 x40_2).f1.f0) ((rd_T26 l2 x40_2).f1.f1) ((rd_T26 l2 x40_2).f1.f2) ((rd_T26 l2 x40_2).f1.f3) ((rd_T26 l2 x40_2).f1.f4) ((rd_T26 l2 x40_2).f1.f5) ((rd_T26 l2 x40_2).f1.f6) ((rd_T26 l2 x40_2).f1.f7) ((rd_T26 l2 x40_2).f1.f8) t205 _ A18.out).mono ?_); rintro e w29 ⟨rfl, hb⟩; refine ⟨_, rfl, ?_⟩; replace HO_10 := Aside0.mk (Kd.R_below (by (with_reducible repeat (first | apply Kd.R_alloc | apply Kd.R_drewN | apply Kd.R_drew)); exact (Kd.R_mono (Kd.R_far (p := ⟨gb204, 9, none⟩) (Kd.R_far (p := ⟨gb204, 8, none⟩) (Kd.R_far (p := ⟨gb204, 7, none⟩) (Kd.R_far (p := ⟨gb204, 6, none⟩) (Kd.R_far (p := ⟨gb204, 5, none⟩) (Kd.R_far (p := ⟨gb204, 4, none⟩) (Kd.R_far (p := ⟨gb204, 3, none⟩) (Kd.R_far (p := ⟨gb204, 2, none⟩) (Kd.R_far (p := ⟨gb204, 1, none⟩) (Kd.R_far (p := ⟨gb204, 0, none⟩) (Kd.R_types HO_10.out BK204.out (by decide)) (fun _ hk => hk.2) (.int .u16 ((rd_T26 l2 x40_2).f0))) (fun _ hk => hk.2) (.int .u8 ((rd_T26 l2 x40_2).f1.f0))) (fun _ hk => hk.2) (.int .u8 ((rd_T26 l2 x40_2).f1.f1))) (fun _ hk => hk.2) (.int .u8 ((rd_T26 l2 x40_2).f1.f2))) (fun _ hk => hk.2) (.int .u8 ((rd_T26 l2 x40_2).f1.f3))) (fun _ hk => hk.2) (.int .i64 ((rd_T26 l2 x40_2).f1.f4))) (fun _ hk => hk.2) (.int .i64 ((rd_T26 l2 x40_2).f1.f5))) (fun _ hk => hk.2) (.int .i64 ((rd_T26 l2 x40_2).f1.f6))) (fun _ hk => hk.2) (.int .u8 ((rd_T26 l2 x40_2).f1.f7))) (fun _ hk => hk.2) (.int .i64 ((rd_T26 l2 x40_2).f1.f8))) (fun _ h_ => h_.1))) hb); replace BK200 := bb BK200 hb; replace BK204 := Aside0.mk (blk_below (o := .cells #[.int .u16 ((rd_T26 l2 x40_2).f0), .int .u8 ((rd_T26 l2 x40_2).f1.f0), .int .u8 ((rd_T26 l2 x40_2).f1.f1), .int .u8 ((rd_T26 l2 x40_2).f1.f2), .int .u8 ((rd_T26 l2 x40_2).f1.f3), .int .i64 ((rd_T26 l2 x40_2).f1.f4), .int .i64 ((rd_T26 l2 x40_2).f1.f5), .int .i64 ((rd_T26 l2 x40_2).f1.f6), .int .u8 ((rd_T26 l2 x40_2).f1.f7), .int .i64 ((rd_T26 l2 x40_2).f1.f8)] 26 (0, 0)) (bp BK204) hb); replace HB := bh HB hb; (try clear hb); (try clear hb2); (try clear hk); (try clear hi); obtain ⟨hcz30_0, hcz30_1, hcz30_2, hcz30_3, hcz30_4, hcz30_5, hcz30_6, hcz30_7, hcz30_8⟩ := cz9 BK200; obtain ⟨hfz30_0, hfz30_1, hfz30_2, hfz30_3, hfz30_4, hfz30_5, hfz30_6, hfz30_7, hfz30_8⟩ := fz9 BK200) | ((with_reducible refine gate_dst (N := 13) rfl ?_); refine box_event ?hg (N := 13) ?hd (cs := #[.int .u8 0, .int .u8 0, .int .u8 0, .int .u8 0, .int .i64 0, .int .i64 0, .int .i64 0, .int .u8 0, .int .i64 0]) (t := 23) ?hr ?_; (case hd => rfl); (case hg => rfl); (case hr => first | (go_simp; done) | (go_simp; rfl)); intro gb206 hg w31 hbox hb; replace HO_10 := Aside0.mk (Kd.R_below (Kd.R_elderB (rx HO_10) gb206 (Nat.le_of_eq hg.symm)) hb); have BK206 := Aside0.mk (hbox); have GW206 := bge HB hg; have GE206 := bge HB hg; replace HB := bh HB hb; have NB200_206 := nbl BK200 hg; have NB206_200 := nbg BK200 hg; replace BK200 := bb BK200 hb; have NB204_206 := nbl BK204 hg; have NB206_204 := nbg BK204 hg; replace BK204 := bb BK204 hb; clear hb hbox hg; have hnb32 := NB206_200.out; have hnc32 := NB200_206.out; have hnb33 := NB206_204.out; have hnc33 := NB204_206.out) | ((with_reducible refine gate_store (t := 23) (p := 13) (v := .tmp 48) rfl ?_); refine Go.Proofs.Ytahpkfmgeifenaa.Hand.store_row_event rfl 23 (.tmp 13) (.tmp 48) rfl rfl gb206 #[.int .u8 a0_0, .int .u8 a0_1, .int .u8 a0_2, .int .u8 a0_3, .int .i64 a0_4, .int .i64 a0_5, .int .i64 a0_6, .int .u8 a0_7, .int .i64 a0_8] rfl rfl 23 _ BK206.out (by kernel_rfl) rfl (by simp [Value.oneCell']) ?_; intro ws1 hs1 hk1 hb1; have n0_ := Aside0.mk (Kd.R_mono (Kd.R_move (Kd.R_bound HO_10.out) (fun k hk => hk1.2 k hk.2.2.1 (by have z := hk.1; first | exact z | exact z.2 | (simp at z; omega)) (by simp))) (fun k hk => hk.1)); have n1_ := Aside0.mk ((hk1.2 gb200 (Array.getElem?_eq_some_iff.1 BK200.out).1 NB200_206.out (by simp)).trans BK200.out); have n2_ := Aside0.mk ((hk1.2 gb204 (Array.getElem?_eq_some_iff.1 BK204.out).1 NB204_206.out (by simp)).trans BK204.out); have n3_ := Aside0.mk (hb1 _ _ GE206.out HB.out); have n4_ := Aside0.mk hs1; clear HO_10 BK200 BK204 BK206 HB; have HO_10 := n0_; have BK200 := n1_; have BK204 := n2_; have HB := n3_; have BK206 := n4_; clear n0_ n1_ n2_ n3_ n4_; clear hk1 hb1 hs1; have p207 : 0 ≤ (x40_2 : Int) := of_decide_eq_true (by first | (with_reducible assumption) | assumption); have q207 : x40_2 < (l1.length : Int) := of_decide_eq_true (by first | (with_reducible assumption) | assumption); obtain ⟨ad207, e207, hx207_0⟩ := Kd.at_int HR1.out x40_2 p207 q207; cases e207; replace hx207_0 := (HB.out.cell (World.block_lt_of_cell? w _ hx207_0)).trans hx207_0; replace p207 := eq_true p207; replace q207 := eq_true q207; obtain ⟨Ao35, co35, eo35⟩ := Kd.R_slice HO_10.out; subst eo35; have p208 : 0 ≤ ((rd l1 x40_2) : Int) := of_decide_eq_true (by first | (with_reducible assumption) | assumption); have q208 : (rd l1 x40_2) < (x10_2.length : Int) := of_decide_eq_true (by first | (with_reducible assumption) | assumption); obtain ⟨ad208, e208, hx208_0, hx208_1, hx208_2, hx208_3, hx208_4, hx208_5, hx208_6, hx208_7, hx208_8⟩ := at_T23 (Kd.R_reads' HO_10.out).2.2 (rd l1 x40_2) p208 q208; cases e208; replace p208 := eq_true p208; replace q208 := eq_true q208) | ((with_reducible refine gate_store (t := 23) (p := 13) (v := .tmp 58) rfl ?_); refine Go.Proofs.Ytahpkfmgeifenaa.Hand.store_row_event rfl 23 (.tmp 13) (.tmp 58) rfl rfl gb206 #[.int .u8 ((rd_T23 x10_2 (rd l1 x40_2)).f0), .int .u8 ((rd_T23 x10_2 (rd l1 x40_2)).f1), .int .u8 ((rd_T23 x10_2 (rd l1 x40_2)).f2), .int .u8 ((rd_T23 x10_2 (rd l1 x40_2)).f3), .int .i64 ((rd_T23 x10_2 (rd l1 x40_2)).f4), .int .i64 ((rd_T23 x10_2 (rd l1 x40_2)).f5), .int .i64 ((rd_T23 x10_2 (rd l1 x40_2)).f6), .int .u8 ((rd_T23 x10_2 (rd l1 x40_2)).f7), .int .i64 ((rd_T23 x10_2 (rd l1 x40_2)).f8)] rfl rfl 23 _ BK206.out (by kernel_rfl) rfl (by simp [Value.oneCell']) ?_; intro ws2 hs2 hk2 hb2; clear hx207_0 hx208_0 hx208_1 hx208_2 hx208_3 hx208_4 hx208_5 hx208_6 hx208_7 hx208_8; have n0_ := Aside0.mk (Kd.R_mono (Kd.R_move (Kd.R_bound HO_10.out) (fun k hk => hk2.2 k hk.2.2.1 (by have z := hk.1; first | exact z | exact z.2 | (simp at z; omega)) (by simp))) (fun k hk => hk.1)); have n1_ := Aside0.mk ((hk2.2 gb200 (Array.getElem?_eq_some_iff.1 BK200.out).1 NB200_206.out (by simp)).trans BK200.out); have n2_ := Aside0.mk ((hk2.2 gb204 (Array.getElem?_eq_some_iff.1 BK204.out).1 NB204_206.out (by simp)).trans BK204.out); have n3_ := Aside0.mk (hb2 _ _ GE206.out HB.out); have n4_ := Aside0.mk hs2; clear HO_10 BK200 BK204 BK206 HB; have HO_10 := n0_; have BK200 := n1_; have BK204 := n2_; have HB := n3_; have BK206 := n4_; clear n0_ n1_ n2_ n3_ n4_; clear hk2 hb2 hs2; obtain ⟨hcz36_0, hcz36_1, hcz36_2, hcz36_3, hcz36_4, hcz36_5, hcz36_6, hcz36_7, hcz36_8, hcz36_9⟩ := cz10 BK204; obtain ⟨hcz37_0, hcz37_1, hcz37_2, hcz37_3, hcz37_4, hcz37_5, hcz37_6, hcz37_7, hcz37_8⟩ := cz9 BK206) | ((with_reducible refine gate_callee (f := 29) rfl ?_); refine goesB (some 62) rfl rfl Try.func29 #[.agg #[.int .u8 ((rd_T23 x10_2 (rd l1 x40_2)).f0), .int .u8 ((rd_T23 x10_2 (rd l1 x40_2)).f1), .int .u8 ((rd_T23 x10_2 (rd l1 x40_2)).f2), .int .u8 ((rd_T23 x10_2 (rd l1 x40_2)).f3), .int .i64 ((rd_T23 x10_2 (rd l1 x40_2)).f4), .int .i64 ((rd_T23 x10_2 (rd l1 x40_2)).f5), .int .i64 ((rd_T23 x10_2 (rd l1 x40_2)).f6), .int .u8 ((rd_T23 x10_2 (rd l1 x40_2)).f7), .int .i64 ((rd_T23 x10_2 (rd l1 x40_2)).f8)], .agg #[.int .u16 ((rd_T26 l2 x40_2).f0), .int .u8 ((rd_T26 l2 x40_2).f1.f0), .int .u8 ((rd_T26 l2 x40_2).f1.f1), .int .u8 ((rd_T26 l2 x40_2).f1.f2), .int .u8 ((rd_T26 l2 x40_2).f1.f3), .int .i64 ((rd_T26 l2 x40_2).f1.f4), .int .i64 ((rd_T26 l2 x40_2).f1.f5), .int .i64 ((rd_T26 l2 x40_2).f1.f6), .int .u8 ((rd_T26 l2 x40_2).f1.f7), .int .i64 ((rd_T26 l2 x40_2).f1.f8)]] rfl ?_; (with_reducible refine (style_over.calls ((rd_T23 x10_2 (rd l1 x40_2)).f0) ((rd_T23 x10_2 (rd l1 x40_2)).f1) ((rd_T23 x10_2 (rd l1 x40_2)).f2) ((rd_T23 x10_2 (rd l1 x40_2)).f3) ((rd_T23 x10_2 (rd l1 x40_2)).f4) ((rd_T23 x10_2 (rd l1 x40_2)).f5) ((rd_T23 x10_2 (rd l1 x40_2)).f6) ((rd_T23 x10_2 (rd l1 x40_2)).f7) ((rd_T23 x10_2 (rd l1 x40_2)).f8) ((rd_T26 l2 x40_2).f0) ((rd_T26 l2 x40_2).f1.f0) ((rd_T26 l2 x40_2).f1.f1) ((rd_T26 l2 x40_2).f1.f2) ((rd_T26 l2 x40_2).f1.f3) ((rd_T26 l2 x40_2).f1.f4) ((rd_T26 l2 x40_2).f1.f5) ((rd_T26 l2 x40_2).f1.f6) ((rd_T26 l2 x40_2).f1.f7) ((rd_T26 l2 x40_2).f1.f8) t209 t210 t211 t212 t213 t214 t215 t216 t217 _ A24.out).mono ?_); rintro e w37 ⟨rfl, hb⟩; refine ⟨_, rfl, ?_⟩; replace HO_10 := Aside0.mk (Kd.R_mono (Kd.R_below HO_10.out hb) (ok' := fun k_ => k_ ≠ gb200 ∧ k_ ≠ gb206) (fun _ h => h)); replace BK200 := Aside0.mk ((hb.block gb200 (Array.getElem?_eq_some_iff.1 BK200.out).1).trans BK200.out); replace BK204 := Aside0.mk ((hb.block gb204 (Array.getElem?_eq_some_iff.1 BK204.out).1).trans BK204.out); replace BK206 := Aside0.mk ((hb.block gb206 (Array.getElem?_eq_some_iff.1 BK206.out).1).trans BK206.out); replace HB := Aside0.mk (below_step HB.out hb); (try clear hb); (try clear hb2); (try clear hk); (try clear hi)) | ((with_reducible refine gate_builtin (b := .append) (xs := #[.tmp 59, .tmp 63]) rfl ?_); at_builtin; refine Kd.R_append k23 (w0 := w) w.heap.size rfl (.tmp 59) (.tmp 63) 45 23 (.agg #[(.int .u8 0), (.int .u8 0), (.int .u8 0), (.int .u8 0), (.int .i64 0), (.int .i64 0), (.int .i64 0), (.int .u8 0), (.int .i64 0)]) 48 rfl Try.underlying45 info23 rfl (by decide) (by omega) (.slice (some ad208) x10_2.length co35) x10_2 (⟨t209, t210, t211, t212, t213, t214, t215, t216, t217⟩ : S23) [.int .u8 t209, .int .u8 t210, .int .u8 t211, .int .u8 t212, .int .i64 t213, .int .i64 t214, .int .i64 t215, .int .u8 t216, .int .i64 t217] (fun k_ => k_ ≠ gb200 ∧ k_ ≠ gb206) (fun _ => False) rfl rfl ?aP (fun _ hk => hk.elim) ?aF ?aO ?aB ?aS ?aL ?_; (case aP => exact k23_mkM _ _ _ (⟨t209, t210, t211, t212, t213, t214, t215, t216, t217⟩ : S23)); (case aB => exact (bw HB)); (case aF => exact (fun k_ hk => ⟨Kd.freshB (bx BK200) k_ hk, Kd.freshB (bx BK206) k_ hk⟩)); (case aO => exact (rx HO_10)); (case aS => exact (below_size (bw HB))); (case aL => have := LMc25.out; omega); intro v219 w38 ho hb hg hat; rw [← Ny218.out] at ho; replace BK200 := Aside0.mk (blk_grown (bx BK200) hg (Kd.R_away HO_10.out (fun _ hk => hk.1))); replace BK204 := Aside0.mk (blk_grown (bx BK204) hg (by first | exact Kd.R_ne HO_10.out BK204.out (by decide) | exact (fun e => by have z := And.left HO_10.out _ e.symm; simp at z))); replace BK206 := Aside0.mk (blk_grown (bx BK206) hg (Kd.R_away HO_10.out (fun _ hk => hk.2))); replace HB := Aside0.mk (hb); have HO220 := Aside0.mk (ho); clear HO_10; clear ho hb hg hat))
                                  go_roundg k2
                                  case measure => have := HK1.out; have := HK2.out; omega
                                  case rel => exact ⟨(y218), (wrap64 (x40_2 + 1)), (by first | rfl | (simp; done) | (simp [*]; done)), H', ⟨by have := HK1.out; have := HK2.out; omega⟩, ⟨by (with_reducible repeat (first | apply Kd.R_alloc | apply Kd.R_drewN | apply Kd.R_drew)); exact Kd.R_mono HO220.out (fun _ hk => hk.1)⟩, ⟨by (with_reducible repeat (first | refine blk_drewN ?_ _ | refine blk_drew ?_ | refine blk_alloc ?_ _)); exact BK200.out⟩, ⟨by repeat (first | (with_reducible first | exact HB.out | apply below_alloc | apply pw_below_drewN | apply below_drew1 | refine below_set ?_ GE200.out | refine below_set ?_ GE204.out | refine below_set ?_ GE206.out) | exact HB.out)⟩⟩
                                · rw [if_neg c25] at H
                                  exact absurd H (by simp)
                              · rw [if_neg c23] at H
                                exact absurd H (by simp)
                            · rw [if_neg c22] at H
                              exact absurd H (by simp)
                          · rw [if_neg c21] at H
                            have c21b0 : decide (0 ≤ (rd l1 x40_2)) = false := decide_eq_false c21
                            clear c21
                            replace H := Option.bind_eq_some_iff.mp H
                            obtain ⟨⟨t221, t222, t223, t224, t225, t226, t227, t228, t229⟩, A390, H⟩ := H
                            replace H : (if x10_2.length < 2932031007402 then (style_Styles.l1 k2 l1 (x10_2 ++ [(⟨t221, t222, t223, t224, t225, t226, t227, t228, t229⟩ : S23)]) l2 (l2.length : Int) (wrap64 (x40_2 + 1)) a0_0 a0_1 a0_2 a0_3 a0_4 a0_5 a0_6 a0_7 a0_8) else (none)) = some (r1, r2) := H
                            have A39 := Aside0.mk A390
                            clear A390
                            by_cases c40 : x10_2.length < 2932031007402
                            · rw [if_pos c40] at H
                              have LMc40 := Aside0.mk c40
                              clear c40
                              obtain ⟨y230, hy230⟩ : ∃ y_ : List (S23), y_ = (x10_2 ++ [(⟨t221, t222, t223, t224, t225, t226, t227, t228, t229⟩ : S23)]) := ⟨_, rfl⟩
                              replace H : (style_Styles.l1 k2 l1 y230 l2 (l2.length : Int) (wrap64 (x40_2 + 1)) a0_0 a0_1 a0_2 a0_3 a0_4 a0_5 a0_6 a0_7 a0_8) = some (r1, r2) := by first | (rw [hy230]; with_reducible exact H) | (have H2_ := (Option.bind_some _ _).symm.trans H; rw [hy230]; with_reducible exact H2_) | (have H2_ := (Option.bind_some _ _).symm.trans H; with_reducible exact H2_) | with_reducible exact H | (rw [hy230]; exact H) | exact H
                              have Ny230 := Aside0.mk hy230
                              clear hy230
                              have H' := Aside0.mk H
                              clear H
                              have p203 : 0 ≤ (x40_2 : Int) := of_decide_eq_true (by first | (with_reducible assumption) | assumption)
                              have q203 : x40_2 < (l2.length : Int) := of_decide_eq_true (by first | (with_reducible assumption) | assumption)
                              obtain ⟨ad203, e203, hx203_0, hx203_1, hx203_2, hx203_3, hx203_4, hx203_5, hx203_6, hx203_7, hx203_8, hx203_9⟩ := at_T26 HR2.out x40_2 p203 q203
                              cases e203
                              replace hx203_0 := (HB.out.cell (World.block_lt_of_cell? w _ hx203_0)).trans hx203_0
                              replace hx203_1 := (HB.out.cell (World.block_lt_of_cell? w _ hx203_1)).trans hx203_1
                              replace hx203_2 := (HB.out.cell (World.block_lt_of_cell? w _ hx203_2)).trans hx203_2
                              replace hx203_3 := (HB.out.cell (World.block_lt_of_cell? w _ hx203_3)).trans hx203_3
                              replace hx203_4 := (HB.out.cell (World.block_lt_of_cell? w _ hx203_4)).trans hx203_4
                              replace hx203_5 := (HB.out.cell (World.block_lt_of_cell? w _ hx203_5)).trans hx203_5
                              replace hx203_6 := (HB.out.cell (World.block_lt_of_cell? w _ hx203_6)).trans hx203_6
                              replace hx203_7 := (HB.out.cell (World.block_lt_of_cell? w _ hx203_7)).trans hx203_7
                              replace hx203_8 := (HB.out.cell (World.block_lt_of_cell? w _ hx203_8)).trans hx203_8
                              replace hx203_9 := (HB.out.cell (World.block_lt_of_cell? w _ hx203_9)).trans hx203_9
                              replace p203 := eq_true p203
                              replace q203 := eq_true q203
                              go_wp2_with (first | ((with_reducible refine gate_dst (N := 12) rfl ?_); refine box_event ?hg (N := 12) ?hd (cs := #[.int .u16 0, .int .u8 0, .int .u8 0, .int .u8 0, .int .u8 0, .int .i64 0, .int .i64 0, .int .i64 0, .int .u8 0, .int .i64 0]) (t := 26) ?hr ?_; (case hd => rfl); (case hg => rfl); (case hr => first | (go_simp; done) | (go_simp; rfl)); intro gb204 hg w41 hbox hb; replace HO_10 := Aside0.mk (Kd.R_below (rx HO_10) hb); have BK204 := Aside0.mk (hbox); have GW204 := bge HB hg; have GE204 := bge HB hg; replace HB := bh HB hb; have NB200_204 := nbl BK200 hg; have NB204_200 := nbg BK200 hg; replace BK200 := bb BK200 hb; clear hb hbox hg; have hnb42 := NB204_200.out; have hnc42 := NB200_204.out; obtain ⟨hcz43_0, hcz43_1, hcz43_2, hcz43_3, hcz43_4, hcz43_5, hcz43_6, hcz43_7, hcz43_8, hcz43_9⟩ := cz10 BK204; obtain ⟨hfz43_0, hfz43_1, hfz43_2, hfz43_3, hfz43_4, hfz43_5, hfz43_6, hfz43_7, hfz43_8, hfz43_9⟩ := fz10 BK204) | ((with_reducible refine gate_callee (f := 18) rfl ?_); refine goesB (some 46) rfl rfl Try.func18 #[.agg #[.int .u16 ((rd_T26 l2 x40_2).f0), .int .u8 ((rd_T26 l2 x40_2).f1.f0), .int .u8 ((rd_T26 l2 x40_2).f1.f1), .int .u8 ((rd_T26 l2 x40_2).f1.f2), .int .u8 ((rd_T26 l2 x40_2).f1.f3), .int .i64 ((rd_T26 l2 x40_2).f1.f4), .int .i64 ((rd_T26 l2 x40_2).f1.f5), .int .i64 ((rd_T26 l2 x40_2).f1.f6), .int .u8 ((rd_T26 l2 x40_2).f1.f7), .int .i64 ((rd_T26 l2 x40_2).f1.f8)]] rfl ?_; (with_reducible refine (style_CheckDecl.calls ((rd_T26 l2 x40_2).f0) ((rd_T26 l2 x40_2).f1.f0) ((rd_T26 l2 x40_2).f1.f1) ((rd_T26 l2 x40_2).f1.f2) ((rd_T26 l2 x40_2).f1.f3) ((rd_T26 l2 x40_2).f1.f4) ((rd_T26 l2 x40_2).f1.f5) ((rd_T26 l2 x40_2).f1.f6) ((rd_T26 l2 x40_2).f1.f7) ((rd_T26 l2 x40_2).f1.f8) t205 _ A18.out).mono ?_); rintro e w44 ⟨rfl, hb⟩; refine ⟨_, rfl, ?_⟩; replace HO_10 := Aside0.mk (Kd.R_below (by (with_reducible repeat (first | apply Kd.R_alloc | apply Kd.R_drewN | apply Kd.R_drew)); exact (Kd.R_mono (Kd.R_far (p := ⟨gb204, 9, none⟩) (Kd.R_far (p := ⟨gb204, 8, none⟩) (Kd.R_far (p := ⟨gb204, 7, none⟩) (Kd.R_far (p := ⟨gb204, 6, none⟩) (Kd.R_far (p := ⟨gb204, 5, none⟩) (Kd.R_far (p := ⟨gb204, 4, none⟩) (Kd.R_far (p := ⟨gb204, 3, none⟩) (Kd.R_far (p := ⟨gb204, 2, none⟩) (Kd.R_far (p := ⟨gb204, 1, none⟩) (Kd.R_far (p := ⟨gb204, 0, none⟩) (Kd.R_types HO_10.out BK204.out (by decide)) (fun _ hk => hk.2) (.int .u16 ((rd_T26 l2 x40_2).f0))) (fun _ hk => hk.2) (.int .u8 ((rd_T26 l2 x40_2).f1.f0))) (fun _ hk => hk.2) (.int .u8 ((rd_T26 l2 x40_2).f1.f1))) (fun _ hk => hk.2) (.int .u8 ((rd_T26 l2 x40_2).f1.f2))) (fun _ hk => hk.2) (.int .u8 ((rd_T26 l2 x40_2).f1.f3))) (fun _ hk => hk.2) (.int .i64 ((rd_T26 l2 x40_2).f1.f4))) (fun _ hk => hk.2) (.int .i64 ((rd_T26 l2 x40_2).f1.f5))) (fun _ hk => hk.2) (.int .i64 ((rd_T26 l2 x40_2).f1.f6))) (fun _ hk => hk.2) (.int .u8 ((rd_T26 l2 x40_2).f1.f7))) (fun _ hk => hk.2) (.int .i64 ((rd_T26 l2 x40_2).f1.f8))) (fun _ h_ => h_.1))) hb); replace BK200 := bb BK200 hb; replace BK204 := Aside0.mk (blk_below (o := .cells #[.int .u16 ((rd_T26 l2 x40_2).f0), .int .u8 ((rd_T26 l2 x40_2).f1.f0), .int .u8 ((rd_T26 l2 x40_2).f1.f1), .int .u8 ((rd_T26 l2 x40_2).f1.f2), .int .u8 ((rd_T26 l2 x40_2).f1.f3), .int .i64 ((rd_T26 l2 x40_2).f1.f4), .int .i64 ((rd_T26 l2 x40_2).f1.f5), .int .i64 ((rd_T26 l2 x40_2).f1.f6), .int .u8 ((rd_T26 l2 x40_2).f1.f7), .int .i64 ((rd_T26 l2 x40_2).f1.f8)] 26 (0, 0)) (bp BK204) hb); replace HB := bh HB hb; (try clear hb); (try clear hb2); (try clear hk); (try clear hi); obtain ⟨hcz45_0, hcz45_1, hcz45_2, hcz45_3, hcz45_4, hcz45_5, hcz45_6, hcz45_7, hcz45_8⟩ := cz9 BK200; obtain ⟨hfz45_0, hfz45_1, hfz45_2, hfz45_3, hfz45_4, hfz45_5, hfz45_6, hfz45_7, hfz45_8⟩ := fz9 BK200) | ((with_reducible refine gate_dst (N := 13) rfl ?_); refine box_event ?hg (N := 13) ?hd (cs := #[.int .u8 0, .int .u8 0, .int .u8 0, .int .u8 0, .int .i64 0, .int .i64 0, .int .i64 0, .int .u8 0, .int .i64 0]) (t := 23) ?hr ?_; (case hd => rfl); (case hg => rfl); (case hr => first | (go_simp; done) | (go_simp; rfl)); intro gb206 hg w46 hbox hb; replace HO_10 := Aside0.mk (Kd.R_below (Kd.R_elderB (rx HO_10) gb206 (Nat.le_of_eq hg.symm)) hb); have BK206 := Aside0.mk (hbox); have GW206 := bge HB hg; have GE206 := bge HB hg; replace HB := bh HB hb; have NB200_206 := nbl BK200 hg; have NB206_200 := nbg BK200 hg; replace BK200 := bb BK200 hb; have NB204_206 := nbl BK204 hg; have NB206_204 := nbg BK204 hg; replace BK204 := bb BK204 hb; clear hb hbox hg; have hnb47 := NB206_200.out; have hnc47 := NB200_206.out; have hnb48 := NB206_204.out; have hnc48 := NB204_206.out; obtain ⟨hcz49_0, hcz49_1, hcz49_2, hcz49_3, hcz49_4, hcz49_5, hcz49_6, hcz49_7, hcz49_8⟩ := cz9 BK206; obtain ⟨hfz49_0, hfz49_1, hfz49_2, hfz49_3, hfz49_4, hfz49_5, hfz49_6, hfz49_7, hfz49_8⟩ := fz9 BK206; have p207 : 0 ≤ (x40_2 : Int) := of_decide_eq_true (by first | (with_reducible assumption) | assumption); have q207 : x40_2 < (l1.length : Int) := of_decide_eq_true (by first | (with_reducible assumption) | assumption); obtain ⟨ad207, e207, hx207_0⟩ := Kd.at_int HR1.out x40_2 p207 q207; cases e207; have hn207_0 : ad207.block ≠ gb206 := Nat.ne_of_lt (Nat.lt_of_lt_of_le (by have := World.block_lt_of_cell? _ _ hx207_0; first | rwa [add_block] at this | exact this) GW206.out); have hn207_1 : ad207.block ≠ gb206 := Nat.ne_of_lt (Nat.lt_of_lt_of_le (by have := World.block_lt_of_cell? _ _ hx207_0; first | rwa [add_block] at this | exact this) GW206.out); have hn207_2 : ad207.block ≠ gb206 := Nat.ne_of_lt (Nat.lt_of_lt_of_le (by have := World.block_lt_of_cell? _ _ hx207_0; first | rwa [add_block] at this | exact this) GW206.out); have hn207_3 : ad207.block ≠ gb206 := Nat.ne_of_lt (Nat.lt_of_lt_of_le (by have := World.block_lt_of_cell? _ _ hx207_0; first | rwa [add_block] at this | exact this) GW206.out); have hn207_4 : ad207.block ≠ gb206 := Nat.ne_of_lt (Nat.lt_of_lt_of_le (by have := World.block_lt_of_cell? _ _ hx207_0; first | rwa [add_block] at this | exact this) GW206.out); have hn207_5 : ad207.block ≠ gb206 := Nat.ne_of_lt (Nat.lt_of_lt_of_le (by have := World.block_lt_of_cell? _ _ hx207_0; first | rwa [add_block] at this | exact this) GW206.out); have hn207_6 : ad207.block ≠ gb206 := Nat.ne_of_lt (Nat.lt_of_lt_of_le (by have := World.block_lt_of_cell? _ _ hx207_0; first | rwa [add_block] at this | exact this) GW206.out); have hn207_7 : ad207.block ≠ gb206 := Nat.ne_of_lt (Nat.lt_of_lt_of_le (by have := World.block_lt_of_cell? _ _ hx207_0; first | rwa [add_block] at this | exact this) GW206.out); have hn207_8 : ad207.block ≠ gb206 := Nat.ne_of_lt (Nat.lt_of_lt_of_le (by have := World.block_lt_of_cell? _ _ hx207_0; first | rwa [add_block] at this | exact this) GW206.out); replace hx207_0 := (HB.out.cell (World.block_lt_of_cell? w _ hx207_0)).trans hx207_0; replace hx207_0 := (cell_far (p := ⟨gb206, 0, none⟩) (by first | (rw [add_block]; exact hn207_0) | (show (Addr.add _ _).block ≠ _; rw [add_block]; exact hn207_0) | exact hn207_0) (.int .u8 a0_0)).trans hx207_0; replace hx207_0 := (cell_far (p := ⟨gb206, 1, none⟩) (by first | (rw [add_block]; exact hn207_1) | (show (Addr.add _ _).block ≠ _; rw [add_block]; exact hn207_1) | exact hn207_1) (.int .u8 a0_1)).trans hx207_0; replace hx207_0 := (cell_far (p := ⟨gb206, 2, none⟩) (by first | (rw [add_block]; exact hn207_2) | (show (Addr.add _ _).block ≠ _; rw [add_block]; exact hn207_2) | exact hn207_2) (.int .u8 a0_2)).trans hx207_0; replace hx207_0 := (cell_far (p := ⟨gb206, 3, none⟩) (by first | (rw [add_block]; exact hn207_3) | (show (Addr.add _ _).block ≠ _; rw [add_block]; exact hn207_3) | exact hn207_3) (.int .u8 a0_3)).trans hx207_0; replace hx207_0 := (cell_far (p := ⟨gb206, 4, none⟩) (by first | (rw [add_block]; exact hn207_4) | (show (Addr.add _ _).block ≠ _; rw [add_block]; exact hn207_4) | exact hn207_4) (.int .i64 a0_4)).trans hx207_0; replace hx207_0 := (cell_far (p := ⟨gb206, 5, none⟩) (by first | (rw [add_block]; exact hn207_5) | (show (Addr.add _ _).block ≠ _; rw [add_block]; exact hn207_5) | exact hn207_5) (.int .i64 a0_5)).trans hx207_0; replace hx207_0 := (cell_far (p := ⟨gb206, 6, none⟩) (by first | (rw [add_block]; exact hn207_6) | (show (Addr.add _ _).block ≠ _; rw [add_block]; exact hn207_6) | exact hn207_6) (.int .i64 a0_6)).trans hx207_0; replace hx207_0 := (cell_far (p := ⟨gb206, 7, none⟩) (by first | (rw [add_block]; exact hn207_7) | (show (Addr.add _ _).block ≠ _; rw [add_block]; exact hn207_7) | exact hn207_7) (.int .u8 a0_7)).trans hx207_0; replace hx207_0 := (cell_far (p := ⟨gb206, 8, none⟩) (by first | (rw [add_block]; exact hn207_8) | (show (Addr.add _ _).block ≠ _; rw [add_block]; exact hn207_8) | exact hn207_8) (.int .i64 a0_8)).trans hx207_0; clear hn207_0; clear hn207_1; clear hn207_2; clear hn207_3; clear hn207_4; clear hn207_5; clear hn207_6; clear hn207_7; clear hn207_8; replace p207 := eq_true p207; replace q207 := eq_true q207; obtain ⟨hcz50_0, hcz50_1, hcz50_2, hcz50_3, hcz50_4, hcz50_5, hcz50_6, hcz50_7, hcz50_8, hcz50_9⟩ := cz10 BK204; obtain ⟨hfz50_0, hfz50_1, hfz50_2, hfz50_3, hfz50_4, hfz50_5, hfz50_6, hfz50_7, hfz50_8, hfz50_9⟩ := fz10 BK204) | ((with_reducible refine gate_callee (f := 29) rfl ?_); refine goesB (some 62) rfl rfl Try.func29 #[.agg #[.int .u8 a0_0, .int .u8 a0_1, .int .u8 a0_2, .int .u8 a0_3, .int .i64 a0_4, .int .i64 a0_5, .int .i64 a0_6, .int .u8 a0_7, .int .i64 a0_8], .agg #[.int .u16 ((rd_T26 l2 x40_2).f0), .int .u8 ((rd_T26 l2 x40_2).f1.f0), .int .u8 ((rd_T26 l2 x40_2).f1.f1), .int .u8 ((rd_T26 l2 x40_2).f1.f2), .int .u8 ((rd_T26 l2 x40_2).f1.f3), .int .i64 ((rd_T26 l2 x40_2).f1.f4), .int .i64 ((rd_T26 l2 x40_2).f1.f5), .int .i64 ((rd_T26 l2 x40_2).f1.f6), .int .u8 ((rd_T26 l2 x40_2).f1.f7), .int .i64 ((rd_T26 l2 x40_2).f1.f8)]] rfl ?_; (with_reducible refine (style_over.calls a0_0 a0_1 a0_2 a0_3 a0_4 a0_5 a0_6 a0_7 a0_8 ((rd_T26 l2 x40_2).f0) ((rd_T26 l2 x40_2).f1.f0) ((rd_T26 l2 x40_2).f1.f1) ((rd_T26 l2 x40_2).f1.f2) ((rd_T26 l2 x40_2).f1.f3) ((rd_T26 l2 x40_2).f1.f4) ((rd_T26 l2 x40_2).f1.f5) ((rd_T26 l2 x40_2).f1.f6) ((rd_T26 l2 x40_2).f1.f7) ((rd_T26 l2 x40_2).f1.f8) t221 t222 t223 t224 t225 t226 t227 t228 t229 _ A39.out).mono ?_); rintro e w51 ⟨rfl, hb⟩; refine ⟨_, rfl, ?_⟩; replace HO_10 := Aside0.mk (Kd.R_below (by (with_reducible repeat (first | apply Kd.R_alloc | apply Kd.R_drewN | apply Kd.R_drew)); exact (Kd.R_mono (Kd.R_far (p := ⟨gb206, 8, none⟩) (Kd.R_far (p := ⟨gb206, 7, none⟩) (Kd.R_far (p := ⟨gb206, 6, none⟩) (Kd.R_far (p := ⟨gb206, 5, none⟩) (Kd.R_far (p := ⟨gb206, 4, none⟩) (Kd.R_far (p := ⟨gb206, 3, none⟩) (Kd.R_far (p := ⟨gb206, 2, none⟩) (Kd.R_far (p := ⟨gb206, 1, none⟩) (Kd.R_far (p := ⟨gb206, 0, none⟩) (Kd.R_mono HO_10.out (fun k_ hk => (⟨hk, hk.2⟩ : _ ∧ k_ ≠ gb206))) (fun _ hk => hk.2) (.int .u8 a0_0)) (fun _ hk => hk.2) (.int .u8 a0_1)) (fun _ hk => hk.2) (.int .u8 a0_2)) (fun _ hk => hk.2) (.int .u8 a0_3)) (fun _ hk => hk.2) (.int .i64 a0_4)) (fun _ hk => hk.2) (.int .i64 a0_5)) (fun _ hk => hk.2) (.int .i64 a0_6)) (fun _ hk => hk.2) (.int .u8 a0_7)) (fun _ hk => hk.2) (.int .i64 a0_8)) (fun _ h_ => h_.1))) hb); replace BK200 := bb BK200 hb; replace BK204 := bb BK204 hb; replace BK206 := Aside0.mk (blk_below (o := .cells #[.int .u8 a0_0, .int .u8 a0_1, .int .u8 a0_2, .int .u8 a0_3, .int .i64 a0_4, .int .i64 a0_5, .int .i64 a0_6, .int .u8 a0_7, .int .i64 a0_8] 23 (0, 0)) (bp BK206) hb); replace HB := bh HB hb; (try clear hb); (try clear hb2); (try clear hk); (try clear hi)) | ((with_reducible refine gate_builtin (b := .append) (xs := #[.tmp 59, .tmp 63]) rfl ?_); at_builtin; refine Kd.R_append k23 (w0 := w) w.heap.size rfl (.tmp 59) (.tmp 63) 45 23 (.agg #[(.int .u8 0), (.int .u8 0), (.int .u8 0), (.int .u8 0), (.int .i64 0), (.int .i64 0), (.int .i64 0), (.int .u8 0), (.int .i64 0)]) 48 rfl Try.underlying45 info23 rfl (by decide) (by omega) u10 x10_2 (⟨t221, t222, t223, t224, t225, t226, t227, t228, t229⟩ : S23) [.int .u8 t221, .int .u8 t222, .int .u8 t223, .int .u8 t224, .int .i64 t225, .int .i64 t226, .int .i64 t227, .int .u8 t228, .int .i64 t229] (fun k_ => k_ ≠ gb200 ∧ k_ ≠ gb206) (fun _ => False) rfl rfl ?aP (fun _ hk => hk.elim) ?aF ?aO ?aB ?aS ?aL ?_; (case aP => exact k23_mkM _ _ _ (⟨t221, t222, t223, t224, t225, t226, t227, t228, t229⟩ : S23)); (case aB => exact (bw HB)); (case aF => exact (fun k_ hk => ⟨Kd.freshB (bx BK200) k_ hk, Kd.freshB (bx BK206) k_ hk⟩)); (case aO => exact (rx HO_10)); (case aS => exact (below_size (bw HB))); (case aL => have := LMc40.out; omega); intro v231 w52 ho hb hg hat; rw [← Ny230.out] at ho; replace BK200 := Aside0.mk (blk_grown (bx BK200) hg (Kd.R_away HO_10.out (fun _ hk => hk.1))); replace BK204 := Aside0.mk (blk_grown (bx BK204) hg (by first | exact Kd.R_ne HO_10.out BK204.out (by decide) | exact (fun e => by have z := And.left HO_10.out _ e.symm; simp at z))); replace BK206 := Aside0.mk (blk_grown (bx BK206) hg (Kd.R_away HO_10.out (fun _ hk => hk.2))); replace HB := Aside0.mk (hb); have HO232 := Aside0.mk (ho); clear HO_10; clear ho hb hg hat))
                              go_roundg k2
                              case measure => have := HK1.out; have := HK2.out; omega
                              case rel => exact ⟨(y230), (wrap64 (x40_2 + 1)), (by first | rfl | (simp; done) | (simp [*]; done)), H', ⟨by have := HK1.out; have := HK2.out; omega⟩, ⟨by (with_reducible repeat (first | apply Kd.R_alloc | apply Kd.R_drewN | apply Kd.R_drew)); exact Kd.R_mono HO232.out (fun _ hk => hk.1)⟩, ⟨by (with_reducible repeat (first | refine blk_drewN ?_ _ | refine blk_drew ?_ | refine blk_alloc ?_ _)); exact BK200.out⟩, ⟨by repeat (first | (with_reducible first | exact HB.out | apply below_alloc | apply pw_below_drewN | apply below_drew1 | refine below_set ?_ GE200.out | refine below_set ?_ GE204.out | refine below_set ?_ GE206.out) | exact HB.out)⟩⟩
                            · rw [if_neg c40] at H
                              exact absurd H (by simp)
                        · rw [if_neg c20] at H
                          exact absurd H (by simp)
                      · rw [if_neg c19] at H
                        have c19b0 : (t205 == 0) = false := beq_eq_false_iff_ne.mpr c19
                        have c19b1 : (t205 != 0) = true := bne_iff_ne.mpr c19
                        simp only [Option.some.injEq, Prod.mk.injEq] at H
                        obtain ⟨rfl, rfl⟩ := H
                        have p203 : 0 ≤ (x40_2 : Int) := of_decide_eq_true (by first | (with_reducible assumption) | assumption)
                        have q203 : x40_2 < (l2.length : Int) := of_decide_eq_true (by first | (with_reducible assumption) | assumption)
                        obtain ⟨ad203, e203, hx203_0, hx203_1, hx203_2, hx203_3, hx203_4, hx203_5, hx203_6, hx203_7, hx203_8, hx203_9⟩ := at_T26 HR2.out x40_2 p203 q203
                        cases e203
                        replace hx203_0 := (HB.out.cell (World.block_lt_of_cell? w _ hx203_0)).trans hx203_0
                        replace hx203_1 := (HB.out.cell (World.block_lt_of_cell? w _ hx203_1)).trans hx203_1
                        replace hx203_2 := (HB.out.cell (World.block_lt_of_cell? w _ hx203_2)).trans hx203_2
                        replace hx203_3 := (HB.out.cell (World.block_lt_of_cell? w _ hx203_3)).trans hx203_3
                        replace hx203_4 := (HB.out.cell (World.block_lt_of_cell? w _ hx203_4)).trans hx203_4
                        replace hx203_5 := (HB.out.cell (World.block_lt_of_cell? w _ hx203_5)).trans hx203_5
                        replace hx203_6 := (HB.out.cell (World.block_lt_of_cell? w _ hx203_6)).trans hx203_6
                        replace hx203_7 := (HB.out.cell (World.block_lt_of_cell? w _ hx203_7)).trans hx203_7
                        replace hx203_8 := (HB.out.cell (World.block_lt_of_cell? w _ hx203_8)).trans hx203_8
                        replace hx203_9 := (HB.out.cell (World.block_lt_of_cell? w _ hx203_9)).trans hx203_9
                        replace p203 := eq_true p203
                        replace q203 := eq_true q203
                        go_wp2_with (first | ((with_reducible refine gate_dst (N := 12) rfl ?_); refine box_event ?hg (N := 12) ?hd (cs := #[.int .u16 0, .int .u8 0, .int .u8 0, .int .u8 0, .int .u8 0, .int .i64 0, .int .i64 0, .int .i64 0, .int .u8 0, .int .i64 0]) (t := 26) ?hr ?_; (case hd => rfl); (case hg => rfl); (case hr => first | (go_simp; done) | (go_simp; rfl)); intro gb204 hg w53 hbox hb; replace HO_10 := Aside0.mk (Kd.R_below (rx HO_10) hb); have BK204 := Aside0.mk (hbox); have GW204 := bge HB hg; have GE204 := bge HB hg; replace HB := bh HB hb; have NB200_204 := nbl BK200 hg; have NB204_200 := nbg BK200 hg; replace BK200 := bb BK200 hb; clear hb hbox hg; have hnb54 := NB204_200.out; have hnc54 := NB200_204.out; obtain ⟨hcz55_0, hcz55_1, hcz55_2, hcz55_3, hcz55_4, hcz55_5, hcz55_6, hcz55_7, hcz55_8, hcz55_9⟩ := cz10 BK204; obtain ⟨hfz55_0, hfz55_1, hfz55_2, hfz55_3, hfz55_4, hfz55_5, hfz55_6, hfz55_7, hfz55_8, hfz55_9⟩ := fz10 BK204) | ((with_reducible refine gate_callee (f := 18) rfl ?_); refine goesB (some 46) rfl rfl Try.func18 #[.agg #[.int .u16 ((rd_T26 l2 x40_2).f0), .int .u8 ((rd_T26 l2 x40_2).f1.f0), .int .u8 ((rd_T26 l2 x40_2).f1.f1), .int .u8 ((rd_T26 l2 x40_2).f1.f2), .int .u8 ((rd_T26 l2 x40_2).f1.f3), .int .i64 ((rd_T26 l2 x40_2).f1.f4), .int .i64 ((rd_T26 l2 x40_2).f1.f5), .int .i64 ((rd_T26 l2 x40_2).f1.f6), .int .u8 ((rd_T26 l2 x40_2).f1.f7), .int .i64 ((rd_T26 l2 x40_2).f1.f8)]] rfl ?_; (with_reducible refine (style_CheckDecl.calls ((rd_T26 l2 x40_2).f0) ((rd_T26 l2 x40_2).f1.f0) ((rd_T26 l2 x40_2).f1.f1) ((rd_T26 l2 x40_2).f1.f2) ((rd_T26 l2 x40_2).f1.f3) ((rd_T26 l2 x40_2).f1.f4) ((rd_T26 l2 x40_2).f1.f5) ((rd_T26 l2 x40_2).f1.f6) ((rd_T26 l2 x40_2).f1.f7) ((rd_T26 l2 x40_2).f1.f8) t205 _ A18.out).mono ?_); rintro e w56 ⟨rfl, hb⟩; refine ⟨_, rfl, ?_⟩; replace HO_10 := Aside0.mk (Kd.R_below (by (with_reducible repeat (first | apply Kd.R_alloc | apply Kd.R_drewN | apply Kd.R_drew)); exact (Kd.R_mono (Kd.R_far (p := ⟨gb204, 9, none⟩) (Kd.R_far (p := ⟨gb204, 8, none⟩) (Kd.R_far (p := ⟨gb204, 7, none⟩) (Kd.R_far (p := ⟨gb204, 6, none⟩) (Kd.R_far (p := ⟨gb204, 5, none⟩) (Kd.R_far (p := ⟨gb204, 4, none⟩) (Kd.R_far (p := ⟨gb204, 3, none⟩) (Kd.R_far (p := ⟨gb204, 2, none⟩) (Kd.R_far (p := ⟨gb204, 1, none⟩) (Kd.R_far (p := ⟨gb204, 0, none⟩) (Kd.R_types HO_10.out BK204.out (by decide)) (fun _ hk => hk.2) (.int .u16 ((rd_T26 l2 x40_2).f0))) (fun _ hk => hk.2) (.int .u8 ((rd_T26 l2 x40_2).f1.f0))) (fun _ hk => hk.2) (.int .u8 ((rd_T26 l2 x40_2).f1.f1))) (fun _ hk => hk.2) (.int .u8 ((rd_T26 l2 x40_2).f1.f2))) (fun _ hk => hk.2) (.int .u8 ((rd_T26 l2 x40_2).f1.f3))) (fun _ hk => hk.2) (.int .i64 ((rd_T26 l2 x40_2).f1.f4))) (fun _ hk => hk.2) (.int .i64 ((rd_T26 l2 x40_2).f1.f5))) (fun _ hk => hk.2) (.int .i64 ((rd_T26 l2 x40_2).f1.f6))) (fun _ hk => hk.2) (.int .u8 ((rd_T26 l2 x40_2).f1.f7))) (fun _ hk => hk.2) (.int .i64 ((rd_T26 l2 x40_2).f1.f8))) (fun _ h_ => h_.1))) hb); replace BK200 := bb BK200 hb; replace BK204 := Aside0.mk (blk_below (o := .cells #[.int .u16 ((rd_T26 l2 x40_2).f0), .int .u8 ((rd_T26 l2 x40_2).f1.f0), .int .u8 ((rd_T26 l2 x40_2).f1.f1), .int .u8 ((rd_T26 l2 x40_2).f1.f2), .int .u8 ((rd_T26 l2 x40_2).f1.f3), .int .i64 ((rd_T26 l2 x40_2).f1.f4), .int .i64 ((rd_T26 l2 x40_2).f1.f5), .int .i64 ((rd_T26 l2 x40_2).f1.f6), .int .u8 ((rd_T26 l2 x40_2).f1.f7), .int .i64 ((rd_T26 l2 x40_2).f1.f8)] 26 (0, 0)) (bp BK204) hb); replace HB := bh HB hb; (try clear hb); (try clear hb2); (try clear hk); (try clear hi)))
                        go_ret2
                        exact ⟨_, by first | rfl | (simp [errW_none, errW_some] <;> rfl) | (simp [*, errW_none, errW_some] <;> rfl), by first | exact Kd.R_nil _ _ _ _ _ | exact Kd.N_nil _ _ _ _ _ | exact Kd.V_nil _ _ _ _ _ | exact Kd.Q_nil _ _ _ _ _ | exact Kd.S_nil _ _ _ _ _, by repeat (first | (with_reducible first | exact HB.out | apply below_alloc | apply pw_below_drewN | apply below_drew1 | refine below_set ?_ GE200.out | refine below_set ?_ GE204.out) | exact HB.out)⟩
                    · rw [if_neg c17] at H
                      exact absurd H (by simp)
                  · rw [if_neg c16] at H
                    exact absurd H (by simp)
                · rw [if_neg c15] at H
                  have c15b0 : decide (x40_2 < (l2.length : Int)) = false := decide_eq_false c15
                  clear c15
                  simp only [Option.some.injEq, Prod.mk.injEq] at H
                  obtain ⟨rfl, rfl⟩ := H
                  go_wp2
                  go_ret2
                  exact ⟨_, by first | rfl | (simp [errW_none, errW_some] <;> rfl) | (simp [*, errW_none, errW_some] <;> rfl), by (with_reducible repeat (first | apply Kd.R_alloc | apply Kd.R_drewN | apply Kd.R_drew)); exact Kd.R_mono HO_10.out (fun _ hk => trivial), by repeat (first | (with_reducible first | exact HB.out | apply below_alloc | apply pw_below_drewN | apply below_drew1 | refine below_set ?_ GE200.out) | exact HB.out)⟩
          · rw [if_neg c12] at H
            have c12b0 : (t202 == 0) = false := beq_eq_false_iff_ne.mpr c12
            have c12b1 : (t202 != 0) = true := bne_iff_ne.mpr c12
            simp only [Option.some.injEq, Prod.mk.injEq] at H
            obtain ⟨rfl, rfl⟩ := H
            obtain ⟨hcz57_0, hcz57_1, hcz57_2, hcz57_3, hcz57_4, hcz57_5, hcz57_6, hcz57_7, hcz57_8⟩ := cz9 BK200
            obtain ⟨hfz57_0, hfz57_1, hfz57_2, hfz57_3, hfz57_4, hfz57_5, hfz57_6, hfz57_7, hfz57_8⟩ := fz9 BK200
            go_wp2_with (first | ((with_reducible refine gate_callee (f := 16) rfl ?_); refine goesB (some 36) rfl rfl Try.func16 #[.agg #[.int .u8 a0_0, .int .u8 a0_1, .int .u8 a0_2, .int .u8 a0_3, .int .i64 a0_4, .int .i64 a0_5, .int .i64 a0_6, .int .u8 a0_7, .int .i64 a0_8]] rfl ?_; (with_reducible refine (style_Check.calls a0_0 a0_1 a0_2 a0_3 a0_4 a0_5 a0_6 a0_7 a0_8 t202 _ A11.out).mono ?_); rintro e w58 ⟨rfl, hb⟩; refine ⟨_, rfl, ?_⟩; replace BK200 := bb BK200 hb; replace HB := bh HB hb; (try clear hb); (try clear hb2); (try clear hk); (try clear hi)))
            go_ret2
            exact ⟨_, by first | rfl | (simp [errW_none, errW_some] <;> rfl) | (simp [*, errW_none, errW_some] <;> rfl), by first | exact Kd.R_nil _ _ _ _ _ | exact Kd.N_nil _ _ _ _ _ | exact Kd.V_nil _ _ _ _ _ | exact Kd.Q_nil _ _ _ _ _ | exact Kd.S_nil _ _ _ _ _, by repeat (first | (with_reducible first | exact HB.out | apply below_alloc | apply pw_below_drewN | apply below_drew1 | refine below_set ?_ GE200.out) | exact HB.out)⟩
  · rw [if_neg c4] at H
    have c4b0 : ((l2.length : Int) == (l1.length : Int)) = false := beq_eq_false_iff_ne.mpr c4
    have c4b1 : ((l2.length : Int) != (l1.length : Int)) = true := bne_iff_ne.mpr c4
    have c4b2 : (l2.length == l1.length) = false := by first | simpa using c4 | (simp at c4 ⊢; omega)
    simp only [Option.some.injEq, Prod.mk.injEq] at H
    obtain ⟨rfl, rfl⟩ := H
    go_enter Try.func23, Try.ntmps23
    go_wp2_with (first | ((with_reducible refine gate_dst (N := 3) rfl ?_); refine box_event ?hg (N := 3) ?hd (cs := #[.int .u8 a0_0, .int .u8 a0_1, .int .u8 a0_2, .int .u8 a0_3, .int .i64 a0_4, .int .i64 a0_5, .int .i64 a0_6, .int .u8 a0_7, .int .i64 a0_8]) (t := 23) ?hr ?_; (case hd => rfl); (case hg => rfl); (case hr => first | (go_simp; done) | (go_simp; rfl)); intro gb200 hg w59 hbox hb; have BK200 := Aside0.mk (hbox); have GW200 := bge HB hg; have GE200 := bge HB hg; replace HB := bh HB hb; clear hb hbox hg))
    go_ret2
    exact ⟨_, by first | rfl | (simp [errW_none, errW_some] <;> rfl) | (simp [*, errW_none, errW_some] <;> rfl), by first | exact Kd.R_nil _ _ _ _ _ | exact Kd.N_nil _ _ _ _ _ | exact Kd.V_nil _ _ _ _ _ | exact Kd.Q_nil _ _ _ _ _ | exact Kd.S_nil _ _ _ _ _, by repeat (first | (with_reducible first | exact HB.out | apply below_alloc | apply pw_below_drewN | apply below_drew1 | refine below_set ?_ GE200.out) | exact HB.out)⟩

/-! ### stickfullaw06_head: function 22 -/
def stickfullaw06_head.f (k : Nat)  : Option (Bool) := (style_First.f).bind fun bt233 => ((style_Resolve.f bt233.1 bt233.2.1 bt233.2.2.1 bt233.2.2.2.1 bt233.2.2.2.2.1 bt233.2.2.2.2.2.1 bt233.2.2.2.2.2.2.1 bt233.2.2.2.2.2.2.2.1 bt233.2.2.2.2.2.2.2.2 1 2 0 0 0 0 0 0 0 0).bind fun bt242 => ((style_Merge.f 5 1 0 1 0 0 0 0 0 0 1 4 0 0 0 0 0 0 0 0).bind fun bt253 => ((style_First.f).bind fun bt265 => ((style_Styles.f k bt265.1 bt265.2.1 bt265.2.2.1 bt265.2.2.2.1 bt265.2.2.2.2.1 bt265.2.2.2.2.2.1 bt265.2.2.2.2.2.2.1 bt265.2.2.2.2.2.2.2.1 bt265.2.2.2.2.2.2.2.2 (([(-1), 0, 0] : List Int)) (([(⟨64, (⟨0, 0, 0, 0, 0, 0, 640, 0, 0⟩ : S23)⟩ : S26), (⟨0, (⟨0, 0, 0, 0, 0, 0, 0, 0, 0⟩ : S23)⟩ : S26), (⟨64, (⟨0, 0, 0, 0, 0, 0, 64, 0, 0⟩ : S23)⟩ : S26)] : List (S26)))).bind fun bt280 => ((style_First.f).bind fun bt284 => ((style_Styles.f k bt284.1 bt284.2.1 bt284.2.2.1 bt284.2.2.2.1 bt284.2.2.2.2.1 bt284.2.2.2.2.2.1 bt284.2.2.2.2.2.2.1 bt284.2.2.2.2.2.2.2.1 bt284.2.2.2.2.2.2.2.2 (([0] : List Int)) (([(⟨0, (⟨0, 0, 0, 0, 0, 0, 0, 0, 0⟩ : S23)⟩ : S26)] : List (S26)))).bind fun bt299 => (if (bt242.1 == 2 && (bt242.2.1 == 0 && (bt242.2.2.1 == 0 && (bt242.2.2.2.1 == 0 && (bt242.2.2.2.2.1 == 8 && (bt242.2.2.2.2.2.1 == 0 && (bt242.2.2.2.2.2.2.1 == 1024 && (bt242.2.2.2.2.2.2.2.1 == 0 && (bt242.2.2.2.2.2.2.2.2.1 == 0))))))))) = true then (if bt242.2.2.2.2.2.2.2.2.2 = 0 then (if (bt253.1 == 5 && ((bt253.2.1 == 4 && (bt253.2.2.1 == 0 && (bt253.2.2.2.1 == 1 && (bt253.2.2.2.2.1 == 0 && (bt253.2.2.2.2.2.1 == 0 && (bt253.2.2.2.2.2.2.1 == 0 && (bt253.2.2.2.2.2.2.2.1 == 0 && (bt253.2.2.2.2.2.2.2.2.1 == 0 && (bt253.2.2.2.2.2.2.2.2.2.1 == 0))))))))))) = true then (if bt253.2.2.2.2.2.2.2.2.2.2 = 0 then (if bt280.2 = 0 then (if (bt280.1.length : Int) = 3 then (if 0 < (bt280.1.length : Int) then (if ((rd_T23 bt280.1 0).f6) = 640 then (if 1 < (bt280.1.length : Int) then (if ((rd_T23 bt280.1 1).f6) = 640 then (if 2 < (bt280.1.length : Int) then (if ((rd_T23 bt280.1 2).f6) = 64 then (if bt299.2 = 2 then ((style_CheckDecl.f 256 0 0 0 0 0 0 0 0 0).bind fun t306 => (if t306 = 60 then ((style_Check.f 0 0 0 0 65 0 0 0 0).bind fun t307 => (some (t307 == 60))) else (some false))) else (some false)) else (some false)) else (none)) else (some false)) else (none)) else (some false)) else (none)) else (some false)) else (some false)) else (some false)) else (some false)) else (some false)) else (some false))))))))
theorem stickfullaw06_head.mono : ∀ k, LeO (stickfullaw06_head.f k ) (stickfullaw06_head.f (k + 1) ) := by
  intro  k
  unfold stickfullaw06_head.f
  repeat' first
      | (with_reducible exact style_Styles.mono _ _ _ _ _ _ _ _ _ _ _ _)
      | (with_reducible exact LeO.refl _)
      | (with_reducible exact LeO.none _)
      | (with_reducible refine LeO.ite ?_ ?_)
      | (with_reducible refine LeO.bind ?_ (fun _ => ?_))
      | exact style_Styles.mono _ _ _ _ _ _ _ _ _ _ _ _
      | exact LeO.none _
      | refine LeO.ite ?_ ?_
      | refine LeO.bind ?_ (fun _ => ?_)
set_option maxHeartbeats 8000000 in
set_option maxRecDepth 100000 in
theorem stickfullaw06_head.calls_t (k : Nat)  (r : Bool) (w : World) (h : stickfullaw06_head.f k  = some r) (hr_ : r = true) :
    Calls Try.prog 22 #[] w fun e w' => e = .returned (.bool r) ∧ Below w.heap.size w w' := by
  have hu23 := Try.underlying23
  have hu26 := Try.underlying26
  have HR_ := Aside0.mk hr_
  clear hr_
  have HB := Aside0.mk (Below.refl w.heap.size w)
  have H : ((style_First.f).bind fun bt233 => ((style_Resolve.f bt233.1 bt233.2.1 bt233.2.2.1 bt233.2.2.2.1 bt233.2.2.2.2.1 bt233.2.2.2.2.2.1 bt233.2.2.2.2.2.2.1 bt233.2.2.2.2.2.2.2.1 bt233.2.2.2.2.2.2.2.2 1 2 0 0 0 0 0 0 0 0).bind fun bt242 => ((style_Merge.f 5 1 0 1 0 0 0 0 0 0 1 4 0 0 0 0 0 0 0 0).bind fun bt253 => ((style_First.f).bind fun bt265 => ((style_Styles.f k bt265.1 bt265.2.1 bt265.2.2.1 bt265.2.2.2.1 bt265.2.2.2.2.1 bt265.2.2.2.2.2.1 bt265.2.2.2.2.2.2.1 bt265.2.2.2.2.2.2.2.1 bt265.2.2.2.2.2.2.2.2 (([(-1), 0, 0] : List Int)) (([(⟨64, (⟨0, 0, 0, 0, 0, 0, 640, 0, 0⟩ : S23)⟩ : S26), (⟨0, (⟨0, 0, 0, 0, 0, 0, 0, 0, 0⟩ : S23)⟩ : S26), (⟨64, (⟨0, 0, 0, 0, 0, 0, 64, 0, 0⟩ : S23)⟩ : S26)] : List (S26)))).bind fun bt280 => ((style_First.f).bind fun bt284 => ((style_Styles.f k bt284.1 bt284.2.1 bt284.2.2.1 bt284.2.2.2.1 bt284.2.2.2.2.1 bt284.2.2.2.2.2.1 bt284.2.2.2.2.2.2.1 bt284.2.2.2.2.2.2.2.1 bt284.2.2.2.2.2.2.2.2 (([0] : List Int)) (([(⟨0, (⟨0, 0, 0, 0, 0, 0, 0, 0, 0⟩ : S23)⟩ : S26)] : List (S26)))).bind fun bt299 => (if (bt242.1 == 2 && (bt242.2.1 == 0 && (bt242.2.2.1 == 0 && (bt242.2.2.2.1 == 0 && (bt242.2.2.2.2.1 == 8 && (bt242.2.2.2.2.2.1 == 0 && (bt242.2.2.2.2.2.2.1 == 1024 && (bt242.2.2.2.2.2.2.2.1 == 0 && (bt242.2.2.2.2.2.2.2.2.1 == 0))))))))) = true then (if bt242.2.2.2.2.2.2.2.2.2 = 0 then (if (bt253.1 == 5 && ((bt253.2.1 == 4 && (bt253.2.2.1 == 0 && (bt253.2.2.2.1 == 1 && (bt253.2.2.2.2.1 == 0 && (bt253.2.2.2.2.2.1 == 0 && (bt253.2.2.2.2.2.2.1 == 0 && (bt253.2.2.2.2.2.2.2.1 == 0 && (bt253.2.2.2.2.2.2.2.2.1 == 0 && (bt253.2.2.2.2.2.2.2.2.2.1 == 0))))))))))) = true then (if bt253.2.2.2.2.2.2.2.2.2.2 = 0 then (if bt280.2 = 0 then (if (bt280.1.length : Int) = 3 then (if 0 < (bt280.1.length : Int) then (if ((rd_T23 bt280.1 0).f6) = 640 then (if 1 < (bt280.1.length : Int) then (if ((rd_T23 bt280.1 1).f6) = 640 then (if 2 < (bt280.1.length : Int) then (if ((rd_T23 bt280.1 2).f6) = 64 then (if bt299.2 = 2 then ((style_CheckDecl.f 256 0 0 0 0 0 0 0 0 0).bind fun t306 => (if t306 = 60 then ((style_Check.f 0 0 0 0 65 0 0 0 0).bind fun t307 => (some (t307 == 60))) else (some false))) else (some false)) else (some false)) else (none)) else (some false)) else (none)) else (some false)) else (none)) else (some false)) else (some false)) else (some false)) else (some false)) else (some false)) else (some false))))))))) = some r := h
  clear h
  replace H := Option.bind_eq_some_iff.mp H
  obtain ⟨⟨t233, t234, t235, t236, t237, t238, t239, t240, t241⟩, A10, H⟩ := H
  replace H : ((style_Resolve.f t233 t234 t235 t236 t237 t238 t239 t240 t241 1 2 0 0 0 0 0 0 0 0).bind fun bt242 => ((style_Merge.f 5 1 0 1 0 0 0 0 0 0 1 4 0 0 0 0 0 0 0 0).bind fun bt253 => ((style_First.f).bind fun bt265 => ((style_Styles.f k bt265.1 bt265.2.1 bt265.2.2.1 bt265.2.2.2.1 bt265.2.2.2.2.1 bt265.2.2.2.2.2.1 bt265.2.2.2.2.2.2.1 bt265.2.2.2.2.2.2.2.1 bt265.2.2.2.2.2.2.2.2 (([(-1), 0, 0] : List Int)) (([(⟨64, (⟨0, 0, 0, 0, 0, 0, 640, 0, 0⟩ : S23)⟩ : S26), (⟨0, (⟨0, 0, 0, 0, 0, 0, 0, 0, 0⟩ : S23)⟩ : S26), (⟨64, (⟨0, 0, 0, 0, 0, 0, 64, 0, 0⟩ : S23)⟩ : S26)] : List (S26)))).bind fun bt280 => ((style_First.f).bind fun bt284 => ((style_Styles.f k bt284.1 bt284.2.1 bt284.2.2.1 bt284.2.2.2.1 bt284.2.2.2.2.1 bt284.2.2.2.2.2.1 bt284.2.2.2.2.2.2.1 bt284.2.2.2.2.2.2.2.1 bt284.2.2.2.2.2.2.2.2 (([0] : List Int)) (([(⟨0, (⟨0, 0, 0, 0, 0, 0, 0, 0, 0⟩ : S23)⟩ : S26)] : List (S26)))).bind fun bt299 => (if (bt242.1 == 2 && (bt242.2.1 == 0 && (bt242.2.2.1 == 0 && (bt242.2.2.2.1 == 0 && (bt242.2.2.2.2.1 == 8 && (bt242.2.2.2.2.2.1 == 0 && (bt242.2.2.2.2.2.2.1 == 1024 && (bt242.2.2.2.2.2.2.2.1 == 0 && (bt242.2.2.2.2.2.2.2.2.1 == 0))))))))) = true then (if bt242.2.2.2.2.2.2.2.2.2 = 0 then (if (bt253.1 == 5 && ((bt253.2.1 == 4 && (bt253.2.2.1 == 0 && (bt253.2.2.2.1 == 1 && (bt253.2.2.2.2.1 == 0 && (bt253.2.2.2.2.2.1 == 0 && (bt253.2.2.2.2.2.2.1 == 0 && (bt253.2.2.2.2.2.2.2.1 == 0 && (bt253.2.2.2.2.2.2.2.2.1 == 0 && (bt253.2.2.2.2.2.2.2.2.2.1 == 0))))))))))) = true then (if bt253.2.2.2.2.2.2.2.2.2.2 = 0 then (if bt280.2 = 0 then (if (bt280.1.length : Int) = 3 then (if 0 < (bt280.1.length : Int) then (if ((rd_T23 bt280.1 0).f6) = 640 then (if 1 < (bt280.1.length : Int) then (if ((rd_T23 bt280.1 1).f6) = 640 then (if 2 < (bt280.1.length : Int) then (if ((rd_T23 bt280.1 2).f6) = 64 then (if bt299.2 = 2 then ((style_CheckDecl.f 256 0 0 0 0 0 0 0 0 0).bind fun t306 => (if t306 = 60 then ((style_Check.f 0 0 0 0 65 0 0 0 0).bind fun t307 => (some (t307 == 60))) else (some false))) else (some false)) else (some false)) else (none)) else (some false)) else (none)) else (some false)) else (none)) else (some false)) else (some false)) else (some false)) else (some false)) else (some false)) else (some false)))))))) = some r := H
  have A1 := Aside0.mk A10
  clear A10
  replace H := Option.bind_eq_some_iff.mp H
  obtain ⟨⟨t242, t243, t244, t245, t246, t247, t248, t249, t250, t251⟩, A20, H⟩ := H
  replace H : ((style_Merge.f 5 1 0 1 0 0 0 0 0 0 1 4 0 0 0 0 0 0 0 0).bind fun bt253 => ((style_First.f).bind fun bt265 => ((style_Styles.f k bt265.1 bt265.2.1 bt265.2.2.1 bt265.2.2.2.1 bt265.2.2.2.2.1 bt265.2.2.2.2.2.1 bt265.2.2.2.2.2.2.1 bt265.2.2.2.2.2.2.2.1 bt265.2.2.2.2.2.2.2.2 (([(-1), 0, 0] : List Int)) (([(⟨64, (⟨0, 0, 0, 0, 0, 0, 640, 0, 0⟩ : S23)⟩ : S26), (⟨0, (⟨0, 0, 0, 0, 0, 0, 0, 0, 0⟩ : S23)⟩ : S26), (⟨64, (⟨0, 0, 0, 0, 0, 0, 64, 0, 0⟩ : S23)⟩ : S26)] : List (S26)))).bind fun bt280 => ((style_First.f).bind fun bt284 => ((style_Styles.f k bt284.1 bt284.2.1 bt284.2.2.1 bt284.2.2.2.1 bt284.2.2.2.2.1 bt284.2.2.2.2.2.1 bt284.2.2.2.2.2.2.1 bt284.2.2.2.2.2.2.2.1 bt284.2.2.2.2.2.2.2.2 (([0] : List Int)) (([(⟨0, (⟨0, 0, 0, 0, 0, 0, 0, 0, 0⟩ : S23)⟩ : S26)] : List (S26)))).bind fun bt299 => (if (t242 == 2 && (t243 == 0 && (t244 == 0 && (t245 == 0 && (t246 == 8 && (t247 == 0 && (t248 == 1024 && (t249 == 0 && (t250 == 0))))))))) = true then (if t251 = 0 then (if (bt253.1 == 5 && ((bt253.2.1 == 4 && (bt253.2.2.1 == 0 && (bt253.2.2.2.1 == 1 && (bt253.2.2.2.2.1 == 0 && (bt253.2.2.2.2.2.1 == 0 && (bt253.2.2.2.2.2.2.1 == 0 && (bt253.2.2.2.2.2.2.2.1 == 0 && (bt253.2.2.2.2.2.2.2.2.1 == 0 && (bt253.2.2.2.2.2.2.2.2.2.1 == 0))))))))))) = true then (if bt253.2.2.2.2.2.2.2.2.2.2 = 0 then (if bt280.2 = 0 then (if (bt280.1.length : Int) = 3 then (if 0 < (bt280.1.length : Int) then (if ((rd_T23 bt280.1 0).f6) = 640 then (if 1 < (bt280.1.length : Int) then (if ((rd_T23 bt280.1 1).f6) = 640 then (if 2 < (bt280.1.length : Int) then (if ((rd_T23 bt280.1 2).f6) = 64 then (if bt299.2 = 2 then ((style_CheckDecl.f 256 0 0 0 0 0 0 0 0 0).bind fun t306 => (if t306 = 60 then ((style_Check.f 0 0 0 0 65 0 0 0 0).bind fun t307 => (some (t307 == 60))) else (some false))) else (some false)) else (some false)) else (none)) else (some false)) else (none)) else (some false)) else (none)) else (some false)) else (some false)) else (some false)) else (some false)) else (some false)) else (some false))))))) = some r := H
  have A2 := Aside0.mk A20
  clear A20
  replace H := Option.bind_eq_some_iff.mp H
  obtain ⟨⟨t253, t254, t255, t256, t257, t258, t259, t260, t261, t262, t263⟩, A30, H⟩ := H
  replace H : ((style_First.f).bind fun bt265 => ((style_Styles.f k bt265.1 bt265.2.1 bt265.2.2.1 bt265.2.2.2.1 bt265.2.2.2.2.1 bt265.2.2.2.2.2.1 bt265.2.2.2.2.2.2.1 bt265.2.2.2.2.2.2.2.1 bt265.2.2.2.2.2.2.2.2 (([(-1), 0, 0] : List Int)) (([(⟨64, (⟨0, 0, 0, 0, 0, 0, 640, 0, 0⟩ : S23)⟩ : S26), (⟨0, (⟨0, 0, 0, 0, 0, 0, 0, 0, 0⟩ : S23)⟩ : S26), (⟨64, (⟨0, 0, 0, 0, 0, 0, 64, 0, 0⟩ : S23)⟩ : S26)] : List (S26)))).bind fun bt280 => ((style_First.f).bind fun bt284 => ((style_Styles.f k bt284.1 bt284.2.1 bt284.2.2.1 bt284.2.2.2.1 bt284.2.2.2.2.1 bt284.2.2.2.2.2.1 bt284.2.2.2.2.2.2.1 bt284.2.2.2.2.2.2.2.1 bt284.2.2.2.2.2.2.2.2 (([0] : List Int)) (([(⟨0, (⟨0, 0, 0, 0, 0, 0, 0, 0, 0⟩ : S23)⟩ : S26)] : List (S26)))).bind fun bt299 => (if (t242 == 2 && (t243 == 0 && (t244 == 0 && (t245 == 0 && (t246 == 8 && (t247 == 0 && (t248 == 1024 && (t249 == 0 && (t250 == 0))))))))) = true then (if t251 = 0 then (if (t253 == 5 && ((t254 == 4 && (t255 == 0 && (t256 == 1 && (t257 == 0 && (t258 == 0 && (t259 == 0 && (t260 == 0 && (t261 == 0 && (t262 == 0))))))))))) = true then (if t263 = 0 then (if bt280.2 = 0 then (if (bt280.1.length : Int) = 3 then (if 0 < (bt280.1.length : Int) then (if ((rd_T23 bt280.1 0).f6) = 640 then (if 1 < (bt280.1.length : Int) then (if ((rd_T23 bt280.1 1).f6) = 640 then (if 2 < (bt280.1.length : Int) then (if ((rd_T23 bt280.1 2).f6) = 64 then (if bt299.2 = 2 then ((style_CheckDecl.f 256 0 0 0 0 0 0 0 0 0).bind fun t306 => (if t306 = 60 then ((style_Check.f 0 0 0 0 65 0 0 0 0).bind fun t307 => (some (t307 == 60))) else (some false))) else (some false)) else (some false)) else (none)) else (some false)) else (none)) else (some false)) else (none)) else (some false)) else (some false)) else (some false)) else (some false)) else (some false)) else (some false)))))) = some r := H
  have A3 := Aside0.mk A30
  clear A30
  replace H := Option.bind_eq_some_iff.mp H
  obtain ⟨⟨t265, t266, t267, t268, t269, t270, t271, t272, t273⟩, A40, H⟩ := H
  replace H : ((style_Styles.f k t265 t266 t267 t268 t269 t270 t271 t272 t273 (([(-1), 0, 0] : List Int)) (([(⟨64, (⟨0, 0, 0, 0, 0, 0, 640, 0, 0⟩ : S23)⟩ : S26), (⟨0, (⟨0, 0, 0, 0, 0, 0, 0, 0, 0⟩ : S23)⟩ : S26), (⟨64, (⟨0, 0, 0, 0, 0, 0, 64, 0, 0⟩ : S23)⟩ : S26)] : List (S26)))).bind fun bt280 => ((style_First.f).bind fun bt284 => ((style_Styles.f k bt284.1 bt284.2.1 bt284.2.2.1 bt284.2.2.2.1 bt284.2.2.2.2.1 bt284.2.2.2.2.2.1 bt284.2.2.2.2.2.2.1 bt284.2.2.2.2.2.2.2.1 bt284.2.2.2.2.2.2.2.2 (([0] : List Int)) (([(⟨0, (⟨0, 0, 0, 0, 0, 0, 0, 0, 0⟩ : S23)⟩ : S26)] : List (S26)))).bind fun bt299 => (if (t242 == 2 && (t243 == 0 && (t244 == 0 && (t245 == 0 && (t246 == 8 && (t247 == 0 && (t248 == 1024 && (t249 == 0 && (t250 == 0))))))))) = true then (if t251 = 0 then (if (t253 == 5 && ((t254 == 4 && (t255 == 0 && (t256 == 1 && (t257 == 0 && (t258 == 0 && (t259 == 0 && (t260 == 0 && (t261 == 0 && (t262 == 0))))))))))) = true then (if t263 = 0 then (if bt280.2 = 0 then (if (bt280.1.length : Int) = 3 then (if 0 < (bt280.1.length : Int) then (if ((rd_T23 bt280.1 0).f6) = 640 then (if 1 < (bt280.1.length : Int) then (if ((rd_T23 bt280.1 1).f6) = 640 then (if 2 < (bt280.1.length : Int) then (if ((rd_T23 bt280.1 2).f6) = 64 then (if bt299.2 = 2 then ((style_CheckDecl.f 256 0 0 0 0 0 0 0 0 0).bind fun t306 => (if t306 = 60 then ((style_Check.f 0 0 0 0 65 0 0 0 0).bind fun t307 => (some (t307 == 60))) else (some false))) else (some false)) else (some false)) else (none)) else (some false)) else (none)) else (some false)) else (none)) else (some false)) else (some false)) else (some false)) else (some false)) else (some false)) else (some false))))) = some r := H
  have A4 := Aside0.mk A40
  clear A40
  obtain ⟨y274, hy274⟩ : ∃ y_ : List Int, y_ = (([(-1), 0, 0] : List Int)) := ⟨_, rfl⟩
  replace H : ((style_Styles.f k t265 t266 t267 t268 t269 t270 t271 t272 t273 y274 (([(⟨64, (⟨0, 0, 0, 0, 0, 0, 640, 0, 0⟩ : S23)⟩ : S26), (⟨0, (⟨0, 0, 0, 0, 0, 0, 0, 0, 0⟩ : S23)⟩ : S26), (⟨64, (⟨0, 0, 0, 0, 0, 0, 64, 0, 0⟩ : S23)⟩ : S26)] : List (S26)))).bind fun bt280 => ((style_First.f).bind fun bt284 => ((style_Styles.f k bt284.1 bt284.2.1 bt284.2.2.1 bt284.2.2.2.1 bt284.2.2.2.2.1 bt284.2.2.2.2.2.1 bt284.2.2.2.2.2.2.1 bt284.2.2.2.2.2.2.2.1 bt284.2.2.2.2.2.2.2.2 (([0] : List Int)) (([(⟨0, (⟨0, 0, 0, 0, 0, 0, 0, 0, 0⟩ : S23)⟩ : S26)] : List (S26)))).bind fun bt299 => (if (t242 == 2 && (t243 == 0 && (t244 == 0 && (t245 == 0 && (t246 == 8 && (t247 == 0 && (t248 == 1024 && (t249 == 0 && (t250 == 0))))))))) = true then (if t251 = 0 then (if (t253 == 5 && ((t254 == 4 && (t255 == 0 && (t256 == 1 && (t257 == 0 && (t258 == 0 && (t259 == 0 && (t260 == 0 && (t261 == 0 && (t262 == 0))))))))))) = true then (if t263 = 0 then (if bt280.2 = 0 then (if (bt280.1.length : Int) = 3 then (if 0 < (bt280.1.length : Int) then (if ((rd_T23 bt280.1 0).f6) = 640 then (if 1 < (bt280.1.length : Int) then (if ((rd_T23 bt280.1 1).f6) = 640 then (if 2 < (bt280.1.length : Int) then (if ((rd_T23 bt280.1 2).f6) = 64 then (if bt299.2 = 2 then ((style_CheckDecl.f 256 0 0 0 0 0 0 0 0 0).bind fun t306 => (if t306 = 60 then ((style_Check.f 0 0 0 0 65 0 0 0 0).bind fun t307 => (some (t307 == 60))) else (some false))) else (some false)) else (some false)) else (none)) else (some false)) else (none)) else (some false)) else (none)) else (some false)) else (some false)) else (some false)) else (some false)) else (some false)) else (some false))))) = some r := by first | (rw [hy274]; with_reducible exact H) | (have H2_ := (Option.bind_some _ _).symm.trans H; rw [hy274]; with_reducible exact H2_) | (have H2_ := (Option.bind_some _ _).symm.trans H; with_reducible exact H2_) | with_reducible exact H | (rw [hy274]; exact H) | exact H
  have Ny274 := Aside0.mk hy274
  clear hy274
  obtain ⟨y277, hy277⟩ : ∃ y_ : List (S26), y_ = (([(⟨64, (⟨0, 0, 0, 0, 0, 0, 640, 0, 0⟩ : S23)⟩ : S26), (⟨0, (⟨0, 0, 0, 0, 0, 0, 0, 0, 0⟩ : S23)⟩ : S26), (⟨64, (⟨0, 0, 0, 0, 0, 0, 64, 0, 0⟩ : S23)⟩ : S26)] : List (S26))) := ⟨_, rfl⟩
  replace H : ((style_Styles.f k t265 t266 t267 t268 t269 t270 t271 t272 t273 y274 y277).bind fun bt280 => ((style_First.f).bind fun bt284 => ((style_Styles.f k bt284.1 bt284.2.1 bt284.2.2.1 bt284.2.2.2.1 bt284.2.2.2.2.1 bt284.2.2.2.2.2.1 bt284.2.2.2.2.2.2.1 bt284.2.2.2.2.2.2.2.1 bt284.2.2.2.2.2.2.2.2 (([0] : List Int)) (([(⟨0, (⟨0, 0, 0, 0, 0, 0, 0, 0, 0⟩ : S23)⟩ : S26)] : List (S26)))).bind fun bt299 => (if (t242 == 2 && (t243 == 0 && (t244 == 0 && (t245 == 0 && (t246 == 8 && (t247 == 0 && (t248 == 1024 && (t249 == 0 && (t250 == 0))))))))) = true then (if t251 = 0 then (if (t253 == 5 && ((t254 == 4 && (t255 == 0 && (t256 == 1 && (t257 == 0 && (t258 == 0 && (t259 == 0 && (t260 == 0 && (t261 == 0 && (t262 == 0))))))))))) = true then (if t263 = 0 then (if bt280.2 = 0 then (if (bt280.1.length : Int) = 3 then (if 0 < (bt280.1.length : Int) then (if ((rd_T23 bt280.1 0).f6) = 640 then (if 1 < (bt280.1.length : Int) then (if ((rd_T23 bt280.1 1).f6) = 640 then (if 2 < (bt280.1.length : Int) then (if ((rd_T23 bt280.1 2).f6) = 64 then (if bt299.2 = 2 then ((style_CheckDecl.f 256 0 0 0 0 0 0 0 0 0).bind fun t306 => (if t306 = 60 then ((style_Check.f 0 0 0 0 65 0 0 0 0).bind fun t307 => (some (t307 == 60))) else (some false))) else (some false)) else (some false)) else (none)) else (some false)) else (none)) else (some false)) else (none)) else (some false)) else (some false)) else (some false)) else (some false)) else (some false)) else (some false))))) = some r := by first | (rw [hy277]; with_reducible exact H) | (have H2_ := (Option.bind_some _ _).symm.trans H; rw [hy277]; with_reducible exact H2_) | (have H2_ := (Option.bind_some _ _).symm.trans H; with_reducible exact H2_) | with_reducible exact H | (rw [hy277]; exact H) | exact H
  have Ny277 := Aside0.mk hy277
  clear hy277
  replace H := Option.bind_eq_some_iff.mp H
  obtain ⟨⟨t280, t283⟩, A50, H⟩ := H
  replace H : ((style_First.f).bind fun bt284 => ((style_Styles.f k bt284.1 bt284.2.1 bt284.2.2.1 bt284.2.2.2.1 bt284.2.2.2.2.1 bt284.2.2.2.2.2.1 bt284.2.2.2.2.2.2.1 bt284.2.2.2.2.2.2.2.1 bt284.2.2.2.2.2.2.2.2 (([0] : List Int)) (([(⟨0, (⟨0, 0, 0, 0, 0, 0, 0, 0, 0⟩ : S23)⟩ : S26)] : List (S26)))).bind fun bt299 => (if (t242 == 2 && (t243 == 0 && (t244 == 0 && (t245 == 0 && (t246 == 8 && (t247 == 0 && (t248 == 1024 && (t249 == 0 && (t250 == 0))))))))) = true then (if t251 = 0 then (if (t253 == 5 && ((t254 == 4 && (t255 == 0 && (t256 == 1 && (t257 == 0 && (t258 == 0 && (t259 == 0 && (t260 == 0 && (t261 == 0 && (t262 == 0))))))))))) = true then (if t263 = 0 then (if t283 = 0 then (if (t280.length : Int) = 3 then (if 0 < (t280.length : Int) then (if ((rd_T23 t280 0).f6) = 640 then (if 1 < (t280.length : Int) then (if ((rd_T23 t280 1).f6) = 640 then (if 2 < (t280.length : Int) then (if ((rd_T23 t280 2).f6) = 64 then (if bt299.2 = 2 then ((style_CheckDecl.f 256 0 0 0 0 0 0 0 0 0).bind fun t306 => (if t306 = 60 then ((style_Check.f 0 0 0 0 65 0 0 0 0).bind fun t307 => (some (t307 == 60))) else (some false))) else (some false)) else (some false)) else (none)) else (some false)) else (none)) else (some false)) else (none)) else (some false)) else (some false)) else (some false)) else (some false)) else (some false)) else (some false)))) = some r := H
  have A5 := Aside0.mk A50
  clear A50
  replace H := Option.bind_eq_some_iff.mp H
  obtain ⟨⟨t284, t285, t286, t287, t288, t289, t290, t291, t292⟩, A60, H⟩ := H
  replace H : ((style_Styles.f k t284 t285 t286 t287 t288 t289 t290 t291 t292 (([0] : List Int)) (([(⟨0, (⟨0, 0, 0, 0, 0, 0, 0, 0, 0⟩ : S23)⟩ : S26)] : List (S26)))).bind fun bt299 => (if (t242 == 2 && (t243 == 0 && (t244 == 0 && (t245 == 0 && (t246 == 8 && (t247 == 0 && (t248 == 1024 && (t249 == 0 && (t250 == 0))))))))) = true then (if t251 = 0 then (if (t253 == 5 && ((t254 == 4 && (t255 == 0 && (t256 == 1 && (t257 == 0 && (t258 == 0 && (t259 == 0 && (t260 == 0 && (t261 == 0 && (t262 == 0))))))))))) = true then (if t263 = 0 then (if t283 = 0 then (if (t280.length : Int) = 3 then (if 0 < (t280.length : Int) then (if ((rd_T23 t280 0).f6) = 640 then (if 1 < (t280.length : Int) then (if ((rd_T23 t280 1).f6) = 640 then (if 2 < (t280.length : Int) then (if ((rd_T23 t280 2).f6) = 64 then (if bt299.2 = 2 then ((style_CheckDecl.f 256 0 0 0 0 0 0 0 0 0).bind fun t306 => (if t306 = 60 then ((style_Check.f 0 0 0 0 65 0 0 0 0).bind fun t307 => (some (t307 == 60))) else (some false))) else (some false)) else (some false)) else (none)) else (some false)) else (none)) else (some false)) else (none)) else (some false)) else (some false)) else (some false)) else (some false)) else (some false)) else (some false))) = some r := H
  have A6 := Aside0.mk A60
  clear A60
  obtain ⟨y293, hy293⟩ : ∃ y_ : List Int, y_ = (([0] : List Int)) := ⟨_, rfl⟩
  replace H : ((style_Styles.f k t284 t285 t286 t287 t288 t289 t290 t291 t292 y293 (([(⟨0, (⟨0, 0, 0, 0, 0, 0, 0, 0, 0⟩ : S23)⟩ : S26)] : List (S26)))).bind fun bt299 => (if (t242 == 2 && (t243 == 0 && (t244 == 0 && (t245 == 0 && (t246 == 8 && (t247 == 0 && (t248 == 1024 && (t249 == 0 && (t250 == 0))))))))) = true then (if t251 = 0 then (if (t253 == 5 && ((t254 == 4 && (t255 == 0 && (t256 == 1 && (t257 == 0 && (t258 == 0 && (t259 == 0 && (t260 == 0 && (t261 == 0 && (t262 == 0))))))))))) = true then (if t263 = 0 then (if t283 = 0 then (if (t280.length : Int) = 3 then (if 0 < (t280.length : Int) then (if ((rd_T23 t280 0).f6) = 640 then (if 1 < (t280.length : Int) then (if ((rd_T23 t280 1).f6) = 640 then (if 2 < (t280.length : Int) then (if ((rd_T23 t280 2).f6) = 64 then (if bt299.2 = 2 then ((style_CheckDecl.f 256 0 0 0 0 0 0 0 0 0).bind fun t306 => (if t306 = 60 then ((style_Check.f 0 0 0 0 65 0 0 0 0).bind fun t307 => (some (t307 == 60))) else (some false))) else (some false)) else (some false)) else (none)) else (some false)) else (none)) else (some false)) else (none)) else (some false)) else (some false)) else (some false)) else (some false)) else (some false)) else (some false))) = some r := by first | (rw [hy293]; with_reducible exact H) | (have H2_ := (Option.bind_some _ _).symm.trans H; rw [hy293]; with_reducible exact H2_) | (have H2_ := (Option.bind_some _ _).symm.trans H; with_reducible exact H2_) | with_reducible exact H | (rw [hy293]; exact H) | exact H
  have Ny293 := Aside0.mk hy293
  clear hy293
  obtain ⟨y296, hy296⟩ : ∃ y_ : List (S26), y_ = (([(⟨0, (⟨0, 0, 0, 0, 0, 0, 0, 0, 0⟩ : S23)⟩ : S26)] : List (S26))) := ⟨_, rfl⟩
  replace H : ((style_Styles.f k t284 t285 t286 t287 t288 t289 t290 t291 t292 y293 y296).bind fun bt299 => (if (t242 == 2 && (t243 == 0 && (t244 == 0 && (t245 == 0 && (t246 == 8 && (t247 == 0 && (t248 == 1024 && (t249 == 0 && (t250 == 0))))))))) = true then (if t251 = 0 then (if (t253 == 5 && ((t254 == 4 && (t255 == 0 && (t256 == 1 && (t257 == 0 && (t258 == 0 && (t259 == 0 && (t260 == 0 && (t261 == 0 && (t262 == 0))))))))))) = true then (if t263 = 0 then (if t283 = 0 then (if (t280.length : Int) = 3 then (if 0 < (t280.length : Int) then (if ((rd_T23 t280 0).f6) = 640 then (if 1 < (t280.length : Int) then (if ((rd_T23 t280 1).f6) = 640 then (if 2 < (t280.length : Int) then (if ((rd_T23 t280 2).f6) = 64 then (if bt299.2 = 2 then ((style_CheckDecl.f 256 0 0 0 0 0 0 0 0 0).bind fun t306 => (if t306 = 60 then ((style_Check.f 0 0 0 0 65 0 0 0 0).bind fun t307 => (some (t307 == 60))) else (some false))) else (some false)) else (some false)) else (none)) else (some false)) else (none)) else (some false)) else (none)) else (some false)) else (some false)) else (some false)) else (some false)) else (some false)) else (some false))) = some r := by first | (rw [hy296]; with_reducible exact H) | (have H2_ := (Option.bind_some _ _).symm.trans H; rw [hy296]; with_reducible exact H2_) | (have H2_ := (Option.bind_some _ _).symm.trans H; with_reducible exact H2_) | with_reducible exact H | (rw [hy296]; exact H) | exact H
  have Ny296 := Aside0.mk hy296
  clear hy296
  replace H := Option.bind_eq_some_iff.mp H
  obtain ⟨⟨t299, t302⟩, A70, H⟩ := H
  replace H : (if (t242 == 2 && (t243 == 0 && (t244 == 0 && (t245 == 0 && (t246 == 8 && (t247 == 0 && (t248 == 1024 && (t249 == 0 && (t250 == 0))))))))) = true then (if t251 = 0 then (if (t253 == 5 && ((t254 == 4 && (t255 == 0 && (t256 == 1 && (t257 == 0 && (t258 == 0 && (t259 == 0 && (t260 == 0 && (t261 == 0 && (t262 == 0))))))))))) = true then (if t263 = 0 then (if t283 = 0 then (if (t280.length : Int) = 3 then (if 0 < (t280.length : Int) then (if ((rd_T23 t280 0).f6) = 640 then (if 1 < (t280.length : Int) then (if ((rd_T23 t280 1).f6) = 640 then (if 2 < (t280.length : Int) then (if ((rd_T23 t280 2).f6) = 64 then (if t302 = 2 then ((style_CheckDecl.f 256 0 0 0 0 0 0 0 0 0).bind fun t306 => (if t306 = 60 then ((style_Check.f 0 0 0 0 65 0 0 0 0).bind fun t307 => (some (t307 == 60))) else (some false))) else (some false)) else (some false)) else (none)) else (some false)) else (none)) else (some false)) else (none)) else (some false)) else (some false)) else (some false)) else (some false)) else (some false)) else (some false)) = some r := H
  have A7 := Aside0.mk A70
  clear A70
  by_cases c8 : (t242 == 2 && (t243 == 0 && (t244 == 0 && (t245 == 0 && (t246 == 8 && (t247 == 0 && (t248 == 1024 && (t249 == 0 && (t250 == 0))))))))) = true
  · rw [if_pos c8] at H
    have c8b0 : (t242 == 2 && (t243 == 0 && (t244 == 0 && (t245 == 0 && (t246 == 8 && (t247 == 0 && (t248 == 1024 && (t249 == 0 && (t250 == 0))))))))) = true := c8
    (try (have c8b1 : decide (t242 = 2 && (t243 == 0 && (t244 == 0 && (t245 == 0 && (t246 == 8 && (t247 == 0 && (t248 == 1024 && (t249 == 0 && (t250 == 0))))))))) = true := by simpa using c8))
    (try (have c8b2 : (t242 == 2 && (t243 == 0 && (t244 == 0 && (t245 == 0 && (t246 == 8 && (t247 == 0 && (t248 == 1024 && (t249 == 0 && (t250 == 0))))))))) = true := by simpa using c8))
    clear c8
    by_cases c9 : t251 = 0
    · rw [if_pos c9] at H
      have c9b0 : (t251 == 0) = true := beq_iff_eq.mpr c9
      have c9b1 : (t251 != 0) = false := bne_eq_false_iff_eq.mpr c9
      clear c9
      by_cases c10 : (t253 == 5 && ((t254 == 4 && (t255 == 0 && (t256 == 1 && (t257 == 0 && (t258 == 0 && (t259 == 0 && (t260 == 0 && (t261 == 0 && (t262 == 0))))))))))) = true
      · rw [if_pos c10] at H
        have c10b0 : (t253 == 5 && ((t254 == 4 && (t255 == 0 && (t256 == 1 && (t257 == 0 && (t258 == 0 && (t259 == 0 && (t260 == 0 && (t261 == 0 && (t262 == 0))))))))))) = true := c10
        (try (have c10b1 : decide (t253 = 5 && ((t254 == 4 && (t255 == 0 && (t256 == 1 && (t257 == 0 && (t258 == 0 && (t259 == 0 && (t260 == 0 && (t261 == 0 && (t262 == 0))))))))))) = true := by simpa using c10))
        (try (have c10b2 : (t253 == 5 && ((t254 == 4 && (t255 == 0 && (t256 == 1 && (t257 == 0 && (t258 == 0 && (t259 == 0 && (t260 == 0 && (t261 == 0 && (t262 == 0))))))))))) = true := by simpa using c10))
        clear c10
        by_cases c11 : t263 = 0
        · rw [if_pos c11] at H
          have c11b0 : (t263 == 0) = true := beq_iff_eq.mpr c11
          have c11b1 : (t263 != 0) = false := bne_eq_false_iff_eq.mpr c11
          clear c11
          by_cases c12 : t283 = 0
          · rw [if_pos c12] at H
            have c12b0 : (t283 == 0) = true := beq_iff_eq.mpr c12
            have c12b1 : (t283 != 0) = false := bne_eq_false_iff_eq.mpr c12
            clear c12
            by_cases c13 : (t280.length : Int) = 3
            · rw [if_pos c13] at H
              have c13b0 : ((t280.length : Int) == 3) = true := beq_iff_eq.mpr c13
              have c13b1 : ((t280.length : Int) != 3) = false := bne_eq_false_iff_eq.mpr c13
              clear c13
              by_cases c14 : 0 < (t280.length : Int)
              · rw [if_pos c14] at H
                have c14b0 : decide (0 < (t280.length : Int)) = true := decide_eq_true c14
                have c14b1 : decide (0 < t280.length) = true := decide_eq_true (by omega)
                clear c14
                by_cases c15 : ((rd_T23 t280 0).f6) = 640
                · rw [if_pos c15] at H
                  have c15b0 : (((rd_T23 t280 0).f6) == 640) = true := beq_iff_eq.mpr c15
                  have c15b1 : (((rd_T23 t280 0).f6) != 640) = false := bne_eq_false_iff_eq.mpr c15
                  clear c15
                  by_cases c16 : 1 < (t280.length : Int)
                  · rw [if_pos c16] at H
                    have c16b0 : decide (1 < (t280.length : Int)) = true := decide_eq_true c16
                    have c16b1 : decide (1 < t280.length) = true := decide_eq_true (by omega)
                    clear c16
                    by_cases c17 : ((rd_T23 t280 1).f6) = 640
                    · rw [if_pos c17] at H
                      have c17b0 : (((rd_T23 t280 1).f6) == 640) = true := beq_iff_eq.mpr c17
                      have c17b1 : (((rd_T23 t280 1).f6) != 640) = false := bne_eq_false_iff_eq.mpr c17
                      clear c17
                      by_cases c18 : 2 < (t280.length : Int)
                      · rw [if_pos c18] at H
                        have c18b0 : decide (2 < (t280.length : Int)) = true := decide_eq_true c18
                        have c18b1 : decide (2 < t280.length) = true := decide_eq_true (by omega)
                        clear c18
                        by_cases c19 : ((rd_T23 t280 2).f6) = 64
                        · rw [if_pos c19] at H
                          have c19b0 : (((rd_T23 t280 2).f6) == 64) = true := beq_iff_eq.mpr c19
                          have c19b1 : (((rd_T23 t280 2).f6) != 64) = false := bne_eq_false_iff_eq.mpr c19
                          clear c19
                          by_cases c20 : t302 = 2
                          · rw [if_pos c20] at H
                            have c20b0 : (t302 == 2) = true := beq_iff_eq.mpr c20
                            have c20b1 : (t302 != 2) = false := bne_eq_false_iff_eq.mpr c20
                            clear c20
                            replace H := Option.bind_eq_some_iff.mp H
                            obtain ⟨t306, A210, H⟩ := H
                            replace H : (if t306 = 60 then ((style_Check.f 0 0 0 0 65 0 0 0 0).bind fun t307 => (some (t307 == 60))) else (some false)) = some r := H
                            have A21 := Aside0.mk A210
                            clear A210
                            by_cases c22 : t306 = 60
                            · rw [if_pos c22] at H
                              have c22b0 : (t306 == 60) = true := beq_iff_eq.mpr c22
                              have c22b1 : (t306 != 60) = false := bne_eq_false_iff_eq.mpr c22
                              clear c22
                              replace H := Option.bind_eq_some_iff.mp H
                              obtain ⟨t307, A230, H⟩ := H
                              replace H : (some (t307 == 60)) = some r := H
                              have A23 := Aside0.mk A230
                              clear A230
                              obtain rfl := Option.some.inj H
                              go_enter Try.func22, Try.ntmps22
                              go_wp2_with (first | ((with_reducible refine gate_callee (f := 20) rfl ?_); refine goesB (some 10) rfl rfl Try.func20 #[] rfl ?_; (with_reducible refine (style_First.calls  t233 t234 t235 t236 t237 t238 t239 t240 t241 _ A1.out).mono ?_); rintro e w24 ⟨rfl, hb⟩; refine ⟨_, rfl, ?_⟩; replace HB := bh HB hb; (try clear hb); (try clear hb2); (try clear hk); (try clear hi)) | ((with_reducible refine gate_callee (f := 12) rfl ?_); refine goesB (some 13) rfl rfl Try.func12 #[.agg #[.int .u8 t233, .int .u8 t234, .int .u8 t235, .int .u8 t236, .int .i64 t237, .int .i64 t238, .int .i64 t239, .int .u8 t240, .int .i64 t241], .agg #[.int .u16 1, .int .u8 2, .int .u8 0, .int .u8 0, .int .u8 0, .int .i64 0, .int .i64 0, .int .i64 0, .int .u8 0, .int .i64 0]] rfl ?_; (with_reducible refine (style_Resolve.calls t233 t234 t235 t236 t237 t238 t239 t240 t241 1 2 0 0 0 0 0 0 0 0 t242 t243 t244 t245 t246 t247 t248 t249 t250 t251 _ A2.out).mono ?_); rintro e w25 ⟨rfl, hb⟩; refine ⟨_, rfl, ?_⟩; replace HB := bh HB hb; (try clear hb); (try clear hb2); (try clear hk); (try clear hi)) | ((with_reducible refine gate_dst (N := 1) rfl ?_); (try (refine gate_guard (by rfl) ?_; dsimp only)); refine box_event ?hg (N := 1) ?hd (cs := #[.int .u8 0, .int .u8 0, .int .u8 0, .int .u8 0, .int .i64 0, .int .i64 0, .int .i64 0, .int .u8 0, .int .i64 0]) (t := 23) ?hr ?_; (case hd => rfl); (case hg => rfl); (case hr => first | (go_simp; done) | (go_simp; rfl)); intro gb252 hg w26 hbox hb; have BK252 := Aside0.mk (hbox); have GW252 := bge HB hg; have GE252 := bge HB hg; replace HB := bh HB hb; clear hb hbox hg; obtain ⟨hcz27_0, hcz27_1, hcz27_2, hcz27_3, hcz27_4, hcz27_5, hcz27_6, hcz27_7, hcz27_8⟩ := cz9 BK252; obtain ⟨hfz27_0, hfz27_1, hfz27_2, hfz27_3, hfz27_4, hfz27_5, hfz27_6, hfz27_7, hfz27_8⟩ := fz9 BK252) | ((with_reducible refine gate_callee (f := 14) rfl ?_); refine goesB (some 21) rfl rfl Try.func14 #[.agg #[.int .u16 5, .int .u8 1, .int .u8 0, .int .u8 1, .int .u8 0, .int .i64 0, .int .i64 0, .int .i64 0, .int .u8 0, .int .i64 0], .agg #[.int .u16 1, .int .u8 4, .int .u8 0, .int .u8 0, .int .u8 0, .int .i64 0, .int .i64 0, .int .i64 0, .int .u8 0, .int .i64 0]] rfl ?_; (with_reducible refine (style_Merge.calls 5 1 0 1 0 0 0 0 0 0 1 4 0 0 0 0 0 0 0 0 t253 t254 t255 t256 t257 t258 t259 t260 t261 t262 t263 _ A3.out).mono ?_); rintro e w28 ⟨rfl, hb⟩; refine ⟨_, rfl, ?_⟩; replace BK252 := Aside0.mk (blk_below (o := .cells #[.int .u8 t242, .int .u8 t243, .int .u8 t244, .int .u8 t245, .int .i64 t246, .int .i64 t247, .int .i64 t248, .int .u8 t249, .int .i64 t250] 23 (0, 0)) (bp BK252) hb); replace HB := bh HB hb; (try clear hb); (try clear hb2); (try clear hk); (try clear hi)) | ((with_reducible refine gate_dst (N := 3) rfl ?_); (try (refine gate_guard (by rfl) ?_; dsimp only)); refine box_event ?hg (N := 3) ?hd (cs := #[.int .u16 0, .int .u8 0, .int .u8 0, .int .u8 0, .int .u8 0, .int .i64 0, .int .i64 0, .int .i64 0, .int .u8 0, .int .i64 0]) (t := 26) ?hr ?_; (case hd => rfl); (case hg => rfl); (case hr => first | (go_simp; done) | (go_simp; rfl)); intro gb264 hg w29 hbox hb; have BK264 := Aside0.mk (hbox); have GW264 := bge HB hg; have GE264 := bge HB hg; replace HB := bh HB hb; have NB252_264 := nbl BK252 hg; have NB264_252 := nbg BK252 hg; replace BK252 := bb BK252 hb; clear hb hbox hg; have hnb30 := NB264_252.out; have hnc30 := NB252_264.out; obtain ⟨hcz31_0, hcz31_1, hcz31_2, hcz31_3, hcz31_4, hcz31_5, hcz31_6, hcz31_7, hcz31_8, hcz31_9⟩ := cz10 BK264; obtain ⟨hfz31_0, hfz31_1, hfz31_2, hfz31_3, hfz31_4, hfz31_5, hfz31_6, hfz31_7, hfz31_8, hfz31_9⟩ := fz10 BK264) | ((with_reducible refine gate_callee (f := 20) rfl ?_); refine goesB (some 25) rfl rfl Try.func20 #[] rfl ?_; (with_reducible refine (style_First.calls  t265 t266 t267 t268 t269 t270 t271 t272 t273 _ A4.out).mono ?_); rintro e w32 ⟨rfl, hb⟩; refine ⟨_, rfl, ?_⟩; replace BK252 := bb BK252 hb; replace BK264 := Aside0.mk (blk_below (o := .cells #[.int .u16 t253, .int .u8 t254, .int .u8 t255, .int .u8 t256, .int .u8 t257, .int .i64 t258, .int .i64 t259, .int .i64 t260, .int .u8 t261, .int .i64 t262] 26 (0, 0)) (bp BK264) hb); replace HB := bh HB hb; (try clear hb); (try clear hb2); (try clear hk); (try clear hi)) | ((with_reducible refine gate_dst (N := 26) rfl ?_); (try (refine gate_guard (by rfl) ?_; dsimp only)); refine Kd.R_lit (Kd.int .i64) _ 3 ?hg (N := 26) ?hd (xs := ([(-1), 0, 0] : List Int)) (inner := [.int .i64 (-1), .int .i64 0, .int .i64 0]) (ok := fun _ => True) (okp := fun _ => True) ?hr ?hp (fun _ hk => hk) trivial (Below.refl _ _) (Nat.le_refl _) (by simp) ?_; (case hd => rfl); (case hg => rfl); (case hr => first | (go_simp; done) | (go_simp; rfl)); (case hp => exact (Reps.one (show Kd.M (Kd.int .i64) _ _ _ (-1) [.int .i64 (-1)] from rfl) (Reps.one (show Kd.M (Kd.int .i64) _ _ _ 0 [.int .i64 0] from rfl) (Reps.one (show Kd.M (Kd.int .i64) _ _ _ 0 [.int .i64 0] from rfl) (Reps.none _ _))))); intro v275 w33 ho34 hb hg_ hnew_; clear hg_ hnew_; (first | rw [← Ny274.out] at ho34 | (simp only [Int.reduceToNat] at ho34; rw [← Ny274.out] at ho34)); have HO276 := Aside0.mk (Kd.R_lower ho34 (below_size (bw HB))); replace BK252 := bb BK252 hb; replace BK264 := bb BK264 hb; replace HB := bh HB hb; clear hb ho34) | ((with_reducible refine gate_dst (N := 32) rfl ?_); (try (refine gate_guard (by rfl) ?_; dsimp only)); refine Kd.R_lit k26 _ 26 ?hg (N := 32) ?hd (xs := ([(⟨64, (⟨0, 0, 0, 0, 0, 0, 640, 0, 0⟩ : S23)⟩ : S26), (⟨0, (⟨0, 0, 0, 0, 0, 0, 0, 0, 0⟩ : S23)⟩ : S26), (⟨64, (⟨0, 0, 0, 0, 0, 0, 64, 0, 0⟩ : S23)⟩ : S26)] : List (S26))) (inner := [.int .u16 64, .int .u8 0, .int .u8 0, .int .u8 0, .int .u8 0, .int .i64 0, .int .i64 0, .int .i64 640, .int .u8 0, .int .i64 0, .int .u16 0, .int .u8 0, .int .u8 0, .int .u8 0, .int .u8 0, .int .i64 0, .int .i64 0, .int .i64 0, .int .u8 0, .int .i64 0, .int .u16 64, .int .u8 0, .int .u8 0, .int .u8 0, .int .u8 0, .int .i64 0, .int .i64 0, .int .i64 64, .int .u8 0, .int .i64 0]) (ok := fun _ => True) (okp := fun _ => True) ?hr ?hp (fun _ hk => hk) trivial (Below.refl _ _) (Nat.le_refl _) (by simp) ?_; (case hd => rfl); (case hg => rfl); (case hr => first | (go_simp; done) | (go_simp; rfl)); (case hp => exact (Reps.c10 (show Kd.M k26 _ _ _ (⟨64, (⟨0, 0, 0, 0, 0, 0, 640, 0, 0⟩ : S23)⟩ : S26) [.int .u16 64, .int .u8 0, .int .u8 0, .int .u8 0, .int .u8 0, .int .i64 0, .int .i64 0, .int .i64 640, .int .u8 0, .int .i64 0] from (k26_mkM _ _ _ (⟨64, (⟨0, 0, 0, 0, 0, 0, 640, 0, 0⟩ : S23)⟩ : S26) )) (Reps.c10 (show Kd.M k26 _ _ _ (⟨0, (⟨0, 0, 0, 0, 0, 0, 0, 0, 0⟩ : S23)⟩ : S26) [.int .u16 0, .int .u8 0, .int .u8 0, .int .u8 0, .int .u8 0, .int .i64 0, .int .i64 0, .int .i64 0, .int .u8 0, .int .i64 0] from (k26_mkM _ _ _ (⟨0, (⟨0, 0, 0, 0, 0, 0, 0, 0, 0⟩ : S23)⟩ : S26) )) (Reps.c10 (show Kd.M k26 _ _ _ (⟨64, (⟨0, 0, 0, 0, 0, 0, 64, 0, 0⟩ : S23)⟩ : S26) [.int .u16 64, .int .u8 0, .int .u8 0, .int .u8 0, .int .u8 0, .int .i64 0, .int .i64 0, .int .i64 64, .int .u8 0, .int .i64 0] from (k26_mkM _ _ _ (⟨64, (⟨0, 0, 0, 0, 0, 0, 64, 0, 0⟩ : S23)⟩ : S26) )) (Reps.none _ _))))); intro v278 w35 ho36 hb hg_ hnew_; clear hg_ hnew_; (first | rw [← Ny277.out] at ho36 | (simp only [Int.reduceToNat] at ho36; rw [← Ny277.out] at ho36)); replace HO276 := Aside0.mk (Kd.R_below (rx HO276) hb); have HO279 := Aside0.mk (Kd.R_lower (Kd.R_newB ho36 (bx BK264)) (below_size (bw HB))); replace BK252 := bb BK252 hb; replace BK264 := bb BK264 hb; replace HB := bh HB hb; clear hb ho36; obtain ⟨Ao37, co37, eo37⟩ := Kd.R_slice HO276.out; subst eo37; obtain ⟨Ao38, co38, eo38⟩ := Kd.R_slice HO279.out; subst eo38) | ((with_reducible refine gate_callee (f := 23) rfl ?_); refine goesB (some 33) rfl rfl Try.func23 #[.agg #[.int .u8 t265, .int .u8 t266, .int .u8 t267, .int .u8 t268, .int .i64 t269, .int .i64 t270, .int .i64 t271, .int .u8 t272, .int .i64 t273], .slice Ao37 y274.length co37, .slice Ao38 y277.length co38] rfl ?_; (with_reducible refine (style_Styles.calls k t265 t266 t267 t268 t269 t270 t271 t272 t273 _ _ y274 _ _ y277 t280 t283 _ ?side1 ?side2 ?side3 ?side4 A5.out).mono ?_); (case side1 => repeat (first | exact (Kd.R_reads' HO276.out).2.2 | (with_reducible refine Kd.C_alloc ?_ _) | (with_reducible refine Kd.C_drewN ?_ _) | (with_reducible refine Kd.C_drew ?_))); (case side2 => exact (Kd.R_reads' HO276.out).2.1); (case side3 => repeat (first | exact (Kd.R_reads' HO279.out).2.2 | (with_reducible refine Kd.C_alloc ?_ _) | (with_reducible refine Kd.C_drewN ?_ _) | (with_reducible refine Kd.C_drew ?_))); (case side4 => exact (Kd.R_reads' HO279.out).2.1); rintro e w39 ⟨v281, rfl, ho0, hb⟩; refine ⟨_, rfl, ?_⟩; replace HO276 := Aside0.mk (Kd.R_below (rx HO276) hb); replace HO279 := Aside0.mk (Kd.R_below (rx HO279) hb); have HO282 := Aside0.mk (Kd.R_lower (Kd.R_newB ho0 (bx BK252)) (below_size (bw HB))); replace BK252 := bb BK252 hb; replace BK264 := bb BK264 hb; replace HB := bh HB hb; (try clear hb); (try clear hb2); (try clear hk); (try clear hi); (try clear ho0)) | ((with_reducible refine gate_callee (f := 20) rfl ?_); refine goesB (some 37) rfl rfl Try.func20 #[] rfl ?_; (with_reducible refine (style_First.calls  t284 t285 t286 t287 t288 t289 t290 t291 t292 _ A6.out).mono ?_); rintro e w40 ⟨rfl, hb⟩; refine ⟨_, rfl, ?_⟩; replace HO276 := Aside0.mk (Kd.R_below (rx HO276) hb); replace HO279 := Aside0.mk (Kd.R_below (rx HO279) hb); replace HO282 := Aside0.mk (Kd.R_below (rx HO282) hb); replace BK252 := bb BK252 hb; replace BK264 := bb BK264 hb; replace HB := bh HB hb; (try clear hb); (try clear hb2); (try clear hk); (try clear hi)) | ((with_reducible refine gate_dst (N := 38) rfl ?_); (try (refine gate_guard (by rfl) ?_; dsimp only)); refine Kd.R_lit (Kd.int .i64) _ 3 ?hg (N := 38) ?hd (xs := ([0] : List Int)) (inner := [.int .i64 0]) (ok := fun _ => True) (okp := fun _ => True) ?hr ?hp (fun _ hk => hk) trivial (Below.refl _ _) (Nat.le_refl _) (by simp) ?_; (case hd => rfl); (case hg => rfl); (case hr => first | (go_simp; done) | (go_simp; rfl)); (case hp => exact (Reps.one (show Kd.M (Kd.int .i64) _ _ _ 0 [.int .i64 0] from rfl) (Reps.none _ _))); intro v294 w41 ho42 hb hg_ hnew_; clear hg_ hnew_; (first | rw [← Ny293.out] at ho42 | (simp only [Int.reduceToNat] at ho42; rw [← Ny293.out] at ho42)); replace HO279 := Aside0.mk (Kd.R_below (rx HO279) hb); replace HO282 := Aside0.mk (Kd.R_below (rx HO282) hb); have HO295 := Aside0.mk (Kd.R_lower (Kd.R_new' ho42 (Kd.R_lt (rx HO276))) (below_size (bw HB))); replace HO276 := Aside0.mk (Kd.R_elder' (rx HO276) (Kd.R_base ho42) hb); replace BK252 := bb BK252 hb; replace BK264 := bb BK264 hb; replace HB := bh HB hb; clear hb ho42) | ((with_reducible refine gate_dst (N := 40) rfl ?_); (try (refine gate_guard (by rfl) ?_; dsimp only)); refine Kd.R_lit k26 _ 26 ?hg (N := 40) ?hd (xs := ([(⟨0, (⟨0, 0, 0, 0, 0, 0, 0, 0, 0⟩ : S23)⟩ : S26)] : List (S26))) (inner := [.int .u16 0, .int .u8 0, .int .u8 0, .int .u8 0, .int .u8 0, .int .i64 0, .int .i64 0, .int .i64 0, .int .u8 0, .int .i64 0]) (ok := fun _ => True) (okp := fun _ => True) ?hr ?hp (fun _ hk => hk) trivial (Below.refl _ _) (Nat.le_refl _) (by simp) ?_; (case hd => rfl); (case hg => rfl); (case hr => first | (go_simp; done) | (go_simp; rfl)); (case hp => exact (Reps.c10 (show Kd.M k26 _ _ _ (⟨0, (⟨0, 0, 0, 0, 0, 0, 0, 0, 0⟩ : S23)⟩ : S26) [.int .u16 0, .int .u8 0, .int .u8 0, .int .u8 0, .int .u8 0, .int .i64 0, .int .i64 0, .int .i64 0, .int .u8 0, .int .i64 0] from (k26_mkM _ _ _ (⟨0, (⟨0, 0, 0, 0, 0, 0, 0, 0, 0⟩ : S23)⟩ : S26) )) (Reps.none _ _))); intro v297 w43 ho44 hb hg_ hnew_; clear hg_ hnew_; (first | rw [← Ny296.out] at ho44 | (simp only [Int.reduceToNat] at ho44; rw [← Ny296.out] at ho44)); replace HO276 := Aside0.mk (Kd.R_below (rx HO276) hb); replace HO282 := Aside0.mk (Kd.R_below (rx HO282) hb); replace HO295 := Aside0.mk (Kd.R_below (rx HO295) hb); have HO298 := Aside0.mk (Kd.R_lower (Kd.R_newB (Kd.R_new' ho44 (Kd.R_lt (rx HO279))) (bx BK264)) (below_size (bw HB))); replace HO279 := Aside0.mk (Kd.R_elder' (rx HO279) (Kd.R_base ho44) hb); replace BK252 := bb BK252 hb; replace BK264 := bb BK264 hb; replace HB := bh HB hb; clear hb ho44; obtain ⟨Ao45, co45, eo45⟩ := Kd.R_slice HO295.out; subst eo45; obtain ⟨Ao46, co46, eo46⟩ := Kd.R_slice HO298.out; subst eo46) | ((with_reducible refine gate_callee (f := 23) rfl ?_); refine goesB (some 41) rfl rfl Try.func23 #[.agg #[.int .u8 t284, .int .u8 t285, .int .u8 t286, .int .u8 t287, .int .i64 t288, .int .i64 t289, .int .i64 t290, .int .u8 t291, .int .i64 t292], .slice Ao45 y293.length co45, .slice Ao46 y296.length co46] rfl ?_; (with_reducible refine (style_Styles.calls k t284 t285 t286 t287 t288 t289 t290 t291 t292 _ _ y293 _ _ y296 t299 t302 _ ?side1 ?side2 ?side3 ?side4 A7.out).mono ?_); (case side1 => repeat (first | exact (Kd.R_reads' HO295.out).2.2 | (with_reducible refine Kd.C_alloc ?_ _) | (with_reducible refine Kd.C_drewN ?_ _) | (with_reducible refine Kd.C_drew ?_))); (case side2 => exact (Kd.R_reads' HO295.out).2.1); (case side3 => repeat (first | exact (Kd.R_reads' HO298.out).2.2 | (with_reducible refine Kd.C_alloc ?_ _) | (with_reducible refine Kd.C_drewN ?_ _) | (with_reducible refine Kd.C_drew ?_))); (case side4 => exact (Kd.R_reads' HO298.out).2.1); rintro e w47 ⟨v300, rfl, ho0, hb⟩; refine ⟨_, rfl, ?_⟩; replace HO276 := Aside0.mk (Kd.R_below (rx HO276) hb); replace HO279 := Aside0.mk (Kd.R_below (rx HO279) hb); replace HO295 := Aside0.mk (Kd.R_below (rx HO295) hb); replace HO298 := Aside0.mk (Kd.R_below (rx HO298) hb); have HO301 := Aside0.mk (Kd.R_lower (Kd.R_newB (Kd.R_new' ho0 (Kd.R_lt (rx HO282))) (bx BK252)) (below_size (bw HB))); replace HO282 := Aside0.mk (Kd.R_elder' (rx HO282) (Kd.R_base ho0) hb); replace BK252 := bb BK252 hb; replace BK264 := bb BK264 hb; replace HB := bh HB hb; (try clear hb); (try clear hb2); (try clear hk); (try clear hi); (try clear ho0); obtain ⟨hcz48_0, hcz48_1, hcz48_2, hcz48_3, hcz48_4, hcz48_5, hcz48_6, hcz48_7, hcz48_8⟩ := cz9 BK252; obtain ⟨hfz48_0, hfz48_1, hfz48_2, hfz48_3, hfz48_4, hfz48_5, hfz48_6, hfz48_7, hfz48_8⟩ := fz9 BK252; obtain ⟨hcz49_0, hcz49_1, hcz49_2, hcz49_3, hcz49_4, hcz49_5, hcz49_6, hcz49_7, hcz49_8, hcz49_9⟩ := cz10 BK264; obtain ⟨hfz49_0, hfz49_1, hfz49_2, hfz49_3, hfz49_4, hfz49_5, hfz49_6, hfz49_7, hfz49_8, hfz49_9⟩ := fz10 BK264; obtain ⟨Ao50, co50, eo50⟩ := Kd.R_slice HO282.out; subst eo50; have p303 : 0 ≤ (0 : Int) := (by omega); have q303 : 0 < (t280.length : Int) := of_decide_eq_true (by first | (with_reducible assumption) | assumption); obtain ⟨ad303, e303, hx303_0, hx303_1, hx303_2, hx303_3, hx303_4, hx303_5, hx303_6, hx303_7, hx303_8⟩ := at_T23 (Kd.R_reads' HO282.out).2.2 0 p303 q303; cases e303; have qi303 : (0 < t280.length) = True := eq_true (by omega); (try rw [show ((0 : Int)).toNat = 0 from rfl] at hx303_0); (try rw [show 0 * 9 = 0 from rfl] at hx303_0); (try rw [Addr.add_zero'] at hx303_0); (try rw [show ((0 : Int)).toNat = 0 from rfl] at hx303_1); (try rw [show 0 * 9 = 0 from rfl] at hx303_1); (try rw [Addr.add_zero'] at hx303_1); (try rw [show ((0 : Int)).toNat = 0 from rfl] at hx303_2); (try rw [show 0 * 9 = 0 from rfl] at hx303_2); (try rw [Addr.add_zero'] at hx303_2); (try rw [show ((0 : Int)).toNat = 0 from rfl] at hx303_3); (try rw [show 0 * 9 = 0 from rfl] at hx303_3); (try rw [Addr.add_zero'] at hx303_3); (try rw [show ((0 : Int)).toNat = 0 from rfl] at hx303_4); (try rw [show 0 * 9 = 0 from rfl] at hx303_4); (try rw [Addr.add_zero'] at hx303_4); (try rw [show ((0 : Int)).toNat = 0 from rfl] at hx303_5); (try rw [show 0 * 9 = 0 from rfl] at hx303_5); (try rw [Addr.add_zero'] at hx303_5); (try rw [show ((0 : Int)).toNat = 0 from rfl] at hx303_6); (try rw [show 0 * 9 = 0 from rfl] at hx303_6); (try rw [Addr.add_zero'] at hx303_6); (try rw [show ((0 : Int)).toNat = 0 from rfl] at hx303_7); (try rw [show 0 * 9 = 0 from rfl] at hx303_7); (try rw [Addr.add_zero'] at hx303_7); (try rw [show ((0 : Int)).toNat = 0 from rfl] at hx303_8); (try rw [show 0 * 9 = 0 from rfl] at hx303_8); (try rw [Addr.add_zero'] at hx303_8); replace p303 := eq_true p303; replace q303 := eq_true q303; have p304 : 0 ≤ (1 : Int) := (by omega); have q304 : 1 < (t280.length : Int) := of_decide_eq_true (by first | (with_reducible assumption) | assumption); obtain ⟨ad304, e304, hx304_0, hx304_1, hx304_2, hx304_3, hx304_4, hx304_5, hx304_6, hx304_7, hx304_8⟩ := at_T23 (Kd.R_reads' HO282.out).2.2 1 p304 q304; obtain rfl : ad303 = ad304 := (by injection e304); (try simp only [show (1 : Int).toNat = 1 from rfl, Nat.reduceMul, Nat.reduceEqDiff, Go.Addr.add, ↓reduceIte] at hx304_0); (try simp only [show (1 : Int).toNat = 1 from rfl, Nat.reduceMul, Nat.reduceEqDiff, Go.Addr.add, ↓reduceIte] at hx304_1); (try simp only [show (1 : Int).toNat = 1 from rfl, Nat.reduceMul, Nat.reduceEqDiff, Go.Addr.add, ↓reduceIte] at hx304_2); (try simp only [show (1 : Int).toNat = 1 from rfl, Nat.reduceMul, Nat.reduceEqDiff, Go.Addr.add, ↓reduceIte] at hx304_3); (try simp only [show (1 : Int).toNat = 1 from rfl, Nat.reduceMul, Nat.reduceEqDiff, Go.Addr.add, ↓reduceIte] at hx304_4); (try simp only [show (1 : Int).toNat = 1 from rfl, Nat.reduceMul, Nat.reduceEqDiff, Go.Addr.add, ↓reduceIte] at hx304_5); (try simp only [show (1 : Int).toNat = 1 from rfl, Nat.reduceMul, Nat.reduceEqDiff, Go.Addr.add, ↓reduceIte] at hx304_6); (try simp only [show (1 : Int).toNat = 1 from rfl, Nat.reduceMul, Nat.reduceEqDiff, Go.Addr.add, ↓reduceIte] at hx304_7); (try simp only [show (1 : Int).toNat = 1 from rfl, Nat.reduceMul, Nat.reduceEqDiff, Go.Addr.add, ↓reduceIte] at hx304_8); have qi304 : (1 < t280.length) = True := eq_true (by omega); (try rw [show ((1 : Int)).toNat = 1 from rfl] at hx304_0); (try rw [show 1 * 9 = 9 from rfl] at hx304_0); (try rw [show ((1 : Int)).toNat = 1 from rfl] at hx304_1); (try rw [show 1 * 9 = 9 from rfl] at hx304_1); (try rw [show ((1 : Int)).toNat = 1 from rfl] at hx304_2); (try rw [show 1 * 9 = 9 from rfl] at hx304_2); (try rw [show ((1 : Int)).toNat = 1 from rfl] at hx304_3); (try rw [show 1 * 9 = 9 from rfl] at hx304_3); (try rw [show ((1 : Int)).toNat = 1 from rfl] at hx304_4); (try rw [show 1 * 9 = 9 from rfl] at hx304_4); (try rw [show ((1 : Int)).toNat = 1 from rfl] at hx304_5); (try rw [show 1 * 9 = 9 from rfl] at hx304_5); (try rw [show ((1 : Int)).toNat = 1 from rfl] at hx304_6); (try rw [show 1 * 9 = 9 from rfl] at hx304_6); (try rw [show ((1 : Int)).toNat = 1 from rfl] at hx304_7); (try rw [show 1 * 9 = 9 from rfl] at hx304_7); (try rw [show ((1 : Int)).toNat = 1 from rfl] at hx304_8); (try rw [show 1 * 9 = 9 from rfl] at hx304_8); replace p304 := eq_true p304; replace q304 := eq_true q304; have p305 : 0 ≤ (2 : Int) := (by omega); have q305 : 2 < (t280.length : Int) := of_decide_eq_true (by first | (with_reducible assumption) | assumption); obtain ⟨ad305, e305, hx305_0, hx305_1, hx305_2, hx305_3, hx305_4, hx305_5, hx305_6, hx305_7, hx305_8⟩ := at_T23 (Kd.R_reads' HO282.out).2.2 2 p305 q305; obtain rfl : ad303 = ad305 := (by injection e305); (try simp only [show (2 : Int).toNat = 2 from rfl, Nat.reduceMul, Nat.reduceEqDiff, Go.Addr.add, ↓reduceIte] at hx305_0); (try simp only [show (2 : Int).toNat = 2 from rfl, Nat.reduceMul, Nat.reduceEqDiff, Go.Addr.add, ↓reduceIte] at hx305_1); (try simp only [show (2 : Int).toNat = 2 from rfl, Nat.reduceMul, Nat.reduceEqDiff, Go.Addr.add, ↓reduceIte] at hx305_2); (try simp only [show (2 : Int).toNat = 2 from rfl, Nat.reduceMul, Nat.reduceEqDiff, Go.Addr.add, ↓reduceIte] at hx305_3); (try simp only [show (2 : Int).toNat = 2 from rfl, Nat.reduceMul, Nat.reduceEqDiff, Go.Addr.add, ↓reduceIte] at hx305_4); (try simp only [show (2 : Int).toNat = 2 from rfl, Nat.reduceMul, Nat.reduceEqDiff, Go.Addr.add, ↓reduceIte] at hx305_5); (try simp only [show (2 : Int).toNat = 2 from rfl, Nat.reduceMul, Nat.reduceEqDiff, Go.Addr.add, ↓reduceIte] at hx305_6); (try simp only [show (2 : Int).toNat = 2 from rfl, Nat.reduceMul, Nat.reduceEqDiff, Go.Addr.add, ↓reduceIte] at hx305_7); (try simp only [show (2 : Int).toNat = 2 from rfl, Nat.reduceMul, Nat.reduceEqDiff, Go.Addr.add, ↓reduceIte] at hx305_8); have qi305 : (2 < t280.length) = True := eq_true (by omega); (try rw [show ((2 : Int)).toNat = 2 from rfl] at hx305_0); (try rw [show 2 * 9 = 18 from rfl] at hx305_0); (try rw [show ((2 : Int)).toNat = 2 from rfl] at hx305_1); (try rw [show 2 * 9 = 18 from rfl] at hx305_1); (try rw [show ((2 : Int)).toNat = 2 from rfl] at hx305_2); (try rw [show 2 * 9 = 18 from rfl] at hx305_2); (try rw [show ((2 : Int)).toNat = 2 from rfl] at hx305_3); (try rw [show 2 * 9 = 18 from rfl] at hx305_3); (try rw [show ((2 : Int)).toNat = 2 from rfl] at hx305_4); (try rw [show 2 * 9 = 18 from rfl] at hx305_4); (try rw [show ((2 : Int)).toNat = 2 from rfl] at hx305_5); (try rw [show 2 * 9 = 18 from rfl] at hx305_5); (try rw [show ((2 : Int)).toNat = 2 from rfl] at hx305_6); (try rw [show 2 * 9 = 18 from rfl] at hx305_6); (try rw [show ((2 : Int)).toNat = 2 from rfl] at hx305_7); (try rw [show 2 * 9 = 18 from rfl] at hx305_7); (try rw [show ((2 : Int)).toNat = 2 from rfl] at hx305_8); (try rw [show 2 * 9 = 18 from rfl] at hx305_8); replace p305 := eq_true p305; replace q305 := eq_true q305) | (go_at_call 18; (with_reducible refine (style_CheckDecl.calls 256 0 0 0 0 0 0 0 0 0 t306 _ A21.out).mono ?_); rintro e w51 ⟨rfl, hb⟩; replace HO276 := Aside0.mk (Kd.R_below (rx HO276) hb); replace HO279 := Aside0.mk (Kd.R_below (rx HO279) hb); replace HO282 := Aside0.mk (Kd.R_below (rx HO282) hb); replace HO295 := Aside0.mk (Kd.R_below (rx HO295) hb); replace HO298 := Aside0.mk (Kd.R_below (rx HO298) hb); replace HO301 := Aside0.mk (Kd.R_below (rx HO301) hb); replace BK252 := bb BK252 hb; replace BK264 := bb BK264 hb; replace HB := bh HB hb; (try clear hb); (try clear hb2); (try clear hk); (try clear hi)) | (go_at_call 16; (with_reducible refine (style_Check.calls 0 0 0 0 65 0 0 0 0 t307 _ A23.out).mono ?_); rintro e w52 ⟨rfl, hb⟩; replace HO276 := Aside0.mk (Kd.R_below (rx HO276) hb); replace HO279 := Aside0.mk (Kd.R_below (rx HO279) hb); replace HO282 := Aside0.mk (Kd.R_below (rx HO282) hb); replace HO295 := Aside0.mk (Kd.R_below (rx HO295) hb); replace HO298 := Aside0.mk (Kd.R_below (rx HO298) hb); replace HO301 := Aside0.mk (Kd.R_below (rx HO301) hb); replace BK252 := bb BK252 hb; replace BK264 := bb BK264 hb; replace HB := bh HB hb; (try clear hb); (try clear hb2); (try clear hk); (try clear hi)))
                              go_ret
                              exact ⟨by first | rfl | (simp [errW_none, errW_some] <;> rfl) | (simp [*, errW_none, errW_some] <;> rfl), by repeat (first | (with_reducible first | exact HB.out | apply below_alloc | apply pw_below_drewN | apply below_drew1 | refine below_set ?_ GE252.out | refine below_set ?_ GE264.out) | exact HB.out)⟩
                            · rw [if_neg c22] at H
                              have c22b0 : (t306 == 60) = false := beq_eq_false_iff_ne.mpr c22
                              have c22b1 : (t306 != 60) = true := bne_iff_ne.mpr c22
                              exact absurd ((Option.some.inj H).trans HR_.out) (by decide)
                          · rw [if_neg c20] at H
                            have c20b0 : (t302 == 2) = false := beq_eq_false_iff_ne.mpr c20
                            have c20b1 : (t302 != 2) = true := bne_iff_ne.mpr c20
                            exact absurd ((Option.some.inj H).trans HR_.out) (by decide)
                        · rw [if_neg c19] at H
                          have c19b0 : (((rd_T23 t280 2).f6) == 64) = false := beq_eq_false_iff_ne.mpr c19
                          have c19b1 : (((rd_T23 t280 2).f6) != 64) = true := bne_iff_ne.mpr c19
                          exact absurd ((Option.some.inj H).trans HR_.out) (by decide)
                      · rw [if_neg c18] at H
                        exact absurd H (by simp)
                    · rw [if_neg c17] at H
                      have c17b0 : (((rd_T23 t280 1).f6) == 640) = false := beq_eq_false_iff_ne.mpr c17
                      have c17b1 : (((rd_T23 t280 1).f6) != 640) = true := bne_iff_ne.mpr c17
                      exact absurd ((Option.some.inj H).trans HR_.out) (by decide)
                  · rw [if_neg c16] at H
                    exact absurd H (by simp)
                · rw [if_neg c15] at H
                  have c15b0 : (((rd_T23 t280 0).f6) == 640) = false := beq_eq_false_iff_ne.mpr c15
                  have c15b1 : (((rd_T23 t280 0).f6) != 640) = true := bne_iff_ne.mpr c15
                  exact absurd ((Option.some.inj H).trans HR_.out) (by decide)
              · rw [if_neg c14] at H
                exact absurd H (by simp)
            · rw [if_neg c13] at H
              have c13b0 : ((t280.length : Int) == 3) = false := beq_eq_false_iff_ne.mpr c13
              have c13b1 : ((t280.length : Int) != 3) = true := bne_iff_ne.mpr c13
              exact absurd ((Option.some.inj H).trans HR_.out) (by decide)
          · rw [if_neg c12] at H
            have c12b0 : (t283 == 0) = false := beq_eq_false_iff_ne.mpr c12
            have c12b1 : (t283 != 0) = true := bne_iff_ne.mpr c12
            exact absurd ((Option.some.inj H).trans HR_.out) (by decide)
        · rw [if_neg c11] at H
          have c11b0 : (t263 == 0) = false := beq_eq_false_iff_ne.mpr c11
          have c11b1 : (t263 != 0) = true := bne_iff_ne.mpr c11
          exact absurd ((Option.some.inj H).trans HR_.out) (by decide)
      · rw [if_neg c10] at H
        have c10b0 : (t253 == 5 && ((t254 == 4 && (t255 == 0 && (t256 == 1 && (t257 == 0 && (t258 == 0 && (t259 == 0 && (t260 == 0 && (t261 == 0 && (t262 == 0))))))))))) = false := by simpa using c10
        (try (have c10b1 : decide (t253 = 5 && ((t254 == 4 && (t255 == 0 && (t256 == 1 && (t257 == 0 && (t258 == 0 && (t259 == 0 && (t260 == 0 && (t261 == 0 && (t262 == 0))))))))))) = false := by simpa using c10))
        (try (have c10b2 : (t253 == 5 && ((t254 == 4 && (t255 == 0 && (t256 == 1 && (t257 == 0 && (t258 == 0 && (t259 == 0 && (t260 == 0 && (t261 == 0 && (t262 == 0))))))))))) = false := by simpa using c10))
        (try (have c10b3 : ¬ (t253 = 5 && ((t254 == 4 && (t255 == 0 && (t256 == 1 && (t257 == 0 && (t258 == 0 && (t259 == 0 && (t260 == 0 && (t261 == 0 && (t262 == 0))))))))))) := by simpa using c10))
        clear c10
        exact absurd ((Option.some.inj H).trans HR_.out) (by decide)
    · rw [if_neg c9] at H
      have c9b0 : (t251 == 0) = false := beq_eq_false_iff_ne.mpr c9
      have c9b1 : (t251 != 0) = true := bne_iff_ne.mpr c9
      exact absurd ((Option.some.inj H).trans HR_.out) (by decide)
  · rw [if_neg c8] at H
    have c8b0 : (t242 == 2 && (t243 == 0 && (t244 == 0 && (t245 == 0 && (t246 == 8 && (t247 == 0 && (t248 == 1024 && (t249 == 0 && (t250 == 0))))))))) = false := by simpa using c8
    (try (have c8b1 : decide (t242 = 2 && (t243 == 0 && (t244 == 0 && (t245 == 0 && (t246 == 8 && (t247 == 0 && (t248 == 1024 && (t249 == 0 && (t250 == 0))))))))) = false := by simpa using c8))
    (try (have c8b2 : (t242 == 2 && (t243 == 0 && (t244 == 0 && (t245 == 0 && (t246 == 8 && (t247 == 0 && (t248 == 1024 && (t249 == 0 && (t250 == 0))))))))) = false := by simpa using c8))
    (try (have c8b3 : ¬ (t242 = 2 && (t243 == 0 && (t244 == 0 && (t245 == 0 && (t246 == 8 && (t247 == 0 && (t248 == 1024 && (t249 == 0 && (t250 == 0))))))))) := by simpa using c8))
    clear c8
    exact absurd ((Option.some.inj H).trans HR_.out) (by decide)

theorem stickfullaw06_head.true_ (k : Nat) (r : Bool) (h : stickfullaw06_head.f k = some r) : r = true := by
 have h1 : stickfullaw06_head.f 100 = some true := by kernel_rfl
 have a := at_rounds stickfullaw06_head.mono (Nat.le_max_left k 100) h
 have b := at_rounds stickfullaw06_head.mono (Nat.le_max_right k 100) h1
 rw [a] at b
 exact Option.some.inj b
theorem stickfullaw06_head.calls (k : Nat)  (r : Bool) (w : World) (h : stickfullaw06_head.f k  = some r) :
    Calls Try.prog 22 #[] w fun e w' => e = .returned (.bool r) ∧ Below w.heap.size w w' := stickfullaw06_head.calls_t k r w h (stickfullaw06_head.true_ k r h)

end Go.Proofs.Ytahpkfmgeifenaa.HStyle
