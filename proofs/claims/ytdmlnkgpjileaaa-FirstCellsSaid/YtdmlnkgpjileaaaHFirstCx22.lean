-- Written by this claim's own program over the kit's print.
import Derived.Test.YtdmlnkgpjileaaaM2
import Derived.Test.YtdmlnkgpjileaaaM3
import Derived.Test.YtdmlnkgpjileaaaHFirstCx21
namespace Go.Proofs.Ytdmlnkgpjileaaa.HFirstC
open Go.RowKit Go.Proofs.YtdmlnkgpjileaaaW.PrintWords Go.Proofs.YtdmlnkgpjileaaaW.PrintLast Go.Proofs.YtdmlnkgpjileaaaW.PrintMore Go.Proofs.Ytdmlnkgpjileaaa.Hand
attribute [local go_sem] max2_int min2_int max_two min_two max_three min_three max_four min_four   -- for this text's walks alone
set_option linter.unusedVariables false
set_option linter.unusedSimpArgs false

attribute [local go_sem high] eqA46
/-! ### stickfulref15_Cells: function 15 -/
mutual
def stickfulref15_Cells.l0 : Nat → List (S46) → List (S46) → List (S43) → List (List (S46)) → Int → Option ((List (List (S46))) × Int)
 | 0, _, _, _, _, _ => none
 | k + 1, x0, x1, x2, x8, x9 => if x9 < (x2.length : Int) then (if 0 ≤ x9 then (if ((rd_T43 x2 x9).f0) < 0 then (stickfulref15_Cells.j1 k x0 x1 x2 x8 x9 true) else (if ((rd_T43 x2 x9).f1) < ((rd_T43 x2 x9).f0) then (stickfulref15_Cells.j1 k x0 x1 x2 x8 x9 true) else (stickfulref15_Cells.j1 k x0 x1 x2 x8 x9 (decide (((rd_T43 x2 x9).f1) > (x0.length : Int)))))) else (none)) else (some (x8, 0))
def stickfulref15_Cells.j1 : Nat → List (S46) → List (S46) → List (S43) → List (List (S46)) → Int → Bool → Option ((List (List (S46))) × Int)
 | 0, _, _, _, _, _, _ => none
 | k + 1, x0, x1, x2, x8, x9, x51 => if x51 = true then (some (([] : List (List (S46))), 2)) else (if 0 ≤ x9 then (if x9 < (x2.length : Int) then (stickfulref15_Cells.l1 k x0 x1 x2 x8 x9 ([] : List (S46)) ((rd_T43 x2 x9).f0)) else (none)) else (none))
def stickfulref15_Cells.l1 : Nat → List (S46) → List (S46) → List (S43) → List (List (S46)) → Int → List (S46) → Int → Option ((List (List (S46))) × Int)
 | 0, _, _, _, _, _, _, _ => none
 | k + 1, x0, x1, x2, x8, x9, x10, x11 => if 0 ≤ x9 then (if x9 < (x2.length : Int) then (if x11 < ((rd_T43 x2 x9).f1) then (if 0 ≤ x11 then (if x11 < (x1.length : Int) then (if x9 = 0 then (if x11 < (x0.length : Int) then (if x10.length < 3518437208883 then (stickfulref15_Cells.l1 k x0 x1 x2 x8 x9 (x10 ++ [(⟨(rd_T46 x0 x11).f0, (rd_T46 x0 x11).f1, (rd_T46 x0 x11).f2, (rd_T46 x0 x11).f3, (rd_T46 x0 x11).f4, (rd_T46 x0 x11).f5⟩ : S46)]) (wrap64 (x11 + 1))) else (none)) else (none)) else (if x10.length < 3518437208883 then (stickfulref15_Cells.l1 k x0 x1 x2 x8 x9 (x10 ++ [(⟨(rd_T46 x1 x11).f0, (rd_T46 x1 x11).f1, (rd_T46 x1 x11).f2, (rd_T46 x1 x11).f3, (rd_T46 x1 x11).f4, (rd_T46 x1 x11).f5⟩ : S46)]) (wrap64 (x11 + 1))) else (none))) else (none)) else (none)) else (if x8.length < 5864062014805 then (stickfulref15_Cells.l0 k x0 x1 x2 (x8 ++ [x10]) (wrap64 (x9 + 1))) else (none))) else (none)) else (none)
end
def stickfulref15_Cells.f (k : Nat) (l0 : List (S46)) (l1 : List (S46)) (l2 : List (S43)) : Option ((List (List (S46))) × Int) := (stickfulref15_Alike.f k l0 l1).bind fun t220 => (if t220 = true then (stickfulref15_Cells.l0 k l0 l1 l2 ([] : List (List (S46))) 0) else (some (([] : List (List (S46))), 2)))
theorem stickfulref15_Cells.mono_l : ∀ k, (∀ y0 y1 y2 y3 y4, LeO (stickfulref15_Cells.l0 k y0 y1 y2 y3 y4) (stickfulref15_Cells.l0 (k + 1) y0 y1 y2 y3 y4)) ∧ (∀ y0 y1 y2 y3 y4 y5, LeO (stickfulref15_Cells.j1 k y0 y1 y2 y3 y4 y5) (stickfulref15_Cells.j1 (k + 1) y0 y1 y2 y3 y4 y5)) ∧ (∀ y0 y1 y2 y3 y4 y5 y6, LeO (stickfulref15_Cells.l1 k y0 y1 y2 y3 y4 y5 y6) (stickfulref15_Cells.l1 (k + 1) y0 y1 y2 y3 y4 y5 y6))
 | 0 => ⟨fun _ _ _ _ _ r h => by simp [stickfulref15_Cells.l0] at h, fun _ _ _ _ _ _ r h => by simp [stickfulref15_Cells.j1] at h, fun _ _ _ _ _ _ _ r h => by simp [stickfulref15_Cells.l1] at h⟩
 | k + 1 => by
  obtain ⟨ih0, ih1, ih2⟩ := stickfulref15_Cells.mono_l k
  refine ⟨?_, ?_, ?_⟩
  ·intro y0 y1 y2 y3 y4
   unfold stickfulref15_Cells.l0
   repeat' first
   | (with_reducible exact ih0 _ _ _ _ _)
   | (with_reducible exact ih1 _ _ _ _ _ _)
   | (with_reducible exact ih2 _ _ _ _ _ _ _)
   | (with_reducible exact stickfulref15_Alike.mono _ _ _)
   | (with_reducible exact LeO.refl _)
   | (with_reducible exact LeO.none _)
   | (with_reducible refine LeO.ite ?_ ?_)
   | (with_reducible refine LeO.bind ?_ (fun _ => ?_))
   | exact ih0 _ _ _ _ _
   | exact ih1 _ _ _ _ _ _
   | exact ih2 _ _ _ _ _ _ _
   | exact stickfulref15_Alike.mono _ _ _
   | exact LeO.none _
   | refine LeO.ite ?_ ?_
   | refine LeO.bind ?_ (fun _ => ?_)
  ·intro y0 y1 y2 y3 y4 y5
   unfold stickfulref15_Cells.j1
   repeat' first
   | (with_reducible exact ih0 _ _ _ _ _)
   | (with_reducible exact ih1 _ _ _ _ _ _)
   | (with_reducible exact ih2 _ _ _ _ _ _ _)
   | (with_reducible exact stickfulref15_Alike.mono _ _ _)
   | (with_reducible exact LeO.refl _)
   | (with_reducible exact LeO.none _)
   | (with_reducible refine LeO.ite ?_ ?_)
   | (with_reducible refine LeO.bind ?_ (fun _ => ?_))
   | exact ih0 _ _ _ _ _
   | exact ih1 _ _ _ _ _ _
   | exact ih2 _ _ _ _ _ _ _
   | exact stickfulref15_Alike.mono _ _ _
   | exact LeO.none _
   | refine LeO.ite ?_ ?_
   | refine LeO.bind ?_ (fun _ => ?_)
  ·intro y0 y1 y2 y3 y4 y5 y6
   unfold stickfulref15_Cells.l1
   repeat' first
   | (with_reducible exact ih0 _ _ _ _ _)
   | (with_reducible exact ih1 _ _ _ _ _ _)
   | (with_reducible exact ih2 _ _ _ _ _ _ _)
   | (with_reducible exact stickfulref15_Alike.mono _ _ _)
   | (with_reducible exact LeO.refl _)
   | (with_reducible exact LeO.none _)
   | (with_reducible refine LeO.ite ?_ ?_)
   | (with_reducible refine LeO.bind ?_ (fun _ => ?_))
   | exact ih0 _ _ _ _ _
   | exact ih1 _ _ _ _ _ _
   | exact ih2 _ _ _ _ _ _ _
   | exact stickfulref15_Alike.mono _ _ _
   | exact LeO.none _
   | refine LeO.ite ?_ ?_
   | refine LeO.bind ?_ (fun _ => ?_)
theorem stickfulref15_Cells.mono : ∀ a0 a1 a2 k, LeO (stickfulref15_Cells.f k a0 a1 a2) (stickfulref15_Cells.f (k + 1) a0 a1 a2) := by
 intro a0 a1 a2 k
 obtain ⟨ih0, ih1, ih2⟩ := stickfulref15_Cells.mono_l k
 unfold stickfulref15_Cells.f
 repeat' first
   | (with_reducible exact ih0 _ _ _ _ _)
   | (with_reducible exact ih1 _ _ _ _ _ _)
   | (with_reducible exact ih2 _ _ _ _ _ _ _)
   | (with_reducible exact stickfulref15_Alike.mono _ _ _)
   | (with_reducible exact LeO.refl _)
   | (with_reducible exact LeO.none _)
   | (with_reducible refine LeO.ite ?_ ?_)
   | (with_reducible refine LeO.bind ?_ (fun _ => ?_))
   | exact ih0 _ _ _ _ _
   | exact ih1 _ _ _ _ _ _
   | exact ih2 _ _ _ _ _ _ _
   | exact stickfulref15_Alike.mono _ _ _
   | exact LeO.none _
   | refine LeO.ite ?_ ?_
   | refine LeO.bind ?_ (fun _ => ?_)
set_option maxHeartbeats 8000000 in
set_option maxRecDepth 100000 in
theorem stickfulref15_Cells.calls (k : Nat) (A0 : Option Addr) (c0 : Nat) (l0 : List (S46)) (A1 : Option Addr) (c1 : Nat) (l1 : List (S46)) (A2 : Option Addr) (c2 : Nat) (l2 : List (S43)) (r1 : List (List (S46))) (r2 : Int) (w : World) (hr0 : Kd.C k46 w A0 l0.length l0) (hc0 : l0.length ≤ c0) (hr1 : Kd.C k46 w A1 l1.length l1) (hc1 : l1.length ≤ c1) (hr2 : Kd.C k43 w A2 l2.length l2) (hc2 : l2.length ≤ c2) (h : stickfulref15_Cells.f k l0 l1 l2 = some (r1, r2)) :
  Calls Try.prog 15 #[.slice A0 l0.length c0, .slice A1 l1.length c1, .slice A2 l2.length c2] w fun e w' => ∃ v0_ : Value, e = .returned (.tuple #[v0_, .int .i64 r2]) ∧ Kd.S (Kd.slice 46 k46) 22 w' w.heap.size (fun _ => True) v0_ r1 ∧ Below w.heap.size w w' := by
 have hu46 := Try.underlying46
 have HR0 := Aside0.mk hr0
 have HC0 := Aside0.mk hc0
 clear hr0 hc0
 have HR1 := Aside0.mk hr1
 have HC1 := Aside0.mk hc1
 clear hr1 hc1
 have HR2 := Aside0.mk hr2
 have HC2 := Aside0.mk hc2
 clear hr2 hc2
 have HB := Aside0.mk (Below.refl w.heap.size w)
 have H : ((stickfulref15_Alike.f k l0 l1).bind fun t220 => (if t220 = true then (stickfulref15_Cells.l0 k l0 l1 l2 ([] : List (List (S46))) 0) else (some (([] : List (List (S46))), 2)))) = some (r1, r2) := h
 clear h
 replace H := Option.bind_eq_some_iff.mp H
 obtain ⟨t220, A40, H⟩ := H
 replace H : (if t220 = true then (stickfulref15_Cells.l0 k l0 l1 l2 ([] : List (List (S46))) 0) else (some (([] : List (List (S46))), 2))) = some (r1, r2) := H
 have A4 := Aside0.mk A40
 clear A40
 by_cases c5 : t220 = true
 ·subst c5
  have H1 : (stickfulref15_Cells.l0 k l0 l1 l2 ([] : List (List (S46))) 0) = some (r1, r2) := by rw [if_pos rfl] at H; exact H
  clear H
  have H := H1
  clear H1
  have H' := Aside0.mk H
  clear H
  go_enter Try.func15, Try.ntmps15
  go_wp2_with (first | (go_at_call 13; (with_reducible refine (stickfulref15_Alike.calls k _ _ l0 _ _ l1 true _ ?side1 ?side2 ?side3 ?side4 A4.out).mono ?_); (case side1 => repeat (first | exact HR0.out | (with_reducible refine Kd.C_alloc ?_ _) | (with_reducible refine Kd.C_drewN ?_ _) | (with_reducible refine Kd.C_drew ?_))); (case side2 => exact HC0.out); (case side3 => repeat (first | exact HR1.out | (with_reducible refine Kd.C_alloc ?_ _) | (with_reducible refine Kd.C_drewN ?_ _) | (with_reducible refine Kd.C_drew ?_))); (case side4 => exact HC1.out); rintro e w' ⟨rfl, ⟨nd, rfl⟩⟩; (try first | exact ⟨rfl, _, World.drewN_drewN _ _ _⟩ | exact ⟨rfl, _, Eq.trans (World.drewN_drewN _ _ _) (congrArg (World.drewN _) (Nat.add_assoc _ _ _))⟩)))
  repeat (go_quiet (first | (go_at_call 13; (with_reducible refine (stickfulref15_Alike.calls k _ _ l0 _ _ l1 true _ ?side1 ?side2 ?side3 ?side4 A4.out).mono ?_); (case side1 => repeat (first | exact HR0.out | (with_reducible refine Kd.C_alloc ?_ _) | (with_reducible refine Kd.C_drewN ?_ _) | (with_reducible refine Kd.C_drew ?_))); (case side2 => exact HC0.out); (case side3 => repeat (first | exact HR1.out | (with_reducible refine Kd.C_alloc ?_ _) | (with_reducible refine Kd.C_drewN ?_ _) | (with_reducible refine Kd.C_drew ?_))); (case side4 => exact HC1.out); rintro e w' ⟨rfl, ⟨nd, rfl⟩⟩; (try first | exact ⟨rfl, _, World.drewN_drewN _ _ _⟩ | exact ⟨rfl, _, Eq.trans (World.drewN_drewN _ _ _) (congrArg (World.drewN _) (Nat.add_assoc _ _ _))⟩))); try go_wp2_with (first | (go_at_call 13; (with_reducible refine (stickfulref15_Alike.calls k _ _ l0 _ _ l1 true _ ?side1 ?side2 ?side3 ?side4 A4.out).mono ?_); (case side1 => repeat (first | exact HR0.out | (with_reducible refine Kd.C_alloc ?_ _) | (with_reducible refine Kd.C_drewN ?_ _) | (with_reducible refine Kd.C_drew ?_))); (case side2 => exact HC0.out); (case side3 => repeat (first | exact HR1.out | (with_reducible refine Kd.C_alloc ?_ _) | (with_reducible refine Kd.C_drewN ?_ _) | (with_reducible refine Kd.C_drew ?_))); (case side4 => exact HC1.out); rintro e w' ⟨rfl, ⟨nd, rfl⟩⟩; (try first | exact ⟨rfl, _, World.drewN_drewN _ _ _⟩ | exact ⟨rfl, _, Eq.trans (World.drewN_drewN _ _ _) (congrArg (World.drewN _) (Nat.add_assoc _ _ _))⟩))))
  go_loopg [8, 9] k (fun kq v8 v9 w' => ∃ (x8_1 : List (List (S46))) (x9_1 : Int), v9 = .int .i64 x9_1 ∧ Aside0 (stickfulref15_Cells.l0 kq l0 l1 l2 x8_1 x9_1 = some (r1, r2)) ∧ Aside0 (kq ≤ k) ∧ Aside0 (Kd.S (Kd.slice 46 k46) 22 w' w.heap.size (fun _ => True) v8 x8_1) ∧ Aside0 (Below w.heap.size w w'))
  case atStart => exact ⟨(([] : List (List (S46)))), (0), (by first | rfl | (simp; done) | (simp [*]; done)), H', ⟨Nat.le_refl _⟩, ⟨by first | exact Kd.S_nil _ _ _ _ _ | exact Kd.N_nil _ _ _ _ _ | exact Kd.V_nil _ _ _ _ _ | exact Kd.Q_nil _ _ _ _ _ | exact Kd.R_nil _ _ _ _ _⟩, ⟨by repeat (first | (with_reducible first | exact HB.out | apply below_alloc | apply pw_below_drewN | apply below_drew1) | exact HB.out)⟩⟩
  case round =>
   clear H'
   try clear c1
   try clear c2
   try clear p2
   try clear c5
   obtain ⟨x8_1, x9_1, rfl, HA, HK1, HO_8, HB⟩ := hrel
   cases gk with
   | zero => exact absurd HA.out (by simp [stickfulref15_Cells.l0])
   | succ k1 =>
    have H := HA.out
    clear HA
    simp only [stickfulref15_Cells.l0] at H
    by_cases c6 : x9_1 < (l2.length : Int)
    ·rw [if_pos c6] at H
     have c6b0 : decide (x9_1 < (l2.length : Int)) = true := decide_eq_true c6
     clear c6
     have HC7 := Aside0.mk H
     clear H
     go_upto_region 7 with (fail)
     repeat (go_quiet (fail); go_upto_region 7 with (fail))
     go_cut [51] (fun v51 wc => ∃ (kq : Nat) (x51_6 : Bool), v51 = .bool x51_6 ∧ Aside0 (stickfulref15_Cells.j1 kq l0 l1 l2 x8_1 x9_1 x51_6 = some (r1, r2)) ∧ Aside0 (kq ≤ k1) ∧ Aside0 (Kd.S (Kd.slice 46 k46) 22 wc w.heap.size (fun _ => True) u8 x8_1) ∧ Aside0 (Below w.heap.size w wc))
     case first =>
      have H := HC7.out
      clear HC7
      by_cases c8 : 0 ≤ x9_1
      ·rw [if_pos c8] at H
       have c8b0 : decide (0 ≤ x9_1) = true := decide_eq_true c8
       clear c8
       (first | rw [c8b0] | (simp only [i64_w, i32_w]; rw [c8b0]) | skip)
       by_cases c9 : ((rd_T43 l2 x9_1).f0) < 0
       ·rw [if_pos c9] at H
        have c9b0 : decide (((rd_T43 l2 x9_1).f0) < 0) = true := decide_eq_true c9
        clear c9
        have H' := Aside0.mk H
        clear H
        have p221 : 0 ≤ (x9_1 : Int) := of_decide_eq_true (by first | (with_reducible assumption) | assumption)
        have q221 : x9_1 < (l2.length : Int) := of_decide_eq_true (by first | (with_reducible assumption) | assumption)
        obtain ⟨ad221, e221, hx221_0, hx221_1, hx221_2⟩ := at_T43 HR2.out x9_1 p221 q221
        cases e221
        replace hx221_0 := (HB.out.cell (World.block_lt_of_cell? w _ hx221_0)).trans hx221_0
        replace hx221_1 := (HB.out.cell (World.block_lt_of_cell? w _ hx221_1)).trans hx221_1
        replace hx221_2 := (HB.out.cell (World.block_lt_of_cell? w _ hx221_2)).trans hx221_2
        replace p221 := eq_true p221
        replace q221 := eq_true q221
        go_wp2
        repeat (go_quiet (fail); try go_wp2)
        go_meet
        case rel => exact ⟨_, (true), (by first | rfl | (simp; done) | (simp [*]; done)), H', ⟨by have := HK1.out; first | omega | exact Nat.le_refl _⟩, ⟨by (with_reducible repeat (first | apply Kd.S_alloc | apply Kd.S_drewN | apply Kd.S_drew)); exact HO_8.out⟩, ⟨by repeat (first | (with_reducible first | exact HB.out | apply below_alloc | apply pw_below_drewN | apply below_drew1) | exact HB.out)⟩⟩
       ·rw [if_neg c9] at H
        have c9b0 : decide (((rd_T43 l2 x9_1).f0) < 0) = false := decide_eq_false c9
        clear c9
        by_cases c10 : ((rd_T43 l2 x9_1).f1) < ((rd_T43 l2 x9_1).f0)
        ·rw [if_pos c10] at H
         have c10b0 : decide (((rd_T43 l2 x9_1).f1) < ((rd_T43 l2 x9_1).f0)) = true := decide_eq_true c10
         clear c10
         have H' := Aside0.mk H
         clear H
         have p221 : 0 ≤ (x9_1 : Int) := of_decide_eq_true (by first | (with_reducible assumption) | assumption)
         have q221 : x9_1 < (l2.length : Int) := of_decide_eq_true (by first | (with_reducible assumption) | assumption)
         obtain ⟨ad221, e221, hx221_0, hx221_1, hx221_2⟩ := at_T43 HR2.out x9_1 p221 q221
         cases e221
         replace hx221_0 := (HB.out.cell (World.block_lt_of_cell? w _ hx221_0)).trans hx221_0
         replace hx221_1 := (HB.out.cell (World.block_lt_of_cell? w _ hx221_1)).trans hx221_1
         replace hx221_2 := (HB.out.cell (World.block_lt_of_cell? w _ hx221_2)).trans hx221_2
         replace p221 := eq_true p221
         replace q221 := eq_true q221
         have p222 : 0 ≤ (x9_1 : Int) := of_decide_eq_true (by first | (with_reducible assumption) | assumption)
         have q222 : x9_1 < (l2.length : Int) := of_decide_eq_true (by first | (with_reducible assumption) | assumption)
         obtain ⟨ad222, e222, hx222_0, hx222_1, hx222_2⟩ := at_T43 HR2.out x9_1 p222 q222
         obtain rfl : ad221 = ad222 := (by injection e222)
         replace hx222_0 := (HB.out.cell (World.block_lt_of_cell? w _ hx222_0)).trans hx222_0
         replace hx222_1 := (HB.out.cell (World.block_lt_of_cell? w _ hx222_1)).trans hx222_1
         replace hx222_2 := (HB.out.cell (World.block_lt_of_cell? w _ hx222_2)).trans hx222_2
         replace p222 := eq_true p222
         replace q222 := eq_true q222
         have p223 : 0 ≤ (x9_1 : Int) := of_decide_eq_true (by first | (with_reducible assumption) | assumption)
         have q223 : x9_1 < (l2.length : Int) := of_decide_eq_true (by first | (with_reducible assumption) | assumption)
         obtain ⟨ad223, e223, hx223_0, hx223_1, hx223_2⟩ := at_T43 HR2.out x9_1 p223 q223
         obtain rfl : ad221 = ad223 := (by injection e223)
         replace hx223_0 := (HB.out.cell (World.block_lt_of_cell? w _ hx223_0)).trans hx223_0
         replace hx223_1 := (HB.out.cell (World.block_lt_of_cell? w _ hx223_1)).trans hx223_1
         replace hx223_2 := (HB.out.cell (World.block_lt_of_cell? w _ hx223_2)).trans hx223_2
         replace p223 := eq_true p223
         replace q223 := eq_true q223
         go_wp2
         repeat (go_quiet (fail); try go_wp2)
         go_meet
         case rel => exact ⟨_, (true), (by first | rfl | (simp; done) | (simp [*]; done)), H', ⟨by have := HK1.out; first | omega | exact Nat.le_refl _⟩, ⟨by (with_reducible repeat (first | apply Kd.S_alloc | apply Kd.S_drewN | apply Kd.S_drew)); exact HO_8.out⟩, ⟨by repeat (first | (with_reducible first | exact HB.out | apply below_alloc | apply pw_below_drewN | apply below_drew1) | exact HB.out)⟩⟩
        ·rw [if_neg c10] at H
         have c10b0 : decide (((rd_T43 l2 x9_1).f1) < ((rd_T43 l2 x9_1).f0)) = false := decide_eq_false c10
         clear c10
         have H' := Aside0.mk H
         clear H
         have p221 : 0 ≤ (x9_1 : Int) := of_decide_eq_true (by first | (with_reducible assumption) | assumption)
         have q221 : x9_1 < (l2.length : Int) := of_decide_eq_true (by first | (with_reducible assumption) | assumption)
         obtain ⟨ad221, e221, hx221_0, hx221_1, hx221_2⟩ := at_T43 HR2.out x9_1 p221 q221
         cases e221
         replace hx221_0 := (HB.out.cell (World.block_lt_of_cell? w _ hx221_0)).trans hx221_0
         replace hx221_1 := (HB.out.cell (World.block_lt_of_cell? w _ hx221_1)).trans hx221_1
         replace hx221_2 := (HB.out.cell (World.block_lt_of_cell? w _ hx221_2)).trans hx221_2
         replace p221 := eq_true p221
         replace q221 := eq_true q221
         have p222 : 0 ≤ (x9_1 : Int) := of_decide_eq_true (by first | (with_reducible assumption) | assumption)
         have q222 : x9_1 < (l2.length : Int) := of_decide_eq_true (by first | (with_reducible assumption) | assumption)
         obtain ⟨ad222, e222, hx222_0, hx222_1, hx222_2⟩ := at_T43 HR2.out x9_1 p222 q222
         obtain rfl : ad221 = ad222 := (by injection e222)
         replace hx222_0 := (HB.out.cell (World.block_lt_of_cell? w _ hx222_0)).trans hx222_0
         replace hx222_1 := (HB.out.cell (World.block_lt_of_cell? w _ hx222_1)).trans hx222_1
         replace hx222_2 := (HB.out.cell (World.block_lt_of_cell? w _ hx222_2)).trans hx222_2
         replace p222 := eq_true p222
         replace q222 := eq_true q222
         have p223 : 0 ≤ (x9_1 : Int) := of_decide_eq_true (by first | (with_reducible assumption) | assumption)
         have q223 : x9_1 < (l2.length : Int) := of_decide_eq_true (by first | (with_reducible assumption) | assumption)
         obtain ⟨ad223, e223, hx223_0, hx223_1, hx223_2⟩ := at_T43 HR2.out x9_1 p223 q223
         obtain rfl : ad221 = ad223 := (by injection e223)
         replace hx223_0 := (HB.out.cell (World.block_lt_of_cell? w _ hx223_0)).trans hx223_0
         replace hx223_1 := (HB.out.cell (World.block_lt_of_cell? w _ hx223_1)).trans hx223_1
         replace hx223_2 := (HB.out.cell (World.block_lt_of_cell? w _ hx223_2)).trans hx223_2
         replace p223 := eq_true p223
         replace q223 := eq_true q223
         have p224 : 0 ≤ (x9_1 : Int) := of_decide_eq_true (by first | (with_reducible assumption) | assumption)
         have q224 : x9_1 < (l2.length : Int) := of_decide_eq_true (by first | (with_reducible assumption) | assumption)
         obtain ⟨ad224, e224, hx224_0, hx224_1, hx224_2⟩ := at_T43 HR2.out x9_1 p224 q224
         obtain rfl : ad221 = ad224 := (by injection e224)
         replace hx224_0 := (HB.out.cell (World.block_lt_of_cell? w _ hx224_0)).trans hx224_0
         replace hx224_1 := (HB.out.cell (World.block_lt_of_cell? w _ hx224_1)).trans hx224_1
         replace hx224_2 := (HB.out.cell (World.block_lt_of_cell? w _ hx224_2)).trans hx224_2
         replace p224 := eq_true p224
         replace q224 := eq_true q224
         go_wp2
         repeat (go_quiet (fail); try go_wp2)
         go_meet
         case rel => exact ⟨_, (decide (((rd_T43 l2 x9_1).f1) > (l0.length : Int))), (by first | rfl | (simp; done) | (simp [*]; done)), H', ⟨by have := HK1.out; first | omega | exact Nat.le_refl _⟩, ⟨by (with_reducible repeat (first | apply Kd.S_alloc | apply Kd.S_drewN | apply Kd.S_drew)); exact HO_8.out⟩, ⟨by repeat (first | (with_reducible first | exact HB.out | apply below_alloc | apply pw_below_drewN | apply below_drew1) | exact HB.out)⟩⟩
      ·rw [if_neg c8] at H
       exact absurd H (by simp)
     case rest =>
      clear HC7
      try clear c1
      try clear c2
      try clear p2
      try clear q2
      try clear hx2
      try clear c5
      try clear c6
      try clear c6b0
      try clear c8
      try clear c8b0
      try clear c9
      try clear c9b0
      try clear c10
      try clear c10b0
      try clear hx221_0
      try clear hx221_1
      try clear hx221_2
      try clear hx222_0
      try clear hx222_1
      try clear hx222_2
      try clear hx223_0
      try clear hx223_1
      try clear hx223_2
      try clear hx224_0
      try clear hx224_1
      try clear hx224_2
      try clear p2
      try clear p221
      try clear p222
      try clear p223
      try clear p224
      try clear q221
      try clear q222
      try clear q223
      try clear q224
      obtain ⟨kq, x51_6, rfl, HA, HJ6, HO_8, HB⟩ := hcut
      cases kq with
      | zero => exact absurd HA.out (by simp [stickfulref15_Cells.j1])
      | succ kj6 =>
       have H := HA.out
       clear HA
       simp only [stickfulref15_Cells.j1] at H
       by_cases c11 : x51_6 = true
       ·subst c11
        have H1 : (some (([] : List (List (S46))), 2)) = some (r1, r2) := by rw [if_pos rfl] at H; exact H
        clear H
        have H := H1
        clear H1
        simp only [Option.some.injEq, Prod.mk.injEq] at H
        obtain ⟨rfl, rfl⟩ := H
        go_wp2
        repeat (go_quiet (fail); try go_wp2)
        go_ret2
        exact ⟨_, by first | rfl | (simp [errW_none, errW_some] <;> rfl) | (simp [*, errW_none, errW_some] <;> rfl), by first | exact Kd.S_nil _ _ _ _ _ | exact Kd.N_nil _ _ _ _ _ | exact Kd.V_nil _ _ _ _ _ | exact Kd.Q_nil _ _ _ _ _ | exact Kd.R_nil _ _ _ _ _, by repeat (first | (with_reducible first | exact HB.out | apply below_alloc | apply pw_below_drewN | apply below_drew1) | exact HB.out)⟩
       ·replace c11 := Bool.eq_false_iff.mpr c11
        subst c11
        have H1 : (if 0 ≤ x9_1 then (if x9_1 < (l2.length : Int) then (stickfulref15_Cells.l1 kj6 l0 l1 l2 x8_1 x9_1 ([] : List (S46)) ((rd_T43 l2 x9_1).f0)) else (none)) else (none)) = some (r1, r2) := by rw [if_neg (show ¬ (false = true) by decide)] at H; exact H
        clear H
        have H := H1
        clear H1
        by_cases c12 : 0 ≤ x9_1
        ·rw [if_pos c12] at H
         have c12b0 : decide (0 ≤ x9_1) = true := decide_eq_true c12
         clear c12
         by_cases c13 : x9_1 < (l2.length : Int)
         ·rw [if_pos c13] at H
          have c13b0 : decide (x9_1 < (l2.length : Int)) = true := decide_eq_true c13
          clear c13
          have H' := Aside0.mk H
          clear H
          have p225 : 0 ≤ (x9_1 : Int) := of_decide_eq_true (by first | (with_reducible assumption) | assumption)
          have q225 : x9_1 < (l2.length : Int) := of_decide_eq_true (by first | (with_reducible assumption) | assumption)
          obtain ⟨ad225, e225, hx225_0, hx225_1, hx225_2⟩ := at_T43 HR2.out x9_1 p225 q225
          cases e225
          replace hx225_0 := (HB.out.cell (World.block_lt_of_cell? w _ hx225_0)).trans hx225_0
          replace hx225_1 := (HB.out.cell (World.block_lt_of_cell? w _ hx225_1)).trans hx225_1
          replace hx225_2 := (HB.out.cell (World.block_lt_of_cell? w _ hx225_2)).trans hx225_2
          replace p225 := eq_true p225
          replace q225 := eq_true q225
          go_wp2
          repeat (go_quiet (fail); try go_wp2)
          go_loopg [10, 11] kj6 (fun kq v10 v11 w' => ∃ (x10_3 : List (S46)) (x11_3 : Int), v11 = .int .i64 x11_3 ∧ Aside0 (stickfulref15_Cells.l1 kq l0 l1 l2 x8_1 x9_1 x10_3 x11_3 = some (r1, r2)) ∧ Aside0 (kq ≤ kj6) ∧ Aside0 (Kd.S (Kd.slice 46 k46) 22 w' w.heap.size (fun k_ => some k_ ≠ (v10 : Value).ownBlock) u8 x8_1) ∧ Aside0 (Kd.R k46 46 w' w.heap.size (fun _ => True) v10 x10_3) ∧ Aside0 (Below w.heap.size w w'))
          case atStart => exact ⟨(([] : List (S46))), ((rd_T43 l2 x9_1).f0), (by first | rfl | (simp; done) | (simp [*]; done)), H', ⟨Nat.le_refl _⟩, ⟨by (with_reducible repeat (first | apply Kd.S_alloc | apply Kd.S_drewN | apply Kd.S_drew)); exact Kd.S_mono HO_8.out (fun _ hk => (by simp [Value.ownBlock]))⟩, ⟨by first | exact Kd.R_nil _ _ _ _ _ | exact Kd.N_nil _ _ _ _ _ | exact Kd.V_nil _ _ _ _ _ | exact Kd.Q_nil _ _ _ _ _ | exact Kd.S_nil _ _ _ _ _⟩, ⟨by repeat (first | (with_reducible first | exact HB.out | apply below_alloc | apply pw_below_drewN | apply below_drew1) | exact HB.out)⟩⟩
          case round =>
           clear H'
           try clear c1
           try clear c2
           try clear p2
           try clear q2
           try clear hx2
           try clear c5
           try clear c6
           try clear c6b0
           try clear c8
           try clear c8b0
           try clear c9
           try clear c9b0
           try clear c10
           try clear c10b0
           try clear c11
           try clear c12
           try clear c12b0
           try clear c13
           try clear c13b0
           try clear hx221_0
           try clear hx221_1
           try clear hx221_2
           try clear hx222_0
           try clear hx222_1
           try clear hx222_2
           try clear hx223_0
           try clear hx223_1
           try clear hx223_2
           try clear hx224_0
           try clear hx224_1
           try clear hx224_2
           try clear hx225_0
           try clear hx225_1
           try clear hx225_2
           try clear p2
           try clear p221
           try clear p222
           try clear p223
           try clear p224
           try clear p225
           try clear q2
           try clear q221
           try clear q222
           try clear q223
           try clear q224
           try clear q225
           obtain ⟨x10_3, x11_3, rfl, HA, HK3, HO_8, HO_10, HB⟩ := hrel
           cases gk with
           | zero => exact absurd HA.out (by simp [stickfulref15_Cells.l1])
           | succ k3 =>
            have H := HA.out
            clear HA
            simp only [stickfulref15_Cells.l1] at H
            by_cases c14 : 0 ≤ x9_1
            ·rw [if_pos c14] at H
             have c14b0 : decide (0 ≤ x9_1) = true := decide_eq_true c14
             clear c14
             by_cases c15 : x9_1 < (l2.length : Int)
             ·rw [if_pos c15] at H
              have c15b0 : decide (x9_1 < (l2.length : Int)) = true := decide_eq_true c15
              clear c15
              by_cases c16 : x11_3 < ((rd_T43 l2 x9_1).f1)
              ·rw [if_pos c16] at H
               have c16b0 : decide (x11_3 < ((rd_T43 l2 x9_1).f1)) = true := decide_eq_true c16
               clear c16
               by_cases c17 : 0 ≤ x11_3
               ·rw [if_pos c17] at H
                have c17b0 : decide (0 ≤ x11_3) = true := decide_eq_true c17
                clear c17
                by_cases c18 : x11_3 < (l1.length : Int)
                ·rw [if_pos c18] at H
                 have c18b0 : decide (x11_3 < (l1.length : Int)) = true := decide_eq_true c18
                 clear c18
                 by_cases c19 : x9_1 = 0
                 ·rw [if_pos c19] at H
                  have c19b0 : (x9_1 == 0) = true := beq_iff_eq.mpr c19
                  have c19b1 : (x9_1 != 0) = false := bne_eq_false_iff_eq.mpr c19
                  clear c19
                  by_cases c20 : x11_3 < (l0.length : Int)
                  ·rw [if_pos c20] at H
                   have c20b0 : decide (x11_3 < (l0.length : Int)) = true := decide_eq_true c20
                   clear c20
                   by_cases c21 : x10_3.length < 3518437208883
                   ·rw [if_pos c21] at H
                    have LMc21 := Aside0.mk c21
                    clear c21
                    obtain ⟨y230, hy230⟩ : ∃ y_ : List (S46), y_ = (x10_3 ++ [(⟨(rd_T46 l0 x11_3).f0, (rd_T46 l0 x11_3).f1, (rd_T46 l0 x11_3).f2, (rd_T46 l0 x11_3).f3, (rd_T46 l0 x11_3).f4, (rd_T46 l0 x11_3).f5⟩ : S46)]) := ⟨_, rfl⟩
                    replace H : (stickfulref15_Cells.l1 k3 l0 l1 l2 x8_1 x9_1 y230 (wrap64 (x11_3 + 1))) = some (r1, r2) := by first | (rw [hy230]; with_reducible exact H) | (have H2_ := (Option.bind_some _ _).symm.trans H; rw [hy230]; with_reducible exact H2_) | (have H2_ := (Option.bind_some _ _).symm.trans H; with_reducible exact H2_) | with_reducible exact H | (rw [hy230]; exact H) | exact H
                    have Ny230 := Aside0.mk hy230
                    clear hy230
                    have H' := Aside0.mk H
                    clear H
                    have p226 : 0 ≤ (x9_1 : Int) := of_decide_eq_true (by first | (with_reducible assumption) | assumption)
                    have q226 : x9_1 < (l2.length : Int) := of_decide_eq_true (by first | (with_reducible assumption) | assumption)
                    obtain ⟨ad226, e226, hx226_0, hx226_1, hx226_2⟩ := at_T43 HR2.out x9_1 p226 q226
                    obtain rfl : ad225 = ad226 := (by injection e226)
                    replace hx226_0 := (HB.out.cell (World.block_lt_of_cell? w _ hx226_0)).trans hx226_0
                    replace hx226_1 := (HB.out.cell (World.block_lt_of_cell? w _ hx226_1)).trans hx226_1
                    replace hx226_2 := (HB.out.cell (World.block_lt_of_cell? w _ hx226_2)).trans hx226_2
                    replace p226 := eq_true p226
                    replace q226 := eq_true q226
                    have p227 : 0 ≤ (x11_3 : Int) := of_decide_eq_true (by first | (with_reducible assumption) | assumption)
                    have q227 : x11_3 < (l1.length : Int) := of_decide_eq_true (by first | (with_reducible assumption) | assumption)
                    obtain ⟨ad227, e227, hx227_0, hx227_1, hx227_2, hx227_3, hx227_4, hx227_5⟩ := at_T46 HR1.out x11_3 p227 q227
                    cases e227
                    replace hx227_0 := (HB.out.cell (World.block_lt_of_cell? w _ hx227_0)).trans hx227_0
                    replace hx227_1 := (HB.out.cell (World.block_lt_of_cell? w _ hx227_1)).trans hx227_1
                    replace hx227_2 := (HB.out.cell (World.block_lt_of_cell? w _ hx227_2)).trans hx227_2
                    replace hx227_3 := (HB.out.cell (World.block_lt_of_cell? w _ hx227_3)).trans hx227_3
                    replace hx227_4 := (HB.out.cell (World.block_lt_of_cell? w _ hx227_4)).trans hx227_4
                    replace hx227_5 := (HB.out.cell (World.block_lt_of_cell? w _ hx227_5)).trans hx227_5
                    replace p227 := eq_true p227
                    replace q227 := eq_true q227
                    go_wp2_with (first | ((with_reducible refine gate_dst (N := 12) rfl ?_); (try (refine gate_guard (by rfl) ?_; dsimp only)); refine box_event ?hg (N := 12) ?hd (cs := #[.int .u8 0, .int .i64 0, .int .i64 0, .int .i64 0, .bool false, .bool false]) (t := 46) ?hr ?_; (case hd => rfl); (case hg => rfl); (case hr => first | (go_simp; done) | (go_simp; rfl)); intro gb228 hg w22 hbox hb; replace HO_8 := Aside0.mk (Kd.S_below (Kd.S_elderB (by (with_reducible repeat (first | apply Kd.S_alloc | apply Kd.S_drewN | apply Kd.S_drew)); exact HO_8.out) gb228 (Nat.le_of_eq hg.symm)) hb); replace HO_10 := Aside0.mk (Kd.R_below (Kd.R_elderB (rx HO_10) gb228 (Nat.le_of_eq hg.symm)) hb); have BK228 := Aside0.mk (hbox); have GW228 := bge HB hg; have GE228 := bge HB hg; replace HB := bh HB hb; clear hb hbox hg) | ((with_reducible refine gate_store (t := 46) (p := 12) (v := .tmp 69) rfl ?_); refine Aside0.out ?_))
                    refine Aside0.mk ?_
                    refine Go.Proofs.Ytdmlnkgpjileaaa.Hand.store_row_event rfl 46 (.tmp 12) (.tmp 69) rfl rfl gb228 #[.int .u8 ((rd_T46 l1 x11_3).f0), .int .i64 ((rd_T46 l1 x11_3).f1), .int .i64 ((rd_T46 l1 x11_3).f2), .int .i64 ((rd_T46 l1 x11_3).f3), .bool ((rd_T46 l1 x11_3).f4), .bool ((rd_T46 l1 x11_3).f5)] rfl rfl 46 _ BK228.out (by kernel_rfl) rfl (by simp [Value.oneCell']) ?_
                    intro ws hs hk hb
                    replace HO_8 := Aside0.mk (Kd.S_step HO_8.out (fun k ho hlt => hk.2 k hlt ho.2 (by simp)))
                    replace HO_10 := Aside0.mk (Kd.R_keep HO_10.out hk (fun _ h => h.2))
                    replace BK228 := Aside0.mk hs; replace HB := Aside0.mk (hb _ _ GE228.out HB.out); clear hs hb hk
                    have p229 : 0 ≤ (x11_3 : Int) := of_decide_eq_true (by first | (with_reducible assumption) | assumption)
                    have q229 : x11_3 < (l0.length : Int) := of_decide_eq_true (by first | (with_reducible assumption) | assumption)
                    obtain ⟨ad229, e229, hx229_0, hx229_1, hx229_2, hx229_3, hx229_4, hx229_5⟩ := at_T46 (Kd.C_below HR0.out HB.out) x11_3 p229 q229
                    cases e229
                    replace p229 := eq_true p229
                    replace q229 := eq_true q229
                    go_wp2_with (first | ((with_reducible refine gate_store (t := 46) (p := 12) (v := .tmp 75) rfl ?_); refine Aside0.out ?_))
                    refine Aside0.mk ?_
                    refine Go.Proofs.Ytdmlnkgpjileaaa.Hand.store_row_event rfl 46 (.tmp 12) (.tmp 75) rfl rfl gb228 #[.int .u8 ((rd_T46 l0 x11_3).f0), .int .i64 ((rd_T46 l0 x11_3).f1), .int .i64 ((rd_T46 l0 x11_3).f2), .int .i64 ((rd_T46 l0 x11_3).f3), .bool ((rd_T46 l0 x11_3).f4), .bool ((rd_T46 l0 x11_3).f5)] rfl rfl 46 _ BK228.out (by kernel_rfl) rfl (by simp [Value.oneCell']) ?_
                    intro ws hs hk hb
                    replace HO_8 := Aside0.mk (Kd.S_step HO_8.out (fun k ho hlt => hk.2 k hlt ho.2 (by simp)))
                    replace HO_10 := Aside0.mk (Kd.R_keep HO_10.out hk (fun _ h => h.2))
                    replace BK228 := Aside0.mk hs; replace HB := Aside0.mk (hb _ _ GE228.out HB.out); clear hs hb hk
                    obtain ⟨hcz_0, hcz_1, hcz_2, hcz_3, hcz_4, hcz_5⟩ := cz6 BK228
                    obtain ⟨hfz_0, hfz_1, hfz_2, hfz_3, hfz_4, hfz_5⟩ := fz6 BK228
                    go_wp2_with (first | ((with_reducible refine gate_builtin (b := .append) (xs := #[.tmp 76, .tmp 78]) rfl ?_); (try (refine gate_guard (by rfl) ?_; dsimp only)); at_builtin; refine Kd.R_append k46 (w0 := w) w.heap.size rfl (.tmp 76) (.tmp 78) 22 46 (.agg #[(.int .u8 0), (.int .i64 0), (.int .i64 0), (.int .i64 0), (.bool false), (.bool false)]) 40 rfl Try.underlying22 info46 rfl (by decide) (by omega) u10 x10_3 (⟨(rd_T46 l0 x11_3).f0, (rd_T46 l0 x11_3).f1, (rd_T46 l0 x11_3).f2, (rd_T46 l0 x11_3).f3, (rd_T46 l0 x11_3).f4, (rd_T46 l0 x11_3).f5⟩ : S46) [.int .u8 ((rd_T46 l0 x11_3).f0), .int .i64 ((rd_T46 l0 x11_3).f1), .int .i64 ((rd_T46 l0 x11_3).f2), .int .i64 ((rd_T46 l0 x11_3).f3), .bool ((rd_T46 l0 x11_3).f4), .bool ((rd_T46 l0 x11_3).f5)] (fun k_ => k_ ≠ gb228) (fun _ => False) rfl (by first | (go_simp; done) | (go_simp; rfl)) ?aP (fun _ hk => hk.elim) ?aF ?aO ?aB ?aS ?aL ?_; (case aP => exact k46_mkM _ _ _ (⟨(rd_T46 l0 x11_3).f0, (rd_T46 l0 x11_3).f1, (rd_T46 l0 x11_3).f2, (rd_T46 l0 x11_3).f3, (rd_T46 l0 x11_3).f4, (rd_T46 l0 x11_3).f5⟩ : S46)); (case aB => exact (bw HB)); (case aF => exact (fun k_ hk => Kd.freshB (o := .cells #[.int .u8 ((rd_T46 l0 x11_3).f0), .int .i64 ((rd_T46 l0 x11_3).f1), .int .i64 ((rd_T46 l0 x11_3).f2), .int .i64 ((rd_T46 l0 x11_3).f3), .bool ((rd_T46 l0 x11_3).f4), .bool ((rd_T46 l0 x11_3).f5)] 46 (0, 0)) (bp BK228) k_ hk)); (case aO => exact (Kd.R_mono HO_10.out (fun _ hk => hk.2))); (case aS => exact (below_size (bw HB))); (case aL => have := LMc21.out; omega); intro v231 w24 ho hb hg hat; rw [← Ny230.out] at ho; replace HO_8 := Aside0.mk (Kd.S_after (ok := (fun k_ => k_ ≠ gb228)) (Kd.S_mono HO_8.out (fun _ hk => ⟨hk.2, hk.1⟩)) hg hat); replace BK228 := Aside0.mk (blk_grown (o := .cells #[.int .u8 ((rd_T46 l0 x11_3).f0), .int .i64 ((rd_T46 l0 x11_3).f1), .int .i64 ((rd_T46 l0 x11_3).f2), .int .i64 ((rd_T46 l0 x11_3).f3), .bool ((rd_T46 l0 x11_3).f4), .bool ((rd_T46 l0 x11_3).f5)] 46 (0, 0)) (bp BK228) hg (Kd.R_away HO_10.out (fun _ hk => hk.2))); replace HB := Aside0.mk (hb); have HO232 := Aside0.mk (ho); clear HO_10; clear ho hb hg hat))
                    go_roundg k3
                    case measure => have := HK1.out; have := HJ6.out; have := HK3.out; omega
                    case rel => exact ⟨(y230), (wrap64 (x11_3 + 1)), (by first | rfl | (simp; done) | (simp [*]; done)), H', ⟨by have := HK1.out; have := HJ6.out; have := HK3.out; omega⟩, ⟨by (with_reducible repeat (first | apply Kd.S_alloc | apply Kd.S_drewN | apply Kd.S_drew)); exact Kd.S_mono HO_8.out (fun _ hk => hk.2)⟩, ⟨by (with_reducible repeat (first | apply Kd.R_alloc | apply Kd.R_drewN | apply Kd.R_drew)); exact Kd.R_mono HO232.out (fun _ hk => trivial)⟩, ⟨by repeat (first | (with_reducible first | exact HB.out | apply below_alloc | apply pw_below_drewN | apply below_drew1 | refine below_set ?_ GE228.out) | exact HB.out)⟩⟩
                   ·rw [if_neg c21] at H
                    exact absurd H (by simp)
                  ·rw [if_neg c20] at H
                   exact absurd H (by simp)
                 ·rw [if_neg c19] at H
                  have c19b0 : (x9_1 == 0) = false := beq_eq_false_iff_ne.mpr c19
                  have c19b1 : (x9_1 != 0) = true := bne_iff_ne.mpr c19
                  by_cases c25 : x10_3.length < 3518437208883
                  ·rw [if_pos c25] at H
                   have LMc25 := Aside0.mk c25
                   clear c25
                   obtain ⟨y233, hy233⟩ : ∃ y_ : List (S46), y_ = (x10_3 ++ [(⟨(rd_T46 l1 x11_3).f0, (rd_T46 l1 x11_3).f1, (rd_T46 l1 x11_3).f2, (rd_T46 l1 x11_3).f3, (rd_T46 l1 x11_3).f4, (rd_T46 l1 x11_3).f5⟩ : S46)]) := ⟨_, rfl⟩
                   replace H : (stickfulref15_Cells.l1 k3 l0 l1 l2 x8_1 x9_1 y233 (wrap64 (x11_3 + 1))) = some (r1, r2) := by first | (rw [hy233]; with_reducible exact H) | (have H2_ := (Option.bind_some _ _).symm.trans H; rw [hy233]; with_reducible exact H2_) | (have H2_ := (Option.bind_some _ _).symm.trans H; with_reducible exact H2_) | with_reducible exact H | (rw [hy233]; exact H) | exact H
                   have Ny233 := Aside0.mk hy233
                   clear hy233
                   have H' := Aside0.mk H
                   clear H
                   have p226 : 0 ≤ (x9_1 : Int) := of_decide_eq_true (by first | (with_reducible assumption) | assumption)
                   have q226 : x9_1 < (l2.length : Int) := of_decide_eq_true (by first | (with_reducible assumption) | assumption)
                   obtain ⟨ad226, e226, hx226_0, hx226_1, hx226_2⟩ := at_T43 HR2.out x9_1 p226 q226
                   obtain rfl : ad225 = ad226 := (by injection e226)
                   replace hx226_0 := (HB.out.cell (World.block_lt_of_cell? w _ hx226_0)).trans hx226_0
                   replace hx226_1 := (HB.out.cell (World.block_lt_of_cell? w _ hx226_1)).trans hx226_1
                   replace hx226_2 := (HB.out.cell (World.block_lt_of_cell? w _ hx226_2)).trans hx226_2
                   replace p226 := eq_true p226
                   replace q226 := eq_true q226
                   have p227 : 0 ≤ (x11_3 : Int) := of_decide_eq_true (by first | (with_reducible assumption) | assumption)
                   have q227 : x11_3 < (l1.length : Int) := of_decide_eq_true (by first | (with_reducible assumption) | assumption)
                   obtain ⟨ad227, e227, hx227_0, hx227_1, hx227_2, hx227_3, hx227_4, hx227_5⟩ := at_T46 HR1.out x11_3 p227 q227
                   cases e227
                   replace hx227_0 := (HB.out.cell (World.block_lt_of_cell? w _ hx227_0)).trans hx227_0
                   replace hx227_1 := (HB.out.cell (World.block_lt_of_cell? w _ hx227_1)).trans hx227_1
                   replace hx227_2 := (HB.out.cell (World.block_lt_of_cell? w _ hx227_2)).trans hx227_2
                   replace hx227_3 := (HB.out.cell (World.block_lt_of_cell? w _ hx227_3)).trans hx227_3
                   replace hx227_4 := (HB.out.cell (World.block_lt_of_cell? w _ hx227_4)).trans hx227_4
                   replace hx227_5 := (HB.out.cell (World.block_lt_of_cell? w _ hx227_5)).trans hx227_5
                   replace p227 := eq_true p227
                   replace q227 := eq_true q227
                   go_wp2_with (first | ((with_reducible refine gate_dst (N := 12) rfl ?_); (try (refine gate_guard (by rfl) ?_; dsimp only)); refine box_event ?hg (N := 12) ?hd (cs := #[.int .u8 0, .int .i64 0, .int .i64 0, .int .i64 0, .bool false, .bool false]) (t := 46) ?hr ?_; (case hd => rfl); (case hg => rfl); (case hr => first | (go_simp; done) | (go_simp; rfl)); intro gb228 hg w26 hbox hb; replace HO_8 := Aside0.mk (Kd.S_below (Kd.S_elderB (by (with_reducible repeat (first | apply Kd.S_alloc | apply Kd.S_drewN | apply Kd.S_drew)); exact HO_8.out) gb228 (Nat.le_of_eq hg.symm)) hb); replace HO_10 := Aside0.mk (Kd.R_below (Kd.R_elderB (rx HO_10) gb228 (Nat.le_of_eq hg.symm)) hb); have BK228 := Aside0.mk (hbox); have GW228 := bge HB hg; have GE228 := bge HB hg; replace HB := bh HB hb; clear hb hbox hg) | ((with_reducible refine gate_store (t := 46) (p := 12) (v := .tmp 69) rfl ?_); refine Aside0.out ?_))
                   refine Aside0.mk ?_
                   refine Go.Proofs.Ytdmlnkgpjileaaa.Hand.store_row_event rfl 46 (.tmp 12) (.tmp 69) rfl rfl gb228 #[.int .u8 ((rd_T46 l1 x11_3).f0), .int .i64 ((rd_T46 l1 x11_3).f1), .int .i64 ((rd_T46 l1 x11_3).f2), .int .i64 ((rd_T46 l1 x11_3).f3), .bool ((rd_T46 l1 x11_3).f4), .bool ((rd_T46 l1 x11_3).f5)] rfl rfl 46 _ BK228.out (by kernel_rfl) rfl (by simp [Value.oneCell']) ?_
                   intro ws hs hk hb
                   replace HO_8 := Aside0.mk (Kd.S_step HO_8.out (fun k ho hlt => hk.2 k hlt ho.2 (by simp)))
                   replace HO_10 := Aside0.mk (Kd.R_keep HO_10.out hk (fun _ h => h.2))
                   replace BK228 := Aside0.mk hs; replace HB := Aside0.mk (hb _ _ GE228.out HB.out); clear hs hb hk
                   obtain ⟨hcz_0, hcz_1, hcz_2, hcz_3, hcz_4, hcz_5⟩ := cz6 BK228
                   obtain ⟨hfz_0, hfz_1, hfz_2, hfz_3, hfz_4, hfz_5⟩ := fz6 BK228
                   go_wp2_with (first | ((with_reducible refine gate_builtin (b := .append) (xs := #[.tmp 76, .tmp 78]) rfl ?_); (try (refine gate_guard (by rfl) ?_; dsimp only)); at_builtin; refine Kd.R_append k46 (w0 := w) w.heap.size rfl (.tmp 76) (.tmp 78) 22 46 (.agg #[(.int .u8 0), (.int .i64 0), (.int .i64 0), (.int .i64 0), (.bool false), (.bool false)]) 40 rfl Try.underlying22 info46 rfl (by decide) (by omega) u10 x10_3 (⟨(rd_T46 l1 x11_3).f0, (rd_T46 l1 x11_3).f1, (rd_T46 l1 x11_3).f2, (rd_T46 l1 x11_3).f3, (rd_T46 l1 x11_3).f4, (rd_T46 l1 x11_3).f5⟩ : S46) [.int .u8 ((rd_T46 l1 x11_3).f0), .int .i64 ((rd_T46 l1 x11_3).f1), .int .i64 ((rd_T46 l1 x11_3).f2), .int .i64 ((rd_T46 l1 x11_3).f3), .bool ((rd_T46 l1 x11_3).f4), .bool ((rd_T46 l1 x11_3).f5)] (fun k_ => k_ ≠ gb228) (fun _ => False) rfl (by first | (go_simp; done) | (go_simp; rfl)) ?aP (fun _ hk => hk.elim) ?aF ?aO ?aB ?aS ?aL ?_; (case aP => exact k46_mkM _ _ _ (⟨(rd_T46 l1 x11_3).f0, (rd_T46 l1 x11_3).f1, (rd_T46 l1 x11_3).f2, (rd_T46 l1 x11_3).f3, (rd_T46 l1 x11_3).f4, (rd_T46 l1 x11_3).f5⟩ : S46)); (case aB => exact (bw HB)); (case aF => exact (fun k_ hk => Kd.freshB (o := .cells #[.int .u8 ((rd_T46 l1 x11_3).f0), .int .i64 ((rd_T46 l1 x11_3).f1), .int .i64 ((rd_T46 l1 x11_3).f2), .int .i64 ((rd_T46 l1 x11_3).f3), .bool ((rd_T46 l1 x11_3).f4), .bool ((rd_T46 l1 x11_3).f5)] 46 (0, 0)) (bp BK228) k_ hk)); (case aO => exact (Kd.R_mono HO_10.out (fun _ hk => hk.2))); (case aS => exact (below_size (bw HB))); (case aL => have := LMc25.out; omega); intro v234 w28 ho hb hg hat; rw [← Ny233.out] at ho; replace HO_8 := Aside0.mk (Kd.S_after (ok := (fun k_ => k_ ≠ gb228)) (Kd.S_mono HO_8.out (fun _ hk => ⟨hk.2, hk.1⟩)) hg hat); replace BK228 := Aside0.mk (blk_grown (o := .cells #[.int .u8 ((rd_T46 l1 x11_3).f0), .int .i64 ((rd_T46 l1 x11_3).f1), .int .i64 ((rd_T46 l1 x11_3).f2), .int .i64 ((rd_T46 l1 x11_3).f3), .bool ((rd_T46 l1 x11_3).f4), .bool ((rd_T46 l1 x11_3).f5)] 46 (0, 0)) (bp BK228) hg (Kd.R_away HO_10.out (fun _ hk => hk.2))); replace HB := Aside0.mk (hb); have HO235 := Aside0.mk (ho); clear HO_10; clear ho hb hg hat))
                   go_roundg k3
                   case measure => have := HK1.out; have := HJ6.out; have := HK3.out; omega
                   case rel => exact ⟨(y233), (wrap64 (x11_3 + 1)), (by first | rfl | (simp; done) | (simp [*]; done)), H', ⟨by have := HK1.out; have := HJ6.out; have := HK3.out; omega⟩, ⟨by (with_reducible repeat (first | apply Kd.S_alloc | apply Kd.S_drewN | apply Kd.S_drew)); exact Kd.S_mono HO_8.out (fun _ hk => hk.2)⟩, ⟨by (with_reducible repeat (first | apply Kd.R_alloc | apply Kd.R_drewN | apply Kd.R_drew)); exact Kd.R_mono HO235.out (fun _ hk => trivial)⟩, ⟨by repeat (first | (with_reducible first | exact HB.out | apply below_alloc | apply pw_below_drewN | apply below_drew1 | refine below_set ?_ GE228.out) | exact HB.out)⟩⟩
                  ·rw [if_neg c25] at H
                   exact absurd H (by simp)
                ·rw [if_neg c18] at H
                 exact absurd H (by simp)
               ·rw [if_neg c17] at H
                exact absurd H (by simp)
              ·rw [if_neg c16] at H
               have c16b0 : decide (x11_3 < ((rd_T43 l2 x9_1).f1)) = false := decide_eq_false c16
               clear c16
               by_cases c29 : x8_1.length < 5864062014805
               ·rw [if_pos c29] at H
                have LMc29 := Aside0.mk c29
                clear c29
                obtain ⟨y236, hy236⟩ : ∃ y_ : List (List (S46)), y_ = (x8_1 ++ [x10_3]) := ⟨_, rfl⟩
                replace H : (stickfulref15_Cells.l0 k3 l0 l1 l2 y236 (wrap64 (x9_1 + 1))) = some (r1, r2) := by first | (rw [hy236]; with_reducible exact H) | (have H2_ := (Option.bind_some _ _).symm.trans H; rw [hy236]; with_reducible exact H2_) | (have H2_ := (Option.bind_some _ _).symm.trans H; with_reducible exact H2_) | with_reducible exact H | (rw [hy236]; exact H) | exact H
                have Ny236 := Aside0.mk hy236
                clear hy236
                have H' := Aside0.mk H
                clear H
                have p226 : 0 ≤ (x9_1 : Int) := of_decide_eq_true (by first | (with_reducible assumption) | assumption)
                have q226 : x9_1 < (l2.length : Int) := of_decide_eq_true (by first | (with_reducible assumption) | assumption)
                obtain ⟨ad226, e226, hx226_0, hx226_1, hx226_2⟩ := at_T43 HR2.out x9_1 p226 q226
                obtain rfl : ad225 = ad226 := (by injection e226)
                replace hx226_0 := (HB.out.cell (World.block_lt_of_cell? w _ hx226_0)).trans hx226_0
                replace hx226_1 := (HB.out.cell (World.block_lt_of_cell? w _ hx226_1)).trans hx226_1
                replace hx226_2 := (HB.out.cell (World.block_lt_of_cell? w _ hx226_2)).trans hx226_2
                replace p226 := eq_true p226
                replace q226 := eq_true q226
                obtain ⟨Ao31, co31, eo31⟩ := Kd.R_slice HO_10.out
                subst eo31
                go_wp2_with (first | ((with_reducible refine gate_builtin (b := .append) (xs := #[.tmp 80, .tmp 82]) rfl ?_); (try (refine gate_guard (by rfl) ?_; dsimp only)); at_builtin; refine Kd.S_append (Kd.slice 46 k46) (w0 := w) w.heap.size rfl (.tmp 80) (.tmp 82) 37 22 (.slice none 0 0) 24 rfl Try.underlying37 info22 rfl (by decide) (by omega) u8 x8_1 x10_3 [.slice Ao31 x10_3.length co31] (fun _ => True) (fun k_ => some k_ = (.slice Ao31 x10_3.length co31 : Value).ownBlock) rfl rfl ?aP (fun k_ hk_ => ((Kd.R_mono (ok' := fun k_ => ((fun _ => True)) k_ ∧ some k_ ≠ (u8 : Value).ownBlock) (Kd.R_apart' (HO_10.out) (Kd.S_typed HO_8.out) (by decide)) (fun k_ hk => ⟨trivial, hk.2⟩))).1 k_ hk_.symm) ?aF ?aO ?aB ?aS ?aL ?_; (case aP => exact Kd.M_row (Kd.R_mono (Kd.R_tight rfl (Kd.R_mono (ok' := fun k_ => ((fun _ => True)) k_ ∧ some k_ ≠ (u8 : Value).ownBlock) (Kd.R_apart' (HO_10.out) (Kd.S_typed HO_8.out) (by decide)) (fun k_ hk => ⟨trivial, hk.2⟩))) (fun _ h_ => h_))); (case aB => exact (bw HB)); (case aF => exact (fun _ _ => trivial)); (case aO => exact (by (with_reducible repeat (first | apply Kd.S_alloc | apply Kd.S_drewN | apply Kd.S_drew)); exact Kd.S_mono HO_8.out (fun k_ hk => ⟨trivial, fun e_ => hk e_⟩))); (case aS => exact (below_size (bw HB))); (case aL => have := LMc29.out; omega); intro v237 w30 ho hb hg hat; rw [← Ny236.out] at ho; replace HB := Aside0.mk (hb); have HO238 := Aside0.mk (ho); clear HO_8 HO_10; clear ho hb hg hat))
                repeat (go_quiet (first | ((with_reducible refine gate_builtin (b := .append) (xs := #[.tmp 80, .tmp 82]) rfl ?_); (try (refine gate_guard (by rfl) ?_; dsimp only)); at_builtin; refine Kd.S_append (Kd.slice 46 k46) (w0 := w) w.heap.size rfl (.tmp 80) (.tmp 82) 37 22 (.slice none 0 0) 24 rfl Try.underlying37 info22 rfl (by decide) (by omega) u8 x8_1 x10_3 [.slice Ao31 x10_3.length co31] (fun _ => True) (fun k_ => some k_ = (.slice Ao31 x10_3.length co31 : Value).ownBlock) rfl rfl ?aP (fun k_ hk_ => ((Kd.R_mono (ok' := fun k_ => ((fun _ => True)) k_ ∧ some k_ ≠ (u8 : Value).ownBlock) (Kd.R_apart' (HO_10.out) (Kd.S_typed HO_8.out) (by decide)) (fun k_ hk => ⟨trivial, hk.2⟩))).1 k_ hk_.symm) ?aF ?aO ?aB ?aS ?aL ?_; (case aP => exact Kd.M_row (Kd.R_mono (Kd.R_tight rfl (Kd.R_mono (ok' := fun k_ => ((fun _ => True)) k_ ∧ some k_ ≠ (u8 : Value).ownBlock) (Kd.R_apart' (HO_10.out) (Kd.S_typed HO_8.out) (by decide)) (fun k_ hk => ⟨trivial, hk.2⟩))) (fun _ h_ => h_))); (case aB => exact (bw HB)); (case aF => exact (fun _ _ => trivial)); (case aO => exact (by (with_reducible repeat (first | apply Kd.S_alloc | apply Kd.S_drewN | apply Kd.S_drew)); exact Kd.S_mono HO_8.out (fun k_ hk => ⟨trivial, fun e_ => hk e_⟩))); (case aS => exact (below_size (bw HB))); (case aL => have := LMc29.out; omega); intro v237 w30 ho hb hg hat; rw [← Ny236.out] at ho; replace HB := Aside0.mk (hb); have HO238 := Aside0.mk (ho); clear HO_8 HO_10; clear ho hb hg hat)); try go_wp2_with (first | ((with_reducible refine gate_builtin (b := .append) (xs := #[.tmp 80, .tmp 82]) rfl ?_); (try (refine gate_guard (by rfl) ?_; dsimp only)); at_builtin; refine Kd.S_append (Kd.slice 46 k46) (w0 := w) w.heap.size rfl (.tmp 80) (.tmp 82) 37 22 (.slice none 0 0) 24 rfl Try.underlying37 info22 rfl (by decide) (by omega) u8 x8_1 x10_3 [.slice Ao31 x10_3.length co31] (fun _ => True) (fun k_ => some k_ = (.slice Ao31 x10_3.length co31 : Value).ownBlock) rfl rfl ?aP (fun k_ hk_ => ((Kd.R_mono (ok' := fun k_ => ((fun _ => True)) k_ ∧ some k_ ≠ (u8 : Value).ownBlock) (Kd.R_apart' (HO_10.out) (Kd.S_typed HO_8.out) (by decide)) (fun k_ hk => ⟨trivial, hk.2⟩))).1 k_ hk_.symm) ?aF ?aO ?aB ?aS ?aL ?_; (case aP => exact Kd.M_row (Kd.R_mono (Kd.R_tight rfl (Kd.R_mono (ok' := fun k_ => ((fun _ => True)) k_ ∧ some k_ ≠ (u8 : Value).ownBlock) (Kd.R_apart' (HO_10.out) (Kd.S_typed HO_8.out) (by decide)) (fun k_ hk => ⟨trivial, hk.2⟩))) (fun _ h_ => h_))); (case aB => exact (bw HB)); (case aF => exact (fun _ _ => trivial)); (case aO => exact (by (with_reducible repeat (first | apply Kd.S_alloc | apply Kd.S_drewN | apply Kd.S_drew)); exact Kd.S_mono HO_8.out (fun k_ hk => ⟨trivial, fun e_ => hk e_⟩))); (case aS => exact (below_size (bw HB))); (case aL => have := LMc29.out; omega); intro v237 w30 ho hb hg hat; rw [← Ny236.out] at ho; replace HB := Aside0.mk (hb); have HO238 := Aside0.mk (ho); clear HO_8 HO_10; clear ho hb hg hat)))
                go_roundg k3
                case measure => have := HK1.out; have := HJ6.out; have := HK3.out; omega
                case rel => exact ⟨(y236), (wrap64 (x9_1 + 1)), (by first | rfl | (simp; done) | (simp [*]; done)), H', ⟨by have := HK1.out; have := HJ6.out; have := HK3.out; omega⟩, ⟨by (with_reducible repeat (first | apply Kd.S_alloc | apply Kd.S_drewN | apply Kd.S_drew)); exact HO238.out⟩, ⟨by repeat (first | (with_reducible first | exact HB.out | apply below_alloc | apply pw_below_drewN | apply below_drew1) | exact HB.out)⟩⟩
               ·rw [if_neg c29] at H
                exact absurd H (by simp)
             ·rw [if_neg c15] at H
              exact absurd H (by simp)
            ·rw [if_neg c14] at H
             exact absurd H (by simp)
         ·rw [if_neg c13] at H
          exact absurd H (by simp)
        ·rw [if_neg c12] at H
         exact absurd H (by simp)
    ·rw [if_neg c6] at H
     have c6b0 : decide (x9_1 < (l2.length : Int)) = false := decide_eq_false c6
     clear c6
     simp only [Option.some.injEq, Prod.mk.injEq] at H
     obtain ⟨rfl, rfl⟩ := H
     go_wp2
     repeat (go_quiet (fail); try go_wp2)
     go_ret2
     exact ⟨_, by first | rfl | (simp [errW_none, errW_some] <;> rfl) | (simp [*, errW_none, errW_some] <;> rfl), by (with_reducible repeat (first | apply Kd.S_alloc | apply Kd.S_drewN | apply Kd.S_drew)); exact HO_8.out, by repeat (first | (with_reducible first | exact HB.out | apply below_alloc | apply pw_below_drewN | apply below_drew1) | exact HB.out)⟩
 ·replace c5 := Bool.eq_false_iff.mpr c5
  subst c5
  have H1 : (some (([] : List (List (S46))), 2)) = some (r1, r2) := by rw [if_neg (show ¬ (false = true) by decide)] at H; exact H
  clear H
  have H := H1
  clear H1
  simp only [Option.some.injEq, Prod.mk.injEq] at H
  obtain ⟨rfl, rfl⟩ := H
  go_enter Try.func15, Try.ntmps15
  go_wp2_with (first | (go_at_call 13; (with_reducible refine (stickfulref15_Alike.calls k _ _ l0 _ _ l1 false _ ?side1 ?side2 ?side3 ?side4 A4.out).mono ?_); (case side1 => repeat (first | exact HR0.out | (with_reducible refine Kd.C_alloc ?_ _) | (with_reducible refine Kd.C_drewN ?_ _) | (with_reducible refine Kd.C_drew ?_))); (case side2 => exact HC0.out); (case side3 => repeat (first | exact HR1.out | (with_reducible refine Kd.C_alloc ?_ _) | (with_reducible refine Kd.C_drewN ?_ _) | (with_reducible refine Kd.C_drew ?_))); (case side4 => exact HC1.out); rintro e w' ⟨rfl, ⟨nd, rfl⟩⟩; (try first | exact ⟨rfl, _, World.drewN_drewN _ _ _⟩ | exact ⟨rfl, _, Eq.trans (World.drewN_drewN _ _ _) (congrArg (World.drewN _) (Nat.add_assoc _ _ _))⟩)))
  repeat (go_quiet (first | (go_at_call 13; (with_reducible refine (stickfulref15_Alike.calls k _ _ l0 _ _ l1 false _ ?side1 ?side2 ?side3 ?side4 A4.out).mono ?_); (case side1 => repeat (first | exact HR0.out | (with_reducible refine Kd.C_alloc ?_ _) | (with_reducible refine Kd.C_drewN ?_ _) | (with_reducible refine Kd.C_drew ?_))); (case side2 => exact HC0.out); (case side3 => repeat (first | exact HR1.out | (with_reducible refine Kd.C_alloc ?_ _) | (with_reducible refine Kd.C_drewN ?_ _) | (with_reducible refine Kd.C_drew ?_))); (case side4 => exact HC1.out); rintro e w' ⟨rfl, ⟨nd, rfl⟩⟩; (try first | exact ⟨rfl, _, World.drewN_drewN _ _ _⟩ | exact ⟨rfl, _, Eq.trans (World.drewN_drewN _ _ _) (congrArg (World.drewN _) (Nat.add_assoc _ _ _))⟩))); try go_wp2_with (first | (go_at_call 13; (with_reducible refine (stickfulref15_Alike.calls k _ _ l0 _ _ l1 false _ ?side1 ?side2 ?side3 ?side4 A4.out).mono ?_); (case side1 => repeat (first | exact HR0.out | (with_reducible refine Kd.C_alloc ?_ _) | (with_reducible refine Kd.C_drewN ?_ _) | (with_reducible refine Kd.C_drew ?_))); (case side2 => exact HC0.out); (case side3 => repeat (first | exact HR1.out | (with_reducible refine Kd.C_alloc ?_ _) | (with_reducible refine Kd.C_drewN ?_ _) | (with_reducible refine Kd.C_drew ?_))); (case side4 => exact HC1.out); rintro e w' ⟨rfl, ⟨nd, rfl⟩⟩; (try first | exact ⟨rfl, _, World.drewN_drewN _ _ _⟩ | exact ⟨rfl, _, Eq.trans (World.drewN_drewN _ _ _) (congrArg (World.drewN _) (Nat.add_assoc _ _ _))⟩))))
  go_ret2
  exact ⟨_, by first | rfl | (simp [errW_none, errW_some] <;> rfl) | (simp [*, errW_none, errW_some] <;> rfl), by first | exact Kd.S_nil _ _ _ _ _ | exact Kd.N_nil _ _ _ _ _ | exact Kd.V_nil _ _ _ _ _ | exact Kd.Q_nil _ _ _ _ _ | exact Kd.R_nil _ _ _ _ _, by repeat (first | (with_reducible first | exact HB.out | apply below_alloc | apply pw_below_drewN | apply below_drew1) | exact HB.out)⟩

/-! ### stickfulref11_Same: function 16 -/
def stickfulref11_Same.l0 : Nat → List (S46) → List (S46) → Int → Option (Bool)
 | 0, _, _, _ => none
 | k + 1, x0, x1, x5 => if x5 < (x0.length : Int) then (if 0 ≤ x5 then (if x5 < (x1.length : Int) then (if (!(((rd_T46 x0 x5).f0) == ((rd_T46 x1 x5).f0)) || (!(((rd_T46 x0 x5).f1) == ((rd_T46 x1 x5).f1)) || (!(((rd_T46 x0 x5).f2) == ((rd_T46 x1 x5).f2)) || (!(((rd_T46 x0 x5).f3) == ((rd_T46 x1 x5).f3)) || (!(((rd_T46 x0 x5).f4) == ((rd_T46 x1 x5).f4)) || (!(((rd_T46 x0 x5).f5) == ((rd_T46 x1 x5).f5)))))))) = true then (some false) else (stickfulref11_Same.l0 k x0 x1 (wrap64 (x5 + 1)))) else (none)) else (none)) else (some true)
def stickfulref11_Same.f (k : Nat) (l0 : List (S46)) (l1 : List (S46)) : Option (Bool) := if (l0.length : Int) = (l1.length : Int) then (stickfulref11_Same.l0 k l0 l1 0) else (some false)
theorem stickfulref11_Same.mono_l : ∀ k, (∀ y0 y1 y2, LeO (stickfulref11_Same.l0 k y0 y1 y2) (stickfulref11_Same.l0 (k + 1) y0 y1 y2))
 | 0 => fun _ _ _ r h => by simp [stickfulref11_Same.l0] at h
 | k + 1 => by
  have ih0 := stickfulref11_Same.mono_l k
  ·intro y0 y1 y2
   unfold stickfulref11_Same.l0
   repeat' first
   | (with_reducible exact ih0 _ _ _)
   | (with_reducible exact LeO.refl _)
   | (with_reducible exact LeO.none _)
   | (with_reducible refine LeO.ite ?_ ?_)
   | (with_reducible refine LeO.bind ?_ (fun _ => ?_))
   | exact ih0 _ _ _
   | exact LeO.none _
   | refine LeO.ite ?_ ?_
   | refine LeO.bind ?_ (fun _ => ?_)
theorem stickfulref11_Same.mono : ∀ a0 a1 k, LeO (stickfulref11_Same.f k a0 a1) (stickfulref11_Same.f (k + 1) a0 a1) := by
 intro a0 a1 k
 have ih0 := stickfulref11_Same.mono_l k
 unfold stickfulref11_Same.f
 repeat' first
   | (with_reducible exact ih0 _ _ _)
   | (with_reducible exact LeO.refl _)
   | (with_reducible exact LeO.none _)
   | (with_reducible refine LeO.ite ?_ ?_)
   | (with_reducible refine LeO.bind ?_ (fun _ => ?_))
   | exact ih0 _ _ _
   | exact LeO.none _
   | refine LeO.ite ?_ ?_
   | refine LeO.bind ?_ (fun _ => ?_)
set_option maxHeartbeats 8000000 in
set_option maxRecDepth 100000 in
theorem stickfulref11_Same.calls (k : Nat) (A0 : Option Addr) (c0 : Nat) (l0 : List (S46)) (A1 : Option Addr) (c1 : Nat) (l1 : List (S46)) (r : Bool) (w : World) (hr0 : Kd.C k46 w A0 l0.length l0) (hc0 : l0.length ≤ c0) (hr1 : Kd.C k46 w A1 l1.length l1) (hc1 : l1.length ≤ c1) (h : stickfulref11_Same.f k l0 l1 = some r) :
  Calls Try.prog 16 #[.slice A0 l0.length c0, .slice A1 l1.length c1] w fun e w' => e = .returned (.bool r) ∧ Drawn0 w w' := by
 have hu46 := Try.underlying46
 have HR0 := Aside0.mk hr0
 have HC0 := Aside0.mk hc0
 clear hr0 hc0
 have HR1 := Aside0.mk hr1
 have HC1 := Aside0.mk hc1
 clear hr1 hc1
 have H : (if (l0.length : Int) = (l1.length : Int) then (stickfulref11_Same.l0 k l0 l1 0) else (some false)) = some r := h
 clear h
 by_cases c3 : (l0.length : Int) = (l1.length : Int)
 ·rw [if_pos c3] at H
  have c3b0 : ((l0.length : Int) == (l1.length : Int)) = true := beq_iff_eq.mpr c3
  have c3b1 : ((l0.length : Int) != (l1.length : Int)) = false := bne_eq_false_iff_eq.mpr c3
  have c3b2 : (l0.length == l1.length) = true := by first | simpa using c3 | (simp at c3 ⊢; omega)
  clear c3
  have H' := Aside0.mk H
  clear H
  go_enter Try.func16, Try.ntmps16
  go_wp2
  repeat (go_quiet (fail); try go_wp2)
  go_loopg [5] k (fun kq v5 w' => ∃ (x5_1 : Int), v5 = .int .i64 x5_1 ∧ Aside0 (stickfulref11_Same.l0 kq l0 l1 x5_1 = some r) ∧ Aside0 (kq ≤ k) ∧ Drawn0 w w')
  case atStart => exact ⟨(0), (by first | rfl | (simp; done) | (simp [*]; done)), H', ⟨Nat.le_refl _⟩, by repeat (first | exact Drawn0.refl _ | apply Drawn0.step)⟩
  case round =>
   clear H'
   try clear c1
   try clear p2
   try clear c3
   try clear c3b0
   try clear c3b1
   try clear c3b2
   obtain ⟨x5_1, rfl, HA, HK1, ⟨m1, rfl⟩⟩ := hrel
   cases gk with
   | zero => exact absurd HA.out (by simp [stickfulref11_Same.l0])
   | succ k1 =>
    have H := HA.out
    clear HA
    simp only [stickfulref11_Same.l0] at H
    by_cases c4 : x5_1 < (l0.length : Int)
    ·rw [if_pos c4] at H
     have c4b0 : decide (x5_1 < (l0.length : Int)) = true := decide_eq_true c4
     clear c4
     by_cases c5 : 0 ≤ x5_1
     ·rw [if_pos c5] at H
      have c5b0 : decide (0 ≤ x5_1) = true := decide_eq_true c5
      clear c5
      by_cases c6 : x5_1 < (l1.length : Int)
      ·rw [if_pos c6] at H
       have c6b0 : decide (x5_1 < (l1.length : Int)) = true := decide_eq_true c6
       clear c6
       by_cases c7 : (!(((rd_T46 l0 x5_1).f0) == ((rd_T46 l1 x5_1).f0)) || (!(((rd_T46 l0 x5_1).f1) == ((rd_T46 l1 x5_1).f1)) || (!(((rd_T46 l0 x5_1).f2) == ((rd_T46 l1 x5_1).f2)) || (!(((rd_T46 l0 x5_1).f3) == ((rd_T46 l1 x5_1).f3)) || (!(((rd_T46 l0 x5_1).f4) == ((rd_T46 l1 x5_1).f4)) || (!(((rd_T46 l0 x5_1).f5) == ((rd_T46 l1 x5_1).f5)))))))) = true
       ·rw [if_pos c7] at H
        have c7b0 : (!(((rd_T46 l0 x5_1).f0) == ((rd_T46 l1 x5_1).f0)) || (!(((rd_T46 l0 x5_1).f1) == ((rd_T46 l1 x5_1).f1)) || (!(((rd_T46 l0 x5_1).f2) == ((rd_T46 l1 x5_1).f2)) || (!(((rd_T46 l0 x5_1).f3) == ((rd_T46 l1 x5_1).f3)) || (!(((rd_T46 l0 x5_1).f4) == ((rd_T46 l1 x5_1).f4)) || (!(((rd_T46 l0 x5_1).f5) == ((rd_T46 l1 x5_1).f5)))))))) = true := c7
        clear c7
        obtain rfl := Option.some.inj H
        have p239 : 0 ≤ (x5_1 : Int) := of_decide_eq_true (by first | (with_reducible assumption) | assumption)
        have q239 : x5_1 < (l0.length : Int) := of_decide_eq_true (by first | (with_reducible assumption) | assumption)
        obtain ⟨ad239, e239, hx239_0, hx239_1, hx239_2, hx239_3, hx239_4, hx239_5⟩ := at_T46 HR0.out x5_1 p239 q239
        cases e239
        replace p239 := eq_true p239
        replace q239 := eq_true q239
        have p240 : 0 ≤ (x5_1 : Int) := of_decide_eq_true (by first | (with_reducible assumption) | assumption)
        have q240 : x5_1 < (l1.length : Int) := of_decide_eq_true (by first | (with_reducible assumption) | assumption)
        obtain ⟨ad240, e240, hx240_0, hx240_1, hx240_2, hx240_3, hx240_4, hx240_5⟩ := at_T46 HR1.out x5_1 p240 q240
        cases e240
        replace p240 := eq_true p240
        replace q240 := eq_true q240
        go_wp2
        repeat (go_quiet (fail); try go_wp2)
        go_ret
        exact ⟨by first | rfl | (simp; done) | (simp [*]; done), by repeat (first | exact Drawn0.refl _ | apply Drawn0.step)⟩
       ·rw [if_neg c7] at H
        have c7b0 : (!(((rd_T46 l0 x5_1).f0) == ((rd_T46 l1 x5_1).f0)) || (!(((rd_T46 l0 x5_1).f1) == ((rd_T46 l1 x5_1).f1)) || (!(((rd_T46 l0 x5_1).f2) == ((rd_T46 l1 x5_1).f2)) || (!(((rd_T46 l0 x5_1).f3) == ((rd_T46 l1 x5_1).f3)) || (!(((rd_T46 l0 x5_1).f4) == ((rd_T46 l1 x5_1).f4)) || (!(((rd_T46 l0 x5_1).f5) == ((rd_T46 l1 x5_1).f5)))))))) = false := by simpa using c7
        clear c7
        have H' := Aside0.mk H
        clear H
        have p239 : 0 ≤ (x5_1 : Int) := of_decide_eq_true (by first | (with_reducible assumption) | assumption)
        have q239 : x5_1 < (l0.length : Int) := of_decide_eq_true (by first | (with_reducible assumption) | assumption)
        obtain ⟨ad239, e239, hx239_0, hx239_1, hx239_2, hx239_3, hx239_4, hx239_5⟩ := at_T46 HR0.out x5_1 p239 q239
        cases e239
        replace p239 := eq_true p239
        replace q239 := eq_true q239
        have p240 : 0 ≤ (x5_1 : Int) := of_decide_eq_true (by first | (with_reducible assumption) | assumption)
        have q240 : x5_1 < (l1.length : Int) := of_decide_eq_true (by first | (with_reducible assumption) | assumption)
        obtain ⟨ad240, e240, hx240_0, hx240_1, hx240_2, hx240_3, hx240_4, hx240_5⟩ := at_T46 HR1.out x5_1 p240 q240
        cases e240
        replace p240 := eq_true p240
        replace q240 := eq_true q240
        go_wp2
        repeat (go_quiet (fail); try go_wp2)
        go_roundg k1
        case measure => have := HK1.out; omega
        case rel => exact ⟨(wrap64 (x5_1 + 1)), (by first | rfl | (simp; done) | (simp [*]; done)), H', ⟨by have := HK1.out; omega⟩, by repeat (first | exact Drawn0.refl _ | apply Drawn0.step)⟩
      ·rw [if_neg c6] at H
       exact absurd H (by simp)
     ·rw [if_neg c5] at H
      exact absurd H (by simp)
    ·rw [if_neg c4] at H
     have c4b0 : decide (x5_1 < (l0.length : Int)) = false := decide_eq_false c4
     clear c4
     obtain rfl := Option.some.inj H
     go_wp2
     repeat (go_quiet (fail); try go_wp2)
     go_ret
     exact ⟨by first | rfl | (simp; done) | (simp [*]; done), by repeat (first | exact Drawn0.refl _ | apply Drawn0.step)⟩
 ·rw [if_neg c3] at H
  have c3b0 : ((l0.length : Int) == (l1.length : Int)) = false := beq_eq_false_iff_ne.mpr c3
  have c3b1 : ((l0.length : Int) != (l1.length : Int)) = true := bne_iff_ne.mpr c3
  have c3b2 : (l0.length == l1.length) = false := by first | simpa using c3 | (simp at c3 ⊢; omega)
  obtain rfl := Option.some.inj H
  go_enter Try.func16, Try.ntmps16
  go_wp2
  repeat (go_quiet (fail); try go_wp2)
  go_ret
  exact ⟨by first | rfl | (simp; done) | (simp [*]; done), by repeat (first | exact Drawn0.refl _ | apply Drawn0.step)⟩

end Go.Proofs.Ytdmlnkgpjileaaa.HFirstC
