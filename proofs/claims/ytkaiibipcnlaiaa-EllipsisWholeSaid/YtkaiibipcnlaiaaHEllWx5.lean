-- Written by this claim's own program over the kit's print.
import Derived.Test.YtkaiibipcnlaiaaHEllWb
import Derived.Test.YtkaiibipcnlaiaaHEllWx0
import Derived.Test.YtkaiibipcnlaiaaHEllWx2
import Derived.Test.YtkaiibipcnlaiaaHEllWx4
import Derived.Test.YtkaiibipcnlaiaaMB
import Derived.StillTailTactics
import Derived.Laws.Externs
import Derived.BigFrameIn
import Derived.Lib.Hide
import Derived.Sort.LoopGhostIn
import Derived.BigQuiet
import Derived.Test.YtkaiibipcnlaiaaHEllWb
namespace Go.Proofs.Ytkaiibipcnlaiaa.HEllW
open Go.RowKit Go.Proofs.YtkaiibipcnlaiaaW.PrintWords Go.Proofs.YtkaiibipcnlaiaaW.PrintLast Go.Proofs.YtkaiibipcnlaiaaW.PrintMore Go.Proofs.Ytkaiibipcnlaiaa.Hand
attribute [local go_sem] max2_int min2_int max_two min_two max_three min_three max_four min_four   -- for this text's walks alone
set_option linter.unusedVariables false
set_option linter.unusedSimpArgs false

/-! ### class_Mark: function 32 -/
def class_Mark.f (a0 : Int) : Option (Bool) := (class_Of.f a0).bind fun t106 => (some (t106 == 9))
set_option maxHeartbeats 8000000 in
set_option maxRecDepth 100000 in
theorem class_Mark.calls (a0 : Int) (r : Bool) (w : World) (h : class_Mark.f a0 = some r) :
  Calls Try.prog 32 #[.int .i32 a0] w fun e w' => e = .returned (.bool r) ∧ Below w.heap.size w w' := by
 have HB := Aside0.mk (Below.refl w.heap.size w)
 have H : ((class_Of.f a0).bind fun t106 => (some (t106 == 9))) = some r := h
 clear h
 replace H := Option.bind_eq_some_iff.mp H
 obtain ⟨t106, A20, H⟩ := H
 replace H : (some (t106 == 9)) = some r := H
 have A2 := Aside0.mk A20
 clear A20
 obtain rfl := Option.some.inj H
 go_enter Try.func32, Try.ntmps32
 go_wp2_with (first | ((with_reducible refine gate_callee (f := 49) rfl ?_); refine goesB (some 4) rfl rfl Try.func49 #[.int .i32 a0] rfl ?_; (with_reducible refine (class_Of.calls a0 t106 _ A2.out).mono ?_); rintro e w3 ⟨rfl, hb⟩; refine ⟨_, rfl, ?_⟩; replace HB := bh HB hb; (try clear hb); (try clear hb2); (try clear hk); (try clear hi)))
 go_ret
 exact ⟨by first | rfl | (simp [errW_none, errW_some] <;> rfl) | (simp [*, errW_none, errW_some] <;> rfl), by repeat (first | (with_reducible first | exact HB.out | apply below_alloc | apply pw_below_drewN | apply below_drew1) | exact HB.out)⟩

/-! ### ellipsis_Whole: function 15 -/
def ellipsis_Whole.l0 : Nat → List (S78) → List Bool → List (S53) → Int → Int → Option (List Bool × Int)
 | 0, _, _, _, _, _ => none
 | k + 1, x0, x6, x12, x13, x14 => if x14 < x13 then (if 0 ≤ x14 then (if x14 < (x12.length : Int) then (if x14 < (x6.length : Int) then ((some (x6.set (x14 : Int).toNat true : List Bool)).bind fun y112 => (if ((rd_T53 x12 x14).f0) = 0 then (if ((rd_T53 x12 x14).f2) < 0 then (some (([] : List Bool), 2)) else (if ((rd_T53 x12 x14).f2) ≥ (x0.length : Int) then (some (([] : List Bool), 2)) else (if 0 ≤ ((rd_T53 x12 x14).f2) then (if ((rd_T53 x12 x14).f2) < (x0.length : Int) then ((class_Mark.f ((rd_T78 x0 ((rd_T53 x12 x14).f2)).f0)).bind fun t114 => (ellipsis_Whole.l0 k x0 (y112.set (x14 : Int).toNat (!t114)) x12 x13 (wrap64 (x14 + 1)))) else (none)) else (none)))) else (ellipsis_Whole.l0 k x0 y112 x12 x13 (wrap64 (x14 + 1))))) else (none)) else (none)) else (none)) else (some (x6, 0))
def ellipsis_Whole.f (k : Nat) (l0 : List (S78)) (l1 : List (S53)) : Option (List Bool × Int) := if 0 ≤ (l1.length : Int) then (if ((l1.length : Int) : Int).toNat ≤ 281474976710656 then (ellipsis_Whole.l0 k l0 (List.replicate ((l1.length : Int) : Int).toNat false) l1 (l1.length : Int) 0) else (none)) else (none)
theorem ellipsis_Whole.mono_l : ∀ k, (∀ y0 y1 y2 y3 y4, LeO (ellipsis_Whole.l0 k y0 y1 y2 y3 y4) (ellipsis_Whole.l0 (k + 1) y0 y1 y2 y3 y4))
 | 0 => fun _ _ _ _ _ r h => by simp [ellipsis_Whole.l0] at h
 | k + 1 => by
  have ih0 := ellipsis_Whole.mono_l k
  ·intro y0 y1 y2 y3 y4
   unfold ellipsis_Whole.l0
   repeat' first
   | (with_reducible exact ih0 _ _ _ _ _)
   | (with_reducible exact LeO.refl _)
   | (with_reducible exact LeO.none _)
   | (with_reducible refine LeO.ite ?_ ?_)
   | (with_reducible refine LeO.bind ?_ (fun _ => ?_))
   | exact ih0 _ _ _ _ _
   | exact LeO.none _
   | refine LeO.ite ?_ ?_
   | refine LeO.bind ?_ (fun _ => ?_)
theorem ellipsis_Whole.mono : ∀ a0 a1 k, LeO (ellipsis_Whole.f k a0 a1) (ellipsis_Whole.f (k + 1) a0 a1) := by
 intro a0 a1 k
 have ih0 := ellipsis_Whole.mono_l k
 unfold ellipsis_Whole.f
 repeat' first
   | (with_reducible exact ih0 _ _ _ _ _)
   | (with_reducible exact LeO.refl _)
   | (with_reducible exact LeO.none _)
   | (with_reducible refine LeO.ite ?_ ?_)
   | (with_reducible refine LeO.bind ?_ (fun _ => ?_))
   | exact ih0 _ _ _ _ _
   | exact LeO.none _
   | refine LeO.ite ?_ ?_
   | refine LeO.bind ?_ (fun _ => ?_)
set_option maxHeartbeats 8000000 in
set_option maxRecDepth 100000 in
theorem ellipsis_Whole.calls (k : Nat) (A0 : Option Addr) (c0 : Nat) (l0 : List (S78)) (A1 : Option Addr) (c1 : Nat) (l1 : List (S53)) (r1 : List Bool) (r2 : Int) (w : World) (hr0 : Kd.C k78 w A0 l0.length l0) (hc0 : l0.length ≤ c0) (hr1 : Kd.C k53 w A1 l1.length l1) (hc1 : l1.length ≤ c1) (h : ellipsis_Whole.f k l0 l1 = some (r1, r2)) :
  Calls Try.prog 15 #[.slice A0 l0.length c0, .slice A1 l1.length c1] w fun e w' => ∃ v0_ : Value, e = .returned (.tuple #[v0_, .int .i64 r2]) ∧ Kd.R Kd.bool 4 w' w.heap.size (fun _ => True) v0_ r1 ∧ Below w.heap.size w w' := by
 have hu53 := Try.underlying53
 have HR0 := Aside0.mk hr0
 have HC0 := Aside0.mk hc0
 clear hr0 hc0
 have HR1 := Aside0.mk hr1
 have HC1 := Aside0.mk hc1
 clear hr1 hc1
 have HB := Aside0.mk (Below.refl w.heap.size w)
 have H : (if 0 ≤ (l1.length : Int) then (if ((l1.length : Int) : Int).toNat ≤ 281474976710656 then (ellipsis_Whole.l0 k l0 (List.replicate ((l1.length : Int) : Int).toNat false) l1 (l1.length : Int) 0) else (none)) else (none)) = some (r1, r2) := h
 clear h
 by_cases c3 : 0 ≤ (l1.length : Int)
 ·rw [if_pos c3] at H
  have c3b0 := eq_true c3
  have c3b1 : decide (0 ≤ (l1.length : Int)) = true := decide_eq_true c3
  clear c3
  by_cases c4 : ((l1.length : Int) : Int).toNat ≤ 281474976710656
  ·rw [if_pos c4] at H
   have c4b0 := eq_true c4
   have c4b1 : decide (((l1.length : Int) : Int).toNat ≤ 281474976710656) = true := decide_eq_true c4
   clear c4
   obtain ⟨y107, hy107⟩ : ∃ y_ : List Bool, y_ = (List.replicate ((l1.length : Int) : Int).toNat false) := ⟨_, rfl⟩
   replace H : (ellipsis_Whole.l0 k l0 y107 l1 (l1.length : Int) 0) = some (r1, r2) := by first | (rw [hy107]; with_reducible exact H) | (have H2_ := (Option.bind_some _ _).symm.trans H; rw [hy107]; with_reducible exact H2_) | (have H2_ := (Option.bind_some _ _).symm.trans H; with_reducible exact H2_) | with_reducible exact H | (rw [hy107]; exact H) | exact H
   have Ny107 := Aside0.mk hy107
   clear hy107
   have H' := Aside0.mk H
   clear H
   go_enter Try.func15, Try.ntmps15
   go_wp2_with (first | ((with_reducible refine gate_dst (N := 11) rfl ?_); (try (refine gate_guard (by rfl) ?_; dsimp only)); refine Kd.R_make Kd.bool _ 4 rfl (N := 11) rfl 23 _ _ rfl (l1.length : Int) rfl rfl Try.underlying23 (.bool false) 1 info4 rfl (by decide) (by omega) false (ok := fun _ => True) (okp := fun _ => True) rfl (fun _ hk => hk) trivial (of_decide_eq_true (by first | (with_reducible assumption) | assumption)) (Nat.le_trans (Nat.mul_le_mul_right _ (of_decide_eq_true (by first | (with_reducible assumption) | assumption) : (l1.length : Int).toNat ≤ 281474976710656)) (by omega)) (Below.refl _ _) (Nat.le_refl _) ?_; intro v108 w5 ho6 hb hg_ hnew_; clear hg_ hnew_; (first | rw [← Ny107.out] at ho6 | (simp only [Int.reduceToNat] at ho6; rw [← Ny107.out] at ho6)); have HO109 := Aside0.mk (Kd.R_lower ho6 (below_size (bw HB))); replace HB := bh HB hb; clear hb ho6))
   go_loopg [14] k (fun kq v14 w' => ∃ (x6_1 : List Bool) (x14_1 : Int), v14 = .int .i64 x14_1 ∧ Aside0 (ellipsis_Whole.l0 kq l0 x6_1 l1 (l1.length : Int) x14_1 = some (r1, r2)) ∧ Aside0 (kq ≤ k) ∧ Aside0 (Kd.R Kd.bool 4 w' w.heap.size (fun _ => True) v108 x6_1) ∧ Aside0 (Below w.heap.size w w'))
   case atStart => exact ⟨(y107), (0), (by first | rfl | (simp; done) | (simp [*]; done)), H', ⟨Nat.le_refl _⟩, ⟨by (with_reducible repeat (first | apply Kd.R_alloc | apply Kd.R_drewN | apply Kd.R_drew)); exact HO109.out⟩, ⟨by repeat (first | (with_reducible first | exact HB.out | apply below_alloc | apply pw_below_drewN | apply below_drew1) | exact HB.out)⟩⟩
   case round =>
    clear H'
    try clear c1
    try clear p2
    try clear c3
    try clear c3b0
    try clear c3b1
    try clear c4
    try clear c4b0
    try clear c4b1
    obtain ⟨x6_1, x14_1, rfl, HA, HK1, HO_6, HB⟩ := hrel
    cases gk with
    | zero => exact absurd HA.out (by simp [ellipsis_Whole.l0])
    | succ k1 =>
     have H := HA.out
     clear HA
     simp only [ellipsis_Whole.l0] at H
     by_cases c7 : x14_1 < (l1.length : Int)
     ·rw [if_pos c7] at H
      have c7b0 : decide (x14_1 < (l1.length : Int)) = true := decide_eq_true c7
      clear c7
      by_cases c8 : 0 ≤ x14_1
      ·rw [if_pos c8] at H
       have c8b0 : decide (0 ≤ x14_1) = true := decide_eq_true c8
       clear c8
       by_cases c9 : x14_1 < (l1.length : Int)
       ·rw [if_pos c9] at H
        have c9b0 : decide (x14_1 < (l1.length : Int)) = true := decide_eq_true c9
        clear c9
        by_cases c10 : x14_1 < (x6_1.length : Int)
        ·rw [if_pos c10] at H
         have c10b0 : decide (x14_1 < (x6_1.length : Int)) = true := decide_eq_true c10
         clear c10
         obtain ⟨y112, hy112⟩ : ∃ y_ : List Bool, y_ = (x6_1.set (x14_1 : Int).toNat true) := ⟨_, rfl⟩
         replace H : (if ((rd_T53 l1 x14_1).f0) = 0 then (if ((rd_T53 l1 x14_1).f2) < 0 then (some (([] : List Bool), 2)) else (if ((rd_T53 l1 x14_1).f2) ≥ (l0.length : Int) then (some (([] : List Bool), 2)) else (if 0 ≤ ((rd_T53 l1 x14_1).f2) then (if ((rd_T53 l1 x14_1).f2) < (l0.length : Int) then ((class_Mark.f ((rd_T78 l0 ((rd_T53 l1 x14_1).f2)).f0)).bind fun t114 => (ellipsis_Whole.l0 k1 l0 (y112.set (x14_1 : Int).toNat (!t114)) l1 (l1.length : Int) (wrap64 (x14_1 + 1)))) else (none)) else (none)))) else (ellipsis_Whole.l0 k1 l0 y112 l1 (l1.length : Int) (wrap64 (x14_1 + 1)))) = some (r1, r2) := by first | (rw [hy112]; with_reducible exact H) | (have H2_ := (Option.bind_some _ _).symm.trans H; rw [hy112]; with_reducible exact H2_) | (have H2_ := (Option.bind_some _ _).symm.trans H; with_reducible exact H2_) | with_reducible exact H | (rw [hy112]; exact H) | exact H
         have Ny112 := Aside0.mk hy112
         clear hy112
         by_cases c12 : ((rd_T53 l1 x14_1).f0) = 0
         ·rw [if_pos c12] at H
          have c12b0 : (((rd_T53 l1 x14_1).f0) == 0) = true := beq_iff_eq.mpr c12
          have c12b1 : (((rd_T53 l1 x14_1).f0) != 0) = false := bne_eq_false_iff_eq.mpr c12
          clear c12
          by_cases c13 : ((rd_T53 l1 x14_1).f2) < 0
          ·rw [if_pos c13] at H
           have c13b0 : decide (((rd_T53 l1 x14_1).f2) < 0) = true := decide_eq_true c13
           clear c13
           simp only [Option.some.injEq, Prod.mk.injEq] at H
           obtain ⟨rfl, rfl⟩ := H
           have p110 : 0 ≤ (x14_1 : Int) := of_decide_eq_true (by first | (with_reducible assumption) | assumption)
           have q110 : x14_1 < (l1.length : Int) := of_decide_eq_true (by first | (with_reducible assumption) | assumption)
           obtain ⟨ad110, e110, hx110_0, hx110_1, hx110_2, hx110_3, hx110_4, hx110_5⟩ := at_T53 HR1.out x14_1 p110 q110
           cases e110
           replace hx110_0 := (HB.out.cell (World.block_lt_of_cell? w _ hx110_0)).trans hx110_0
           replace hx110_1 := (HB.out.cell (World.block_lt_of_cell? w _ hx110_1)).trans hx110_1
           replace hx110_2 := (HB.out.cell (World.block_lt_of_cell? w _ hx110_2)).trans hx110_2
           replace hx110_3 := (HB.out.cell (World.block_lt_of_cell? w _ hx110_3)).trans hx110_3
           replace hx110_4 := (HB.out.cell (World.block_lt_of_cell? w _ hx110_4)).trans hx110_4
           replace hx110_5 := (HB.out.cell (World.block_lt_of_cell? w _ hx110_5)).trans hx110_5
           replace p110 := eq_true p110
           replace q110 := eq_true q110
           go_wp2_with (first | ((with_reducible refine gate_dst (N := 8) rfl ?_); (try (refine gate_guard (by rfl) ?_; dsimp only)); refine box_event ?hg (N := 8) ?hd (cs := #[.int .u8 0, .int .i64 0, .int .i64 0, .int .i64 0, .bool false, .bool false]) (t := 53) ?hr ?_; (case hd => rfl); (case hg => rfl); (case hr => first | (go_simp; done) | (go_simp; rfl)); intro gb111 hg w14 hbox hb; replace HO_6 := Aside0.mk (Kd.R_below (rx HO_6) hb); have BK111 := Aside0.mk (hbox); have GW111 := bge HB hg; have GE111 := bge HB hg; replace HB := bh HB hb; clear hb hbox hg; obtain ⟨hcz15_0, hcz15_1, hcz15_2, hcz15_3, hcz15_4, hcz15_5⟩ := cz6 BK111; obtain ⟨hfz15_0, hfz15_1, hfz15_2, hfz15_3, hfz15_4, hfz15_5⟩ := fz6 BK111) | ((with_reducible refine gate_store (t := 53) (p := 8) rfl ?_); refine store_event (t := 53) (p := 8) (v := ?vo_w16) (w1 := ((((((w14.setCell ⟨gb111, 0, none⟩ (.int .u8 ((rd_T53 l1 x14_1).f0))).setCell ⟨gb111, 1, none⟩ (.int .i64 ((rd_T53 l1 x14_1).f1))).setCell ⟨gb111, 2, none⟩ (.int .i64 ((rd_T53 l1 x14_1).f2))).setCell ⟨gb111, 3, none⟩ (.int .i64 ((rd_T53 l1 x14_1).f3))).setCell ⟨gb111, 4, none⟩ (.bool ((rd_T53 l1 x14_1).f4))).setCell ⟨gb111, 5, none⟩ (.bool ((rd_T53 l1 x14_1).f5)))) ?hg ?ho ?hn ?hr ?_; (case ho => rfl); (case hg => rfl); (case hn => rfl); (case hr => first | (go_simp; done) | (go_simp; rfl)); intro w16 hw; have n0_ : Aside0 (Kd.R Kd.bool 4 w16 w.heap.size (fun _ => True) v108 x6_1) := ⟨(by rw [hw]; exact (by (with_reducible repeat (first | apply Kd.R_alloc | apply Kd.R_drewN | apply Kd.R_drew)); exact Kd.R_mono (Kd.R_far (p := ⟨gb111, 5, none⟩) (Kd.R_far (p := ⟨gb111, 4, none⟩) (Kd.R_far (p := ⟨gb111, 3, none⟩) (Kd.R_far (p := ⟨gb111, 2, none⟩) (Kd.R_far (p := ⟨gb111, 1, none⟩) (Kd.R_far (p := ⟨gb111, 0, none⟩) (Kd.R_types HO_6.out BK111.out (by decide)) (fun _ hk => hk.2) (.int .u8 ((rd_T53 l1 x14_1).f0))) (fun _ hk => hk.2) (.int .i64 ((rd_T53 l1 x14_1).f1))) (fun _ hk => hk.2) (.int .i64 ((rd_T53 l1 x14_1).f2))) (fun _ hk => hk.2) (.int .i64 ((rd_T53 l1 x14_1).f3))) (fun _ hk => hk.2) (.bool ((rd_T53 l1 x14_1).f4))) (fun _ hk => hk.2) (.bool ((rd_T53 l1 x14_1).f5))) (fun _ hk => trivial)))⟩; have n1_ : Aside0 (w16.heap[gb111]? = some (.cells #[.int .u8 ((rd_T53 l1 x14_1).f0), .int .i64 ((rd_T53 l1 x14_1).f1), .int .i64 ((rd_T53 l1 x14_1).f2), .int .i64 ((rd_T53 l1 x14_1).f3), .bool ((rd_T53 l1 x14_1).f4), .bool ((rd_T53 l1 x14_1).f5)] 53 (0, 0))) := ⟨(by rw [hw]; exact (by (with_reducible repeat (first | refine blk_drewN ?_ _ | refine blk_drew ?_ | refine blk_alloc ?_ _)); refine blk_put (cs := #[.int .u8 ((rd_T53 l1 x14_1).f0), .int .i64 ((rd_T53 l1 x14_1).f1), .int .i64 ((rd_T53 l1 x14_1).f2), .int .i64 ((rd_T53 l1 x14_1).f3), .bool ((rd_T53 l1 x14_1).f4), .bool false]) ?_ 5 _ rfl; (with_reducible repeat (first | refine blk_drewN ?_ _ | refine blk_drew ?_ | refine blk_alloc ?_ _)); refine blk_put (cs := #[.int .u8 ((rd_T53 l1 x14_1).f0), .int .i64 ((rd_T53 l1 x14_1).f1), .int .i64 ((rd_T53 l1 x14_1).f2), .int .i64 ((rd_T53 l1 x14_1).f3), .bool false, .bool false]) ?_ 4 _ rfl; (with_reducible repeat (first | refine blk_drewN ?_ _ | refine blk_drew ?_ | refine blk_alloc ?_ _)); refine blk_put (cs := #[.int .u8 ((rd_T53 l1 x14_1).f0), .int .i64 ((rd_T53 l1 x14_1).f1), .int .i64 ((rd_T53 l1 x14_1).f2), .int .i64 0, .bool false, .bool false]) ?_ 3 _ rfl; (with_reducible repeat (first | refine blk_drewN ?_ _ | refine blk_drew ?_ | refine blk_alloc ?_ _)); refine blk_put (cs := #[.int .u8 ((rd_T53 l1 x14_1).f0), .int .i64 ((rd_T53 l1 x14_1).f1), .int .i64 0, .int .i64 0, .bool false, .bool false]) ?_ 2 _ rfl; (with_reducible repeat (first | refine blk_drewN ?_ _ | refine blk_drew ?_ | refine blk_alloc ?_ _)); refine blk_put (cs := #[.int .u8 ((rd_T53 l1 x14_1).f0), .int .i64 0, .int .i64 0, .int .i64 0, .bool false, .bool false]) ?_ 1 _ rfl; (with_reducible repeat (first | refine blk_drewN ?_ _ | refine blk_drew ?_ | refine blk_alloc ?_ _)); refine blk_put (cs := #[.int .u8 0, .int .i64 0, .int .i64 0, .int .i64 0, .bool false, .bool false]) ?_ 0 _ rfl; (with_reducible repeat (first | refine blk_drewN ?_ _ | refine blk_drew ?_ | refine blk_alloc ?_ _)); exact BK111.out))⟩; have n2_ : Aside0 (Below w.heap.size w w16) := ⟨(by rw [hw]; exact (bw HB))⟩; clear hw; clear HO_6; clear BK111; clear HB; have HO_6 := n0_; have BK111 := n1_; have HB := n2_; clear n0_ n1_ n2_; have p11 : 0 ≤ (x14_1 : Int) := of_decide_eq_true (by first | (with_reducible assumption) | assumption); have q11 : (x14_1 : Int) < ((x6_1.length : Int) : Int) := of_decide_eq_true (by first | (with_reducible assumption) | assumption); obtain ⟨go11, co11, eo11, gb11, gl11, cl11, HG11⟩ := Kd.R_form HO_6.out (by omega); (first | cases eo11 | (injection eo11 with ea_ en_ ec_; (first | subst ea_ | (injection ea_ with ea_; subst ea_)); subst ec_; clear en_)); have GB11 := Aside0.mk gb11; have GG11 := Aside0.mk HG11; clear gb11 gl11 HG11; obtain ⟨hx11_0, hf11_0⟩ := Kd.R_celln false HO_6.out (x14_1 : Int) p11 q11; replace p11 := eq_true p11; replace q11 := eq_true q11; obtain ⟨hy17_, hz17_⟩ := Kd.R_celln false HO_6.out (x14_1 : Int) (of_decide_eq_true (by first | (with_reducible assumption) | assumption)) (of_decide_eq_true (by first | (with_reducible assumption) | assumption)); have HP17 := Kd.R_putg HO_6.out (x14_1 : Int) true) | ((with_reducible refine gate_store (t := 4) (p := 21) rfl ?_); refine store_event (t := 4) (p := 21) (v := ?vo_w18) (w1 := (w16.setCell ⟨go11, (x14_1 : Int).toNat, none⟩ (.bool true))) ?hg ?ho ?hn ?hr ?_; (case ho => rfl); (case hg => rfl); (case hn => rfl); (case hr => first | (go_simp; done) | (go_simp; rfl)); intro w18 hw; have hg : w16.grownBy w18 (some go11) := (by rw [hw]; exact HP17.2); have hp_ : Kd.R Kd.bool 4 w18 w.heap.size (fun _ => True) (.slice (some ⟨go11, 0, none⟩) x6_1.length co11) y112 := (by rw [hw, Ny112.out]; exact HP17.1); clear HP17; replace BK111 := Aside0.mk (blk_grown (bx BK111) hg (by first | exact Kd.R_ne HO_6.out BK111.out (by decide) | exact (fun e => by have z := And.left HO_6.out _ e.symm; simp at z))); replace HO_6 := Aside0.mk (hp_); replace HB := Aside0.mk ((by rw [hw]; exact below_set (HB.out) GB11.out : Below w.heap.size w w18)); clear hg hw hp_; obtain ⟨hcz19_0, hcz19_1, hcz19_2, hcz19_3, hcz19_4, hcz19_5⟩ := cz6 BK111; obtain ⟨hfz19_0, hfz19_1, hfz19_2, hfz19_3, hfz19_4, hfz19_5⟩ := fz6 BK111))
           go_ret2
           exact ⟨_, by first | rfl | (simp [errW_none, errW_some] <;> rfl) | (simp [*, errW_none, errW_some] <;> rfl), by first | exact Kd.R_nil _ _ _ _ _ | exact Kd.N_nil _ _ _ _ _ | exact Kd.V_nil _ _ _ _ _ | exact Kd.Q_nil _ _ _ _ _ | exact Kd.S_nil _ _ _ _ _, by repeat (first | (with_reducible first | exact HB.out | apply below_alloc | apply pw_below_drewN | apply below_drew1 | refine below_set ?_ GE111.out) | exact HB.out)⟩
          ·rw [if_neg c13] at H
           have c13b0 : decide (((rd_T53 l1 x14_1).f2) < 0) = false := decide_eq_false c13
           clear c13
           by_cases c20 : ((rd_T53 l1 x14_1).f2) ≥ (l0.length : Int)
           ·rw [if_pos c20] at H
            have c20b0 : decide ((l0.length : Int) ≤ ((rd_T53 l1 x14_1).f2)) = true := decide_eq_true c20
            clear c20
            simp only [Option.some.injEq, Prod.mk.injEq] at H
            obtain ⟨rfl, rfl⟩ := H
            have p110 : 0 ≤ (x14_1 : Int) := of_decide_eq_true (by first | (with_reducible assumption) | assumption)
            have q110 : x14_1 < (l1.length : Int) := of_decide_eq_true (by first | (with_reducible assumption) | assumption)
            obtain ⟨ad110, e110, hx110_0, hx110_1, hx110_2, hx110_3, hx110_4, hx110_5⟩ := at_T53 HR1.out x14_1 p110 q110
            cases e110
            replace hx110_0 := (HB.out.cell (World.block_lt_of_cell? w _ hx110_0)).trans hx110_0
            replace hx110_1 := (HB.out.cell (World.block_lt_of_cell? w _ hx110_1)).trans hx110_1
            replace hx110_2 := (HB.out.cell (World.block_lt_of_cell? w _ hx110_2)).trans hx110_2
            replace hx110_3 := (HB.out.cell (World.block_lt_of_cell? w _ hx110_3)).trans hx110_3
            replace hx110_4 := (HB.out.cell (World.block_lt_of_cell? w _ hx110_4)).trans hx110_4
            replace hx110_5 := (HB.out.cell (World.block_lt_of_cell? w _ hx110_5)).trans hx110_5
            replace p110 := eq_true p110
            replace q110 := eq_true q110
            go_wp2_with (first | ((with_reducible refine gate_dst (N := 8) rfl ?_); (try (refine gate_guard (by rfl) ?_; dsimp only)); refine box_event ?hg (N := 8) ?hd (cs := #[.int .u8 0, .int .i64 0, .int .i64 0, .int .i64 0, .bool false, .bool false]) (t := 53) ?hr ?_; (case hd => rfl); (case hg => rfl); (case hr => first | (go_simp; done) | (go_simp; rfl)); intro gb111 hg w21 hbox hb; replace HO_6 := Aside0.mk (Kd.R_below (rx HO_6) hb); have BK111 := Aside0.mk (hbox); have GW111 := bge HB hg; have GE111 := bge HB hg; replace HB := bh HB hb; clear hb hbox hg; obtain ⟨hcz22_0, hcz22_1, hcz22_2, hcz22_3, hcz22_4, hcz22_5⟩ := cz6 BK111; obtain ⟨hfz22_0, hfz22_1, hfz22_2, hfz22_3, hfz22_4, hfz22_5⟩ := fz6 BK111) | ((with_reducible refine gate_store (t := 53) (p := 8) rfl ?_); refine store_event (t := 53) (p := 8) (v := ?vo_w23) (w1 := ((((((w21.setCell ⟨gb111, 0, none⟩ (.int .u8 ((rd_T53 l1 x14_1).f0))).setCell ⟨gb111, 1, none⟩ (.int .i64 ((rd_T53 l1 x14_1).f1))).setCell ⟨gb111, 2, none⟩ (.int .i64 ((rd_T53 l1 x14_1).f2))).setCell ⟨gb111, 3, none⟩ (.int .i64 ((rd_T53 l1 x14_1).f3))).setCell ⟨gb111, 4, none⟩ (.bool ((rd_T53 l1 x14_1).f4))).setCell ⟨gb111, 5, none⟩ (.bool ((rd_T53 l1 x14_1).f5)))) ?hg ?ho ?hn ?hr ?_; (case ho => rfl); (case hg => rfl); (case hn => rfl); (case hr => first | (go_simp; done) | (go_simp; rfl)); intro w23 hw; have n0_ : Aside0 (Kd.R Kd.bool 4 w23 w.heap.size (fun _ => True) v108 x6_1) := ⟨(by rw [hw]; exact (by (with_reducible repeat (first | apply Kd.R_alloc | apply Kd.R_drewN | apply Kd.R_drew)); exact Kd.R_mono (Kd.R_far (p := ⟨gb111, 5, none⟩) (Kd.R_far (p := ⟨gb111, 4, none⟩) (Kd.R_far (p := ⟨gb111, 3, none⟩) (Kd.R_far (p := ⟨gb111, 2, none⟩) (Kd.R_far (p := ⟨gb111, 1, none⟩) (Kd.R_far (p := ⟨gb111, 0, none⟩) (Kd.R_types HO_6.out BK111.out (by decide)) (fun _ hk => hk.2) (.int .u8 ((rd_T53 l1 x14_1).f0))) (fun _ hk => hk.2) (.int .i64 ((rd_T53 l1 x14_1).f1))) (fun _ hk => hk.2) (.int .i64 ((rd_T53 l1 x14_1).f2))) (fun _ hk => hk.2) (.int .i64 ((rd_T53 l1 x14_1).f3))) (fun _ hk => hk.2) (.bool ((rd_T53 l1 x14_1).f4))) (fun _ hk => hk.2) (.bool ((rd_T53 l1 x14_1).f5))) (fun _ hk => trivial)))⟩; have n1_ : Aside0 (w23.heap[gb111]? = some (.cells #[.int .u8 ((rd_T53 l1 x14_1).f0), .int .i64 ((rd_T53 l1 x14_1).f1), .int .i64 ((rd_T53 l1 x14_1).f2), .int .i64 ((rd_T53 l1 x14_1).f3), .bool ((rd_T53 l1 x14_1).f4), .bool ((rd_T53 l1 x14_1).f5)] 53 (0, 0))) := ⟨(by rw [hw]; exact (by (with_reducible repeat (first | refine blk_drewN ?_ _ | refine blk_drew ?_ | refine blk_alloc ?_ _)); refine blk_put (cs := #[.int .u8 ((rd_T53 l1 x14_1).f0), .int .i64 ((rd_T53 l1 x14_1).f1), .int .i64 ((rd_T53 l1 x14_1).f2), .int .i64 ((rd_T53 l1 x14_1).f3), .bool ((rd_T53 l1 x14_1).f4), .bool false]) ?_ 5 _ rfl; (with_reducible repeat (first | refine blk_drewN ?_ _ | refine blk_drew ?_ | refine blk_alloc ?_ _)); refine blk_put (cs := #[.int .u8 ((rd_T53 l1 x14_1).f0), .int .i64 ((rd_T53 l1 x14_1).f1), .int .i64 ((rd_T53 l1 x14_1).f2), .int .i64 ((rd_T53 l1 x14_1).f3), .bool false, .bool false]) ?_ 4 _ rfl; (with_reducible repeat (first | refine blk_drewN ?_ _ | refine blk_drew ?_ | refine blk_alloc ?_ _)); refine blk_put (cs := #[.int .u8 ((rd_T53 l1 x14_1).f0), .int .i64 ((rd_T53 l1 x14_1).f1), .int .i64 ((rd_T53 l1 x14_1).f2), .int .i64 0, .bool false, .bool false]) ?_ 3 _ rfl; (with_reducible repeat (first | refine blk_drewN ?_ _ | refine blk_drew ?_ | refine blk_alloc ?_ _)); refine blk_put (cs := #[.int .u8 ((rd_T53 l1 x14_1).f0), .int .i64 ((rd_T53 l1 x14_1).f1), .int .i64 0, .int .i64 0, .bool false, .bool false]) ?_ 2 _ rfl; (with_reducible repeat (first | refine blk_drewN ?_ _ | refine blk_drew ?_ | refine blk_alloc ?_ _)); refine blk_put (cs := #[.int .u8 ((rd_T53 l1 x14_1).f0), .int .i64 0, .int .i64 0, .int .i64 0, .bool false, .bool false]) ?_ 1 _ rfl; (with_reducible repeat (first | refine blk_drewN ?_ _ | refine blk_drew ?_ | refine blk_alloc ?_ _)); refine blk_put (cs := #[.int .u8 0, .int .i64 0, .int .i64 0, .int .i64 0, .bool false, .bool false]) ?_ 0 _ rfl; (with_reducible repeat (first | refine blk_drewN ?_ _ | refine blk_drew ?_ | refine blk_alloc ?_ _)); exact BK111.out))⟩; have n2_ : Aside0 (Below w.heap.size w w23) := ⟨(by rw [hw]; exact (bw HB))⟩; clear hw; clear HO_6; clear BK111; clear HB; have HO_6 := n0_; have BK111 := n1_; have HB := n2_; clear n0_ n1_ n2_; have p11 : 0 ≤ (x14_1 : Int) := of_decide_eq_true (by first | (with_reducible assumption) | assumption); have q11 : (x14_1 : Int) < ((x6_1.length : Int) : Int) := of_decide_eq_true (by first | (with_reducible assumption) | assumption); obtain ⟨go11, co11, eo11, gb11, gl11, cl11, HG11⟩ := Kd.R_form HO_6.out (by omega); (first | cases eo11 | (injection eo11 with ea_ en_ ec_; (first | subst ea_ | (injection ea_ with ea_; subst ea_)); subst ec_; clear en_)); have GB11 := Aside0.mk gb11; have GG11 := Aside0.mk HG11; clear gb11 gl11 HG11; obtain ⟨hx11_0, hf11_0⟩ := Kd.R_celln false HO_6.out (x14_1 : Int) p11 q11; replace p11 := eq_true p11; replace q11 := eq_true q11; obtain ⟨hy24_, hz24_⟩ := Kd.R_celln false HO_6.out (x14_1 : Int) (of_decide_eq_true (by first | (with_reducible assumption) | assumption)) (of_decide_eq_true (by first | (with_reducible assumption) | assumption)); have HP24 := Kd.R_putg HO_6.out (x14_1 : Int) true) | ((with_reducible refine gate_store (t := 4) (p := 21) rfl ?_); refine store_event (t := 4) (p := 21) (v := ?vo_w25) (w1 := (w23.setCell ⟨go11, (x14_1 : Int).toNat, none⟩ (.bool true))) ?hg ?ho ?hn ?hr ?_; (case ho => rfl); (case hg => rfl); (case hn => rfl); (case hr => first | (go_simp; done) | (go_simp; rfl)); intro w25 hw; have hg : w23.grownBy w25 (some go11) := (by rw [hw]; exact HP24.2); have hp_ : Kd.R Kd.bool 4 w25 w.heap.size (fun _ => True) (.slice (some ⟨go11, 0, none⟩) x6_1.length co11) y112 := (by rw [hw, Ny112.out]; exact HP24.1); clear HP24; replace BK111 := Aside0.mk (blk_grown (bx BK111) hg (by first | exact Kd.R_ne HO_6.out BK111.out (by decide) | exact (fun e => by have z := And.left HO_6.out _ e.symm; simp at z))); replace HO_6 := Aside0.mk (hp_); replace HB := Aside0.mk ((by rw [hw]; exact below_set (HB.out) GB11.out : Below w.heap.size w w25)); clear hg hw hp_; obtain ⟨hcz26_0, hcz26_1, hcz26_2, hcz26_3, hcz26_4, hcz26_5⟩ := cz6 BK111; obtain ⟨hfz26_0, hfz26_1, hfz26_2, hfz26_3, hfz26_4, hfz26_5⟩ := fz6 BK111))
            go_ret2
            exact ⟨_, by first | rfl | (simp [errW_none, errW_some] <;> rfl) | (simp [*, errW_none, errW_some] <;> rfl), by first | exact Kd.R_nil _ _ _ _ _ | exact Kd.N_nil _ _ _ _ _ | exact Kd.V_nil _ _ _ _ _ | exact Kd.Q_nil _ _ _ _ _ | exact Kd.S_nil _ _ _ _ _, by repeat (first | (with_reducible first | exact HB.out | apply below_alloc | apply pw_below_drewN | apply below_drew1 | refine below_set ?_ GE111.out) | exact HB.out)⟩
           ·rw [if_neg c20] at H
            have c20b0 : decide ((l0.length : Int) ≤ ((rd_T53 l1 x14_1).f2)) = false := decide_eq_false c20
            clear c20
            by_cases c27 : 0 ≤ ((rd_T53 l1 x14_1).f2)
            ·rw [if_pos c27] at H
             have c27b0 : decide (0 ≤ ((rd_T53 l1 x14_1).f2)) = true := decide_eq_true c27
             clear c27
             by_cases c28 : ((rd_T53 l1 x14_1).f2) < (l0.length : Int)
             ·rw [if_pos c28] at H
              have c28b0 : decide (((rd_T53 l1 x14_1).f2) < (l0.length : Int)) = true := decide_eq_true c28
              clear c28
              replace H := Option.bind_eq_some_iff.mp H
              obtain ⟨t114, A290, H⟩ := H
              replace H : (ellipsis_Whole.l0 k1 l0 (y112.set (x14_1 : Int).toNat (!t114)) l1 (l1.length : Int) (wrap64 (x14_1 + 1))) = some (r1, r2) := H
              have A29 := Aside0.mk A290
              clear A290
              obtain ⟨y115, hy115⟩ : ∃ y_ : List Bool, y_ = (y112.set (x14_1 : Int).toNat (!t114)) := ⟨_, rfl⟩
              replace H : (ellipsis_Whole.l0 k1 l0 y115 l1 (l1.length : Int) (wrap64 (x14_1 + 1))) = some (r1, r2) := by first | (rw [hy115]; with_reducible exact H) | (have H2_ := (Option.bind_some _ _).symm.trans H; rw [hy115]; with_reducible exact H2_) | (have H2_ := (Option.bind_some _ _).symm.trans H; with_reducible exact H2_) | with_reducible exact H | (rw [hy115]; exact H) | exact H
              have Ny115 := Aside0.mk hy115
              clear hy115
              have H' := Aside0.mk H
              clear H
              have p110 : 0 ≤ (x14_1 : Int) := of_decide_eq_true (by first | (with_reducible assumption) | assumption)
              have q110 : x14_1 < (l1.length : Int) := of_decide_eq_true (by first | (with_reducible assumption) | assumption)
              obtain ⟨ad110, e110, hx110_0, hx110_1, hx110_2, hx110_3, hx110_4, hx110_5⟩ := at_T53 HR1.out x14_1 p110 q110
              cases e110
              replace hx110_0 := (HB.out.cell (World.block_lt_of_cell? w _ hx110_0)).trans hx110_0
              replace hx110_1 := (HB.out.cell (World.block_lt_of_cell? w _ hx110_1)).trans hx110_1
              replace hx110_2 := (HB.out.cell (World.block_lt_of_cell? w _ hx110_2)).trans hx110_2
              replace hx110_3 := (HB.out.cell (World.block_lt_of_cell? w _ hx110_3)).trans hx110_3
              replace hx110_4 := (HB.out.cell (World.block_lt_of_cell? w _ hx110_4)).trans hx110_4
              replace hx110_5 := (HB.out.cell (World.block_lt_of_cell? w _ hx110_5)).trans hx110_5
              replace p110 := eq_true p110
              replace q110 := eq_true q110
              go_wp2_with (first | ((with_reducible refine gate_dst (N := 8) rfl ?_); (try (refine gate_guard (by rfl) ?_; dsimp only)); refine box_event ?hg (N := 8) ?hd (cs := #[.int .u8 0, .int .i64 0, .int .i64 0, .int .i64 0, .bool false, .bool false]) (t := 53) ?hr ?_; (case hd => rfl); (case hg => rfl); (case hr => first | (go_simp; done) | (go_simp; rfl)); intro gb111 hg w31 hbox hb; replace HO_6 := Aside0.mk (Kd.R_below (rx HO_6) hb); have BK111 := Aside0.mk (hbox); have GW111 := bge HB hg; have GE111 := bge HB hg; replace HB := bh HB hb; clear hb hbox hg; obtain ⟨hcz32_0, hcz32_1, hcz32_2, hcz32_3, hcz32_4, hcz32_5⟩ := cz6 BK111; obtain ⟨hfz32_0, hfz32_1, hfz32_2, hfz32_3, hfz32_4, hfz32_5⟩ := fz6 BK111) | ((with_reducible refine gate_store (t := 53) (p := 8) rfl ?_); refine store_event (t := 53) (p := 8) (v := ?vo_w33) (w1 := ((((((w31.setCell ⟨gb111, 0, none⟩ (.int .u8 ((rd_T53 l1 x14_1).f0))).setCell ⟨gb111, 1, none⟩ (.int .i64 ((rd_T53 l1 x14_1).f1))).setCell ⟨gb111, 2, none⟩ (.int .i64 ((rd_T53 l1 x14_1).f2))).setCell ⟨gb111, 3, none⟩ (.int .i64 ((rd_T53 l1 x14_1).f3))).setCell ⟨gb111, 4, none⟩ (.bool ((rd_T53 l1 x14_1).f4))).setCell ⟨gb111, 5, none⟩ (.bool ((rd_T53 l1 x14_1).f5)))) ?hg ?ho ?hn ?hr ?_; (case ho => rfl); (case hg => rfl); (case hn => rfl); (case hr => first | (go_simp; done) | (go_simp; rfl)); intro w33 hw; have n0_ : Aside0 (Kd.R Kd.bool 4 w33 w.heap.size (fun _ => True) v108 x6_1) := ⟨(by rw [hw]; exact (by (with_reducible repeat (first | apply Kd.R_alloc | apply Kd.R_drewN | apply Kd.R_drew)); exact Kd.R_mono (Kd.R_far (p := ⟨gb111, 5, none⟩) (Kd.R_far (p := ⟨gb111, 4, none⟩) (Kd.R_far (p := ⟨gb111, 3, none⟩) (Kd.R_far (p := ⟨gb111, 2, none⟩) (Kd.R_far (p := ⟨gb111, 1, none⟩) (Kd.R_far (p := ⟨gb111, 0, none⟩) (Kd.R_types HO_6.out BK111.out (by decide)) (fun _ hk => hk.2) (.int .u8 ((rd_T53 l1 x14_1).f0))) (fun _ hk => hk.2) (.int .i64 ((rd_T53 l1 x14_1).f1))) (fun _ hk => hk.2) (.int .i64 ((rd_T53 l1 x14_1).f2))) (fun _ hk => hk.2) (.int .i64 ((rd_T53 l1 x14_1).f3))) (fun _ hk => hk.2) (.bool ((rd_T53 l1 x14_1).f4))) (fun _ hk => hk.2) (.bool ((rd_T53 l1 x14_1).f5))) (fun _ hk => trivial)))⟩; have n1_ : Aside0 (w33.heap[gb111]? = some (.cells #[.int .u8 ((rd_T53 l1 x14_1).f0), .int .i64 ((rd_T53 l1 x14_1).f1), .int .i64 ((rd_T53 l1 x14_1).f2), .int .i64 ((rd_T53 l1 x14_1).f3), .bool ((rd_T53 l1 x14_1).f4), .bool ((rd_T53 l1 x14_1).f5)] 53 (0, 0))) := ⟨(by rw [hw]; exact (by (with_reducible repeat (first | refine blk_drewN ?_ _ | refine blk_drew ?_ | refine blk_alloc ?_ _)); refine blk_put (cs := #[.int .u8 ((rd_T53 l1 x14_1).f0), .int .i64 ((rd_T53 l1 x14_1).f1), .int .i64 ((rd_T53 l1 x14_1).f2), .int .i64 ((rd_T53 l1 x14_1).f3), .bool ((rd_T53 l1 x14_1).f4), .bool false]) ?_ 5 _ rfl; (with_reducible repeat (first | refine blk_drewN ?_ _ | refine blk_drew ?_ | refine blk_alloc ?_ _)); refine blk_put (cs := #[.int .u8 ((rd_T53 l1 x14_1).f0), .int .i64 ((rd_T53 l1 x14_1).f1), .int .i64 ((rd_T53 l1 x14_1).f2), .int .i64 ((rd_T53 l1 x14_1).f3), .bool false, .bool false]) ?_ 4 _ rfl; (with_reducible repeat (first | refine blk_drewN ?_ _ | refine blk_drew ?_ | refine blk_alloc ?_ _)); refine blk_put (cs := #[.int .u8 ((rd_T53 l1 x14_1).f0), .int .i64 ((rd_T53 l1 x14_1).f1), .int .i64 ((rd_T53 l1 x14_1).f2), .int .i64 0, .bool false, .bool false]) ?_ 3 _ rfl; (with_reducible repeat (first | refine blk_drewN ?_ _ | refine blk_drew ?_ | refine blk_alloc ?_ _)); refine blk_put (cs := #[.int .u8 ((rd_T53 l1 x14_1).f0), .int .i64 ((rd_T53 l1 x14_1).f1), .int .i64 0, .int .i64 0, .bool false, .bool false]) ?_ 2 _ rfl; (with_reducible repeat (first | refine blk_drewN ?_ _ | refine blk_drew ?_ | refine blk_alloc ?_ _)); refine blk_put (cs := #[.int .u8 ((rd_T53 l1 x14_1).f0), .int .i64 0, .int .i64 0, .int .i64 0, .bool false, .bool false]) ?_ 1 _ rfl; (with_reducible repeat (first | refine blk_drewN ?_ _ | refine blk_drew ?_ | refine blk_alloc ?_ _)); refine blk_put (cs := #[.int .u8 0, .int .i64 0, .int .i64 0, .int .i64 0, .bool false, .bool false]) ?_ 0 _ rfl; (with_reducible repeat (first | refine blk_drewN ?_ _ | refine blk_drew ?_ | refine blk_alloc ?_ _)); exact BK111.out))⟩; have n2_ : Aside0 (Below w.heap.size w w33) := ⟨(by rw [hw]; exact (bw HB))⟩; clear hw; clear HO_6; clear BK111; clear HB; have HO_6 := n0_; have BK111 := n1_; have HB := n2_; clear n0_ n1_ n2_; have p11 : 0 ≤ (x14_1 : Int) := of_decide_eq_true (by first | (with_reducible assumption) | assumption); have q11 : (x14_1 : Int) < ((x6_1.length : Int) : Int) := of_decide_eq_true (by first | (with_reducible assumption) | assumption); obtain ⟨go11, co11, eo11, gb11, gl11, cl11, HG11⟩ := Kd.R_form HO_6.out (by omega); (first | cases eo11 | (injection eo11 with ea_ en_ ec_; (first | subst ea_ | (injection ea_ with ea_; subst ea_)); subst ec_; clear en_)); have GB11 := Aside0.mk gb11; have GG11 := Aside0.mk HG11; clear gb11 gl11 HG11; obtain ⟨hx11_0, hf11_0⟩ := Kd.R_celln false HO_6.out (x14_1 : Int) p11 q11; replace p11 := eq_true p11; replace q11 := eq_true q11; obtain ⟨hy34_, hz34_⟩ := Kd.R_celln false HO_6.out (x14_1 : Int) (of_decide_eq_true (by first | (with_reducible assumption) | assumption)) (of_decide_eq_true (by first | (with_reducible assumption) | assumption)); have HP34 := Kd.R_putg HO_6.out (x14_1 : Int) true) | ((with_reducible refine gate_store (t := 4) (p := 21) rfl ?_); refine store_event (t := 4) (p := 21) (v := ?vo_w35) (w1 := (w33.setCell ⟨go11, (x14_1 : Int).toNat, none⟩ (.bool true))) ?hg ?ho ?hn ?hr ?_; (case ho => rfl); (case hg => rfl); (case hn => rfl); (case hr => first | (go_simp; done) | (go_simp; rfl)); intro w35 hw; have hg : w33.grownBy w35 (some go11) := (by rw [hw]; exact HP34.2); have hp_ : Kd.R Kd.bool 4 w35 w.heap.size (fun _ => True) (.slice (some ⟨go11, 0, none⟩) x6_1.length co11) y112 := (by rw [hw, Ny112.out]; exact HP34.1); clear HP34; replace BK111 := Aside0.mk (blk_grown (bx BK111) hg (by first | exact Kd.R_ne HO_6.out BK111.out (by decide) | exact (fun e => by have z := And.left HO_6.out _ e.symm; simp at z))); replace HO_6 := Aside0.mk (hp_); replace HB := Aside0.mk ((by rw [hw]; exact below_set (HB.out) GB11.out : Below w.heap.size w w35)); clear hg hw hp_; obtain ⟨hcz36_0, hcz36_1, hcz36_2, hcz36_3, hcz36_4, hcz36_5⟩ := cz6 BK111; obtain ⟨hfz36_0, hfz36_1, hfz36_2, hfz36_3, hfz36_4, hfz36_5⟩ := fz6 BK111; have p113 : 0 ≤ (((rd_T53 l1 x14_1).f2) : Int) := of_decide_eq_true (by first | (with_reducible assumption) | assumption); have q113 : ((rd_T53 l1 x14_1).f2) < (l0.length : Int) := of_decide_eq_true (by first | (with_reducible assumption) | assumption); obtain ⟨ad113, e113, hx113_0, hx113_1, hx113_2, hx113_3, hx113_4⟩ := at_T78 HR0.out ((rd_T53 l1 x14_1).f2) p113 q113; cases e113; replace hx113_0 := (HB.out.cell (World.block_lt_of_cell? w _ hx113_0)).trans hx113_0; replace hx113_1 := (HB.out.cell (World.block_lt_of_cell? w _ hx113_1)).trans hx113_1; replace hx113_2 := (HB.out.cell (World.block_lt_of_cell? w _ hx113_2)).trans hx113_2; replace hx113_3 := (HB.out.cell (World.block_lt_of_cell? w _ hx113_3)).trans hx113_3; replace hx113_4 := (HB.out.cell (World.block_lt_of_cell? w _ hx113_4)).trans hx113_4; replace p113 := eq_true p113; replace q113 := eq_true q113) | ((with_reducible refine gate_callee (f := 32) rfl ?_); refine goesB (some 43) rfl rfl Try.func32 #[.int .i32 ((rd_T78 l0 ((rd_T53 l1 x14_1).f2)).f0)] rfl ?_; (with_reducible refine (class_Mark.calls ((rd_T78 l0 ((rd_T53 l1 x14_1).f2)).f0) t114 _ A29.out).mono ?_); rintro e w37 ⟨rfl, hb⟩; refine ⟨_, rfl, ?_⟩; replace HO_6 := Aside0.mk (Kd.R_below (rx HO_6) hb); replace BK111 := bb BK111 hb; replace HB := bh HB hb; (try clear hb); (try clear hb2); (try clear hk); (try clear hi); have p30 : 0 ≤ (x14_1 : Int) := of_decide_eq_true (by first | (with_reducible assumption) | assumption); have q30 : (x14_1 : Int) < ((x6_1.length : Int) : Int) := of_decide_eq_true (by first | (with_reducible assumption) | assumption); obtain ⟨hx30_0, hf30_0⟩ := Kd.R_celln false HO_6.out (x14_1 : Int) p30 q30; replace p30 := eq_true p30; replace q30 := eq_true q30; obtain ⟨hy38_, hz38_⟩ := Kd.R_celln false HO_6.out (x14_1 : Int) (of_decide_eq_true (by first | (with_reducible assumption) | assumption)) (of_decide_eq_true (by first | (with_reducible assumption) | assumption)); have HP38 := Kd.R_putg HO_6.out (x14_1 : Int) (!t114)) | ((with_reducible refine gate_store (t := 4) (p := 45) rfl ?_); refine store_event (t := 4) (p := 45) (v := ?vo_w39) (w1 := (w37.setCell ⟨go11, (x14_1 : Int).toNat, none⟩ (.bool (!t114)))) ?hg ?ho ?hn ?hr ?_; (case ho => rfl); (case hg => rfl); (case hn => rfl); (case hr => first | (go_simp; done) | (go_simp; rfl)); intro w39 hw; have hg : w37.grownBy w39 (some go11) := (by rw [hw]; exact HP38.2); have hp_ : Kd.R Kd.bool 4 w39 w.heap.size (fun _ => True) (.slice (some ⟨go11, 0, none⟩) x6_1.length co11) y115 := (by rw [hw, Ny115.out]; exact HP38.1); clear HP38; replace BK111 := Aside0.mk (blk_grown (bx BK111) hg (by first | exact Kd.R_ne HO_6.out BK111.out (by decide) | exact (fun e => by have z := And.left HO_6.out _ e.symm; simp at z))); replace HO_6 := Aside0.mk (hp_); replace HB := Aside0.mk ((by rw [hw]; exact below_set (HB.out) GB11.out : Below w.heap.size w w39)); clear hg hw hp_))
              go_roundg k1
              case measure => have := HK1.out; omega
              case rel => exact ⟨(y115), (wrap64 (x14_1 + 1)), (by first | rfl | (simp; done) | (simp [*]; done)), H', ⟨by have := HK1.out; omega⟩, ⟨by (with_reducible repeat (first | apply Kd.R_alloc | apply Kd.R_drewN | apply Kd.R_drew)); exact HO_6.out⟩, ⟨by repeat (first | (with_reducible first | exact HB.out | apply below_alloc | apply pw_below_drewN | apply below_drew1 | refine below_set ?_ GE111.out) | exact HB.out)⟩⟩
             ·rw [if_neg c28] at H
              exact absurd H (by simp)
            ·rw [if_neg c27] at H
             exact absurd H (by simp)
         ·rw [if_neg c12] at H
          have c12b0 : (((rd_T53 l1 x14_1).f0) == 0) = false := beq_eq_false_iff_ne.mpr c12
          have c12b1 : (((rd_T53 l1 x14_1).f0) != 0) = true := bne_iff_ne.mpr c12
          have H' := Aside0.mk H
          clear H
          have p110 : 0 ≤ (x14_1 : Int) := of_decide_eq_true (by first | (with_reducible assumption) | assumption)
          have q110 : x14_1 < (l1.length : Int) := of_decide_eq_true (by first | (with_reducible assumption) | assumption)
          obtain ⟨ad110, e110, hx110_0, hx110_1, hx110_2, hx110_3, hx110_4, hx110_5⟩ := at_T53 HR1.out x14_1 p110 q110
          cases e110
          replace hx110_0 := (HB.out.cell (World.block_lt_of_cell? w _ hx110_0)).trans hx110_0
          replace hx110_1 := (HB.out.cell (World.block_lt_of_cell? w _ hx110_1)).trans hx110_1
          replace hx110_2 := (HB.out.cell (World.block_lt_of_cell? w _ hx110_2)).trans hx110_2
          replace hx110_3 := (HB.out.cell (World.block_lt_of_cell? w _ hx110_3)).trans hx110_3
          replace hx110_4 := (HB.out.cell (World.block_lt_of_cell? w _ hx110_4)).trans hx110_4
          replace hx110_5 := (HB.out.cell (World.block_lt_of_cell? w _ hx110_5)).trans hx110_5
          replace p110 := eq_true p110
          replace q110 := eq_true q110
          go_wp2_with (first | ((with_reducible refine gate_dst (N := 8) rfl ?_); (try (refine gate_guard (by rfl) ?_; dsimp only)); refine box_event ?hg (N := 8) ?hd (cs := #[.int .u8 0, .int .i64 0, .int .i64 0, .int .i64 0, .bool false, .bool false]) (t := 53) ?hr ?_; (case hd => rfl); (case hg => rfl); (case hr => first | (go_simp; done) | (go_simp; rfl)); intro gb111 hg w40 hbox hb; replace HO_6 := Aside0.mk (Kd.R_below (rx HO_6) hb); have BK111 := Aside0.mk (hbox); have GW111 := bge HB hg; have GE111 := bge HB hg; replace HB := bh HB hb; clear hb hbox hg; obtain ⟨hcz41_0, hcz41_1, hcz41_2, hcz41_3, hcz41_4, hcz41_5⟩ := cz6 BK111; obtain ⟨hfz41_0, hfz41_1, hfz41_2, hfz41_3, hfz41_4, hfz41_5⟩ := fz6 BK111) | ((with_reducible refine gate_store (t := 53) (p := 8) rfl ?_); refine store_event (t := 53) (p := 8) (v := ?vo_w42) (w1 := ((((((w40.setCell ⟨gb111, 0, none⟩ (.int .u8 ((rd_T53 l1 x14_1).f0))).setCell ⟨gb111, 1, none⟩ (.int .i64 ((rd_T53 l1 x14_1).f1))).setCell ⟨gb111, 2, none⟩ (.int .i64 ((rd_T53 l1 x14_1).f2))).setCell ⟨gb111, 3, none⟩ (.int .i64 ((rd_T53 l1 x14_1).f3))).setCell ⟨gb111, 4, none⟩ (.bool ((rd_T53 l1 x14_1).f4))).setCell ⟨gb111, 5, none⟩ (.bool ((rd_T53 l1 x14_1).f5)))) ?hg ?ho ?hn ?hr ?_; (case ho => rfl); (case hg => rfl); (case hn => rfl); (case hr => first | (go_simp; done) | (go_simp; rfl)); intro w42 hw; have n0_ : Aside0 (Kd.R Kd.bool 4 w42 w.heap.size (fun _ => True) v108 x6_1) := ⟨(by rw [hw]; exact (by (with_reducible repeat (first | apply Kd.R_alloc | apply Kd.R_drewN | apply Kd.R_drew)); exact Kd.R_mono (Kd.R_far (p := ⟨gb111, 5, none⟩) (Kd.R_far (p := ⟨gb111, 4, none⟩) (Kd.R_far (p := ⟨gb111, 3, none⟩) (Kd.R_far (p := ⟨gb111, 2, none⟩) (Kd.R_far (p := ⟨gb111, 1, none⟩) (Kd.R_far (p := ⟨gb111, 0, none⟩) (Kd.R_types HO_6.out BK111.out (by decide)) (fun _ hk => hk.2) (.int .u8 ((rd_T53 l1 x14_1).f0))) (fun _ hk => hk.2) (.int .i64 ((rd_T53 l1 x14_1).f1))) (fun _ hk => hk.2) (.int .i64 ((rd_T53 l1 x14_1).f2))) (fun _ hk => hk.2) (.int .i64 ((rd_T53 l1 x14_1).f3))) (fun _ hk => hk.2) (.bool ((rd_T53 l1 x14_1).f4))) (fun _ hk => hk.2) (.bool ((rd_T53 l1 x14_1).f5))) (fun _ hk => trivial)))⟩; have n1_ : Aside0 (w42.heap[gb111]? = some (.cells #[.int .u8 ((rd_T53 l1 x14_1).f0), .int .i64 ((rd_T53 l1 x14_1).f1), .int .i64 ((rd_T53 l1 x14_1).f2), .int .i64 ((rd_T53 l1 x14_1).f3), .bool ((rd_T53 l1 x14_1).f4), .bool ((rd_T53 l1 x14_1).f5)] 53 (0, 0))) := ⟨(by rw [hw]; exact (by (with_reducible repeat (first | refine blk_drewN ?_ _ | refine blk_drew ?_ | refine blk_alloc ?_ _)); refine blk_put (cs := #[.int .u8 ((rd_T53 l1 x14_1).f0), .int .i64 ((rd_T53 l1 x14_1).f1), .int .i64 ((rd_T53 l1 x14_1).f2), .int .i64 ((rd_T53 l1 x14_1).f3), .bool ((rd_T53 l1 x14_1).f4), .bool false]) ?_ 5 _ rfl; (with_reducible repeat (first | refine blk_drewN ?_ _ | refine blk_drew ?_ | refine blk_alloc ?_ _)); refine blk_put (cs := #[.int .u8 ((rd_T53 l1 x14_1).f0), .int .i64 ((rd_T53 l1 x14_1).f1), .int .i64 ((rd_T53 l1 x14_1).f2), .int .i64 ((rd_T53 l1 x14_1).f3), .bool false, .bool false]) ?_ 4 _ rfl; (with_reducible repeat (first | refine blk_drewN ?_ _ | refine blk_drew ?_ | refine blk_alloc ?_ _)); refine blk_put (cs := #[.int .u8 ((rd_T53 l1 x14_1).f0), .int .i64 ((rd_T53 l1 x14_1).f1), .int .i64 ((rd_T53 l1 x14_1).f2), .int .i64 0, .bool false, .bool false]) ?_ 3 _ rfl; (with_reducible repeat (first | refine blk_drewN ?_ _ | refine blk_drew ?_ | refine blk_alloc ?_ _)); refine blk_put (cs := #[.int .u8 ((rd_T53 l1 x14_1).f0), .int .i64 ((rd_T53 l1 x14_1).f1), .int .i64 0, .int .i64 0, .bool false, .bool false]) ?_ 2 _ rfl; (with_reducible repeat (first | refine blk_drewN ?_ _ | refine blk_drew ?_ | refine blk_alloc ?_ _)); refine blk_put (cs := #[.int .u8 ((rd_T53 l1 x14_1).f0), .int .i64 0, .int .i64 0, .int .i64 0, .bool false, .bool false]) ?_ 1 _ rfl; (with_reducible repeat (first | refine blk_drewN ?_ _ | refine blk_drew ?_ | refine blk_alloc ?_ _)); refine blk_put (cs := #[.int .u8 0, .int .i64 0, .int .i64 0, .int .i64 0, .bool false, .bool false]) ?_ 0 _ rfl; (with_reducible repeat (first | refine blk_drewN ?_ _ | refine blk_drew ?_ | refine blk_alloc ?_ _)); exact BK111.out))⟩; have n2_ : Aside0 (Below w.heap.size w w42) := ⟨(by rw [hw]; exact (bw HB))⟩; clear hw; clear HO_6; clear BK111; clear HB; have HO_6 := n0_; have BK111 := n1_; have HB := n2_; clear n0_ n1_ n2_; have p11 : 0 ≤ (x14_1 : Int) := of_decide_eq_true (by first | (with_reducible assumption) | assumption); have q11 : (x14_1 : Int) < ((x6_1.length : Int) : Int) := of_decide_eq_true (by first | (with_reducible assumption) | assumption); obtain ⟨go11, co11, eo11, gb11, gl11, cl11, HG11⟩ := Kd.R_form HO_6.out (by omega); (first | cases eo11 | (injection eo11 with ea_ en_ ec_; (first | subst ea_ | (injection ea_ with ea_; subst ea_)); subst ec_; clear en_)); have GB11 := Aside0.mk gb11; have GG11 := Aside0.mk HG11; clear gb11 gl11 HG11; obtain ⟨hx11_0, hf11_0⟩ := Kd.R_celln false HO_6.out (x14_1 : Int) p11 q11; replace p11 := eq_true p11; replace q11 := eq_true q11; obtain ⟨hy43_, hz43_⟩ := Kd.R_celln false HO_6.out (x14_1 : Int) (of_decide_eq_true (by first | (with_reducible assumption) | assumption)) (of_decide_eq_true (by first | (with_reducible assumption) | assumption)); have HP43 := Kd.R_putg HO_6.out (x14_1 : Int) true) | ((with_reducible refine gate_store (t := 4) (p := 21) rfl ?_); refine store_event (t := 4) (p := 21) (v := ?vo_w44) (w1 := (w42.setCell ⟨go11, (x14_1 : Int).toNat, none⟩ (.bool true))) ?hg ?ho ?hn ?hr ?_; (case ho => rfl); (case hg => rfl); (case hn => rfl); (case hr => first | (go_simp; done) | (go_simp; rfl)); intro w44 hw; have hg : w42.grownBy w44 (some go11) := (by rw [hw]; exact HP43.2); have hp_ : Kd.R Kd.bool 4 w44 w.heap.size (fun _ => True) (.slice (some ⟨go11, 0, none⟩) x6_1.length co11) y112 := (by rw [hw, Ny112.out]; exact HP43.1); clear HP43; replace BK111 := Aside0.mk (blk_grown (bx BK111) hg (by first | exact Kd.R_ne HO_6.out BK111.out (by decide) | exact (fun e => by have z := And.left HO_6.out _ e.symm; simp at z))); replace HO_6 := Aside0.mk (hp_); replace HB := Aside0.mk ((by rw [hw]; exact below_set (HB.out) GB11.out : Below w.heap.size w w44)); clear hg hw hp_; obtain ⟨hcz45_0, hcz45_1, hcz45_2, hcz45_3, hcz45_4, hcz45_5⟩ := cz6 BK111; obtain ⟨hfz45_0, hfz45_1, hfz45_2, hfz45_3, hfz45_4, hfz45_5⟩ := fz6 BK111))
          go_roundg k1
          case measure => have := HK1.out; omega
          case rel => exact ⟨(y112), (wrap64 (x14_1 + 1)), (by first | rfl | (simp; done) | (simp [*]; done)), H', ⟨by have := HK1.out; omega⟩, ⟨by (with_reducible repeat (first | apply Kd.R_alloc | apply Kd.R_drewN | apply Kd.R_drew)); exact HO_6.out⟩, ⟨by repeat (first | (with_reducible first | exact HB.out | apply below_alloc | apply pw_below_drewN | apply below_drew1 | refine below_set ?_ GE111.out) | exact HB.out)⟩⟩
        ·rw [if_neg c10] at H
         exact absurd H (by simp)
       ·rw [if_neg c9] at H
        exact absurd H (by simp)
      ·rw [if_neg c8] at H
       exact absurd H (by simp)
     ·rw [if_neg c7] at H
      have c7b0 : decide (x14_1 < (l1.length : Int)) = false := decide_eq_false c7
      clear c7
      simp only [Option.some.injEq, Prod.mk.injEq] at H
      obtain ⟨rfl, rfl⟩ := H
      go_wp2
      go_ret2
      exact ⟨_, by first | rfl | (simp [errW_none, errW_some] <;> rfl) | (simp [*, errW_none, errW_some] <;> rfl), by (with_reducible repeat (first | apply Kd.R_alloc | apply Kd.R_drewN | apply Kd.R_drew)); exact HO_6.out, by repeat (first | (with_reducible first | exact HB.out | apply below_alloc | apply pw_below_drewN | apply below_drew1) | exact HB.out)⟩
  ·rw [if_neg c4] at H
   exact absurd H (by simp)
 ·rw [if_neg c3] at H
  exact absurd H (by simp)

-- NOT PRINTED: function 51 (bits_Add64)

/-! ### unit_fit: function 52 -/
def unit_fit.f (a0 : Int) : Option (Int × Int) := if a0 < (-4611686018427387904) then (some (0, 10)) else (if a0 > 4611686018427387904 then (some (0, 10)) else (some (a0, 0)))
set_option maxHeartbeats 8000000 in
set_option maxRecDepth 100000 in
theorem unit_fit.calls (a0 r1 r2 : Int) (w : World) (h : unit_fit.f a0 = some (r1, r2)) :
  Calls Try.prog 52 #[.int .i64 a0] w fun e w' => e = .returned (.tuple #[.int .i64 r1, .int .i64 r2]) ∧ Drawn0 w w' := by
 have H : (if a0 < (-4611686018427387904) then (some (0, 10)) else (if a0 > 4611686018427387904 then (some (0, 10)) else (some (a0, 0)))) = some (r1, r2) := h
 clear h
 by_cases c2 : a0 < (-4611686018427387904)
 ·rw [if_pos c2] at H
  have c2b0 : decide (a0 < (-4611686018427387904)) = true := decide_eq_true c2
  clear c2
  simp only [Option.some.injEq, Prod.mk.injEq] at H
  obtain ⟨rfl, rfl⟩ := H
  go_enter Try.func52, Try.ntmps52
  go_wp2
  go_ret2
  exact ⟨by first | rfl | (simp; done) | (simp [*]; done), by repeat (first | exact Drawn0.refl _ | apply Drawn0.step)⟩
 ·rw [if_neg c2] at H
  have c2b0 : decide (a0 < (-4611686018427387904)) = false := decide_eq_false c2
  clear c2
  by_cases c3 : a0 > 4611686018427387904
  ·rw [if_pos c3] at H
   have c3b0 : decide (4611686018427387904 < a0) = true := decide_eq_true c3
   clear c3
   simp only [Option.some.injEq, Prod.mk.injEq] at H
   obtain ⟨rfl, rfl⟩ := H
   go_enter Try.func52, Try.ntmps52
   go_wp2
   go_ret2
   exact ⟨by first | rfl | (simp; done) | (simp [*]; done), by repeat (first | exact Drawn0.refl _ | apply Drawn0.step)⟩
  ·rw [if_neg c3] at H
   have c3b0 : decide (4611686018427387904 < a0) = false := decide_eq_false c3
   clear c3
   simp only [Option.some.injEq, Prod.mk.injEq] at H
   obtain ⟨rfl, rfl⟩ := H
   go_enter Try.func52, Try.ntmps52
   go_wp2
   go_ret2
   exact ⟨by first | rfl | (simp; done) | (simp [*]; done), by repeat (first | exact Drawn0.refl _ | apply Drawn0.step)⟩

end Go.Proofs.Ytkaiibipcnlaiaa.HEllW
