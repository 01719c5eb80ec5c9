-- Written by this claim's own program over the kit's print.
import Derived.Test.YtkaiibipcnlaiaaHEllWb
import Derived.Test.YtkaiibipcnlaiaaHEllWx0
import Derived.Test.YtkaiibipcnlaiaaHEllWx2
import Derived.Test.YtkaiibipcnlaiaaHEllWx5
import Derived.Test.YtkaiibipcnlaiaaHEllWx14
import Derived.Test.YtkaiibipcnlaiaaMB
import Derived.StillTailTactics
import Derived.Laws.Externs
import Derived.BigFrameIn
import Derived.Lib.Hide
import Derived.Sort.LoopGhostIn
import Derived.BigQuiet
import Derived.Test.YtkaiibipcnlaiaaHEllWb
namespace Go.Proofs.Ytkaiibipcnlaiaa.HEllW
open Go.RowKit Go.Proofs.YtkaiibipcnlaiaaW.PrintWords Go.Proofs.YtkaiibipcnlaiaaW.PrintLast Go.Proofs.YtkaiibipcnlaiaaW.PrintMore Go.Proofs.Ytkaiibipcnlaiaa.Hand
attribute [local go_sem] max2_int min2_int max_two min_two max_three min_three max_four min_four   -- for this text's walks alone
set_option linter.unusedVariables false
set_option linter.unusedSimpArgs false

/-! ### stickfullaw26_cuts: function 42 -/
def stickfullaw26_cuts.l0 : Nat → Int → List (S78) → List (S53) → Int → Option (Int × Int × Bool)
 | 0, _, _, _, _ => none
 | k + 1, x0, x5, x6, x7 => if x7 < 6 then (if x7 = 3 then (if x5.length < 3518437208883 then (if x6.length < 3518437208883 then (stickfullaw26_cuts.l0 k x0 (x5 ++ [(⟨769, 0, 0, 0, 0⟩ : S78)]) (x6 ++ [(⟨0, 0, x7, 10, false, false⟩ : S53)]) (wrap64 (x7 + 1))) else (none)) else (none)) else (if x5.length < 3518437208883 then (if x6.length < 3518437208883 then (stickfullaw26_cuts.l0 k x0 (x5 ++ [(⟨97, 0, 0, 0, 0⟩ : S78)]) (x6 ++ [(⟨0, 0, x7, 10, false, false⟩ : S53)]) (wrap64 (x7 + 1))) else (none)) else (none))) else ((ellipsis_Whole.f k x5 x6).bind fun bt159 => ((ellipsis_Cut.f x6 bt159.1 0 6 false x0 0 10).bind fun bt163 => (if bt163.2.2.2 = 0 then (some (bt163.1, bt163.2.1, bt163.2.2.1)) else (some ((-1), 0, false)))))
def stickfullaw26_cuts.f (k : Nat) (a0 : Int) : Option (Int × Int × Bool) := stickfullaw26_cuts.l0 k a0 ([] : List (S78)) ([] : List (S53)) 0
theorem stickfullaw26_cuts.mono_l : ∀ k, (∀ y0 y1 y2 y3, LeO (stickfullaw26_cuts.l0 k y0 y1 y2 y3) (stickfullaw26_cuts.l0 (k + 1) y0 y1 y2 y3))
 | 0 => fun _ _ _ _ r h => by simp [stickfullaw26_cuts.l0] at h
 | k + 1 => by
  have ih0 := stickfullaw26_cuts.mono_l k
  ·intro y0 y1 y2 y3
   unfold stickfullaw26_cuts.l0
   repeat' first
   | (with_reducible exact ih0 _ _ _ _)
   | (with_reducible exact ellipsis_Whole.mono _ _ _)
   | (with_reducible exact LeO.refl _)
   | (with_reducible exact LeO.none _)
   | (with_reducible refine LeO.ite ?_ ?_)
   | (with_reducible refine LeO.bind ?_ (fun _ => ?_))
   | exact ih0 _ _ _ _
   | exact ellipsis_Whole.mono _ _ _
   | exact LeO.none _
   | refine LeO.ite ?_ ?_
   | refine LeO.bind ?_ (fun _ => ?_)
theorem stickfullaw26_cuts.mono : ∀ a0 k, LeO (stickfullaw26_cuts.f k a0) (stickfullaw26_cuts.f (k + 1) a0) := by
 intro a0 k
 have ih0 := stickfullaw26_cuts.mono_l k
 unfold stickfullaw26_cuts.f
 repeat' first
   | (with_reducible exact ih0 _ _ _ _)
   | (with_reducible exact ellipsis_Whole.mono _ _ _)
   | (with_reducible exact LeO.refl _)
   | (with_reducible exact LeO.none _)
   | (with_reducible refine LeO.ite ?_ ?_)
   | (with_reducible refine LeO.bind ?_ (fun _ => ?_))
   | exact ih0 _ _ _ _
   | exact ellipsis_Whole.mono _ _ _
   | exact LeO.none _
   | refine LeO.ite ?_ ?_
   | refine LeO.bind ?_ (fun _ => ?_)
set_option maxHeartbeats 8000000 in
set_option maxRecDepth 100000 in
theorem stickfullaw26_cuts.calls (k : Nat) (a0 r1 r2 : Int) (r3 : Bool) (w : World) (h : stickfullaw26_cuts.f k a0 = some (r1, r2, r3)) :
  Calls Try.prog 42 #[.int .i64 a0] w fun e w' => e = .returned (.tuple #[.int .i64 r1, .int .i64 r2, .bool r3]) ∧ Below w.heap.size w w' := by
 have hu78 := Try.underlying78
 have hu53 := Try.underlying53
 have hu25 := Try.underlying25
 have hu29 := Try.underlying29
 have HB := Aside0.mk (Below.refl w.heap.size w)
 have H : (stickfullaw26_cuts.l0 k a0 ([] : List (S78)) ([] : List (S53)) 0) = some (r1, r2, r3) := h
 clear h
 have H' := Aside0.mk H
 clear H
 go_enter Try.func42, Try.ntmps42
 go_wp2
 go_loopg [5, 6, 7] k (fun kq v5 v6 v7 w' => ∃ (x5_1 : List (S78)) (x6_1 : List (S53)) (x7_1 : Int), v7 = .int .i64 x7_1 ∧ Aside0 (stickfullaw26_cuts.l0 kq a0 x5_1 x6_1 x7_1 = some (r1, r2, r3)) ∧ Aside0 (kq ≤ k) ∧ Aside0 (Kd.R k78 78 w' w.heap.size (fun _ => True) v5 x5_1) ∧ Aside0 (Kd.R k53 53 w' w.heap.size (fun _ => True) v6 x6_1) ∧ Aside0 (Below w.heap.size w w'))
 case atStart => exact ⟨(([] : List (S78))), (([] : List (S53))), (0), (by first | rfl | (simp; done) | (simp [*]; done)), H', ⟨Nat.le_refl _⟩, ⟨by first | exact Kd.R_nil _ _ _ _ _ | exact Kd.N_nil _ _ _ _ _ | exact Kd.V_nil _ _ _ _ _ | exact Kd.Q_nil _ _ _ _ _ | exact Kd.S_nil _ _ _ _ _⟩, ⟨by first | exact Kd.R_nil _ _ _ _ _ | exact Kd.N_nil _ _ _ _ _ | exact Kd.V_nil _ _ _ _ _ | exact Kd.Q_nil _ _ _ _ _ | exact Kd.S_nil _ _ _ _ _⟩, ⟨by repeat (first | (with_reducible first | exact HB.out | apply below_alloc | apply pw_below_drewN | apply below_drew1) | exact HB.out)⟩⟩
 case round =>
  clear H'
  obtain ⟨x5_1, x6_1, x7_1, rfl, HA, HK1, HO_5, HO_6, HB⟩ := hrel
  cases gk with
  | zero => exact absurd HA.out (by simp [stickfullaw26_cuts.l0])
  | succ k1 =>
   have H := HA.out
   clear HA
   simp only [stickfullaw26_cuts.l0] at H
   by_cases c2 : x7_1 < 6
   ·rw [if_pos c2] at H
    have c2b0 : decide (x7_1 < 6) = true := decide_eq_true c2
    clear c2
    by_cases c3 : x7_1 = 3
    ·rw [if_pos c3] at H
     have c3b0 : (x7_1 == 3) = true := beq_iff_eq.mpr c3
     have c3b1 : (x7_1 != 3) = false := bne_eq_false_iff_eq.mpr c3
     clear c3
     by_cases c4 : x5_1.length < 3518437208883
     ·rw [if_pos c4] at H
      have LMc4 := Aside0.mk c4
      clear c4
      obtain ⟨y147, hy147⟩ : ∃ y_ : List (S78), y_ = (x5_1 ++ [(⟨769, 0, 0, 0, 0⟩ : S78)]) := ⟨_, rfl⟩
      replace H : (if x6_1.length < 3518437208883 then (stickfullaw26_cuts.l0 k1 a0 y147 (x6_1 ++ [(⟨0, 0, x7_1, 10, false, false⟩ : S53)]) (wrap64 (x7_1 + 1))) else (none)) = some (r1, r2, r3) := by first | (rw [hy147]; with_reducible exact H) | (have H2_ := (Option.bind_some _ _).symm.trans H; rw [hy147]; with_reducible exact H2_) | (have H2_ := (Option.bind_some _ _).symm.trans H; with_reducible exact H2_) | with_reducible exact H | (rw [hy147]; exact H) | exact H
      have Ny147 := Aside0.mk hy147
      clear hy147
      by_cases c5 : x6_1.length < 3518437208883
      ·rw [if_pos c5] at H
       have LMc5 := Aside0.mk c5
       clear c5
       obtain ⟨y150, hy150⟩ : ∃ y_ : List (S53), y_ = (x6_1 ++ [(⟨0, 0, x7_1, 10, false, false⟩ : S53)]) := ⟨_, rfl⟩
       replace H : (stickfullaw26_cuts.l0 k1 a0 y147 y150 (wrap64 (x7_1 + 1))) = some (r1, r2, r3) := by first | (rw [hy150]; with_reducible exact H) | (have H2_ := (Option.bind_some _ _).symm.trans H; rw [hy150]; with_reducible exact H2_) | (have H2_ := (Option.bind_some _ _).symm.trans H; with_reducible exact H2_) | with_reducible exact H | (rw [hy150]; exact H) | exact H
       have Ny150 := Aside0.mk hy150
       clear hy150
       have H' := Aside0.mk H
       clear H
       go_wp2_with (first | ((with_reducible refine gate_dst (N := 8) rfl ?_); refine box_event ?hg (N := 8) ?hd (cs := #[.int .i32 0, .int .i64 0, .int .i64 0, .int .i64 0, .int .u8 0]) (t := 78) ?hr ?_; (case hd => rfl); (case hg => rfl); (case hr => first | (go_simp; done) | (go_simp; rfl)); intro gb146 hg w6 hbox hb; replace HO_5 := Aside0.mk (Kd.R_below (Kd.R_elderB (rx HO_5) gb146 (Nat.le_of_eq hg.symm)) hb); replace HO_6 := Aside0.mk (Kd.R_below (rx HO_6) hb); have BK146 := Aside0.mk (hbox); have GW146 := bge HB hg; have GE146 := bge HB hg; replace HB := bh HB hb; clear hb hbox hg; obtain ⟨hcz7_0, hcz7_1, hcz7_2, hcz7_3, hcz7_4⟩ := cz5 BK146; obtain ⟨hfz7_0, hfz7_1, hfz7_2, hfz7_3, hfz7_4⟩ := fz5 BK146) | ((with_reducible refine gate_builtin (b := .append) (xs := #[.tmp 23, .tmp 25]) rfl ?_); at_builtin; refine Kd.R_append k78 (w0 := w) w.heap.size rfl (.tmp 23) (.tmp 25) 44 78 (.agg #[(.int .i32 0), (.int .i64 0), (.int .i64 0), (.int .i64 0), (.int .u8 0)]) 40 rfl Try.underlying44 info78 rfl (by decide) (by omega) u5 x5_1 (⟨769, 0, 0, 0, 0⟩ : S78) [.int .i32 769, .int .i64 0, .int .i64 0, .int .i64 0, .int .u8 0] (fun k_ => k_ ≠ gb146) (fun _ => False) rfl (by first | (go_simp; done) | (go_simp; rfl)) ?aP (fun _ hk => hk.elim) ?aF ?aO ?aB ?aS ?aL ?_; (case aP => exact k78_mkM _ _ _ (⟨769, 0, 0, 0, 0⟩ : S78)); (case aB => exact (bw HB)); (case aF => exact (fun k_ hk => Kd.freshB (o := .cells #[.int .i32 769, .int .i64 0, .int .i64 0, .int .i64 0, .int .u8 0] 78 (0, 0)) (bp BK146) k_ hk)); (case aO => exact (by (with_reducible repeat (first | apply Kd.R_alloc | apply Kd.R_drewN | apply Kd.R_drew)); exact Kd.R_mono (Kd.R_far (p := ⟨gb146, 0, none⟩) (Kd.R_far (p := ⟨gb146, 4, none⟩) (Kd.R_far (p := ⟨gb146, 3, none⟩) (Kd.R_far (p := ⟨gb146, 2, none⟩) (Kd.R_far (p := ⟨gb146, 1, none⟩) (Kd.R_far (p := ⟨gb146, 0, none⟩) (Kd.R_mono HO_5.out (fun k_ hk => (⟨hk, hk.2⟩ : _ ∧ k_ ≠ gb146))) (fun _ hk => hk.2) (.int .i32 97)) (fun _ hk => hk.2) (.int .i64 0)) (fun _ hk => hk.2) (.int .i64 0)) (fun _ hk => hk.2) (.int .i64 0)) (fun _ hk => hk.2) (.int .u8 0)) (fun _ hk => hk.2) (.int .i32 769)) (fun _ hk => hk.1.2))); (case aS => exact (below_size (bw HB))); (case aL => have := LMc4.out; omega); intro v148 w8 ho hb hg hat; rw [← Ny147.out] at ho; replace HO_6 := Aside0.mk (Kd.R_over' (by (with_reducible repeat (first | apply Kd.R_alloc | apply Kd.R_drewN | apply Kd.R_drew)); exact (Kd.R_mono (Kd.R_far (p := ⟨gb146, 0, none⟩) (Kd.R_far (p := ⟨gb146, 4, none⟩) (Kd.R_far (p := ⟨gb146, 3, none⟩) (Kd.R_far (p := ⟨gb146, 2, none⟩) (Kd.R_far (p := ⟨gb146, 1, none⟩) (Kd.R_far (p := ⟨gb146, 0, none⟩) (Kd.R_types HO_6.out BK146.out (by decide)) (fun _ hk => hk.2) (.int .i32 97)) (fun _ hk => hk.2) (.int .i64 0)) (fun _ hk => hk.2) (.int .i64 0)) (fun _ hk => hk.2) (.int .i64 0)) (fun _ hk => hk.2) (.int .u8 0)) (fun _ hk => hk.2) (.int .i32 769)) (fun _ h_ => h_.1))) (Kd.R_typed (by (with_reducible repeat (first | apply Kd.R_alloc | apply Kd.R_drewN | apply Kd.R_drew)); exact (Kd.R_mono (Kd.R_far (p := ⟨gb146, 0, none⟩) (Kd.R_far (p := ⟨gb146, 4, none⟩) (Kd.R_far (p := ⟨gb146, 3, none⟩) (Kd.R_far (p := ⟨gb146, 2, none⟩) (Kd.R_far (p := ⟨gb146, 1, none⟩) (Kd.R_far (p := ⟨gb146, 0, none⟩) (Kd.R_mono HO_5.out (fun k_ hk => (⟨hk, hk.2⟩ : _ ∧ k_ ≠ gb146))) (fun _ hk => hk.2) (.int .i32 97)) (fun _ hk => hk.2) (.int .i64 0)) (fun _ hk => hk.2) (.int .i64 0)) (fun _ hk => hk.2) (.int .i64 0)) (fun _ hk => hk.2) (.int .u8 0)) (fun _ hk => hk.2) (.int .i32 769)) (fun _ h_ => h_.1)))) (by decide) hg); replace BK146 := Aside0.mk (blk_grown (o := .cells #[.int .i32 769, .int .i64 0, .int .i64 0, .int .i64 0, .int .u8 0] 78 (0, 0)) (bp BK146) hg (Kd.R_away HO_5.out (fun _ hk => hk.2))); replace HB := Aside0.mk (hb); have HO149 := Aside0.mk (ho); clear HO_5; clear ho hb hg hat) | ((with_reducible refine gate_builtin (b := .append) (xs := #[.tmp 27, .tmp 30]) rfl ?_); at_builtin; refine Kd.R_append k53 (w0 := w) w.heap.size rfl (.tmp 27) (.tmp 30) 22 53 (.agg #[(.int .u8 0), (.int .i64 0), (.int .i64 0), (.int .i64 0), (.bool false), (.bool false)]) 40 rfl Try.underlying22 info53 rfl (by decide) (by omega) u6 x6_1 (⟨0, 0, x7_1, 10, false, false⟩ : S53) [.int .u8 0, .int .i64 0, .int .i64 x7_1, .int .i64 10, .bool false, .bool false] (fun _ => True) (fun _ => False) rfl rfl ?aP (fun _ hk => hk.elim) ?aF ?aO ?aB ?aS ?aL ?_; (case aP => exact k53_mkM _ _ _ (⟨0, 0, x7_1, 10, false, false⟩ : S53)); (case aB => exact (bw HB)); (case aF => exact (fun _ _ => trivial)); (case aO => exact (rx HO_6)); (case aS => exact (below_size (bw HB))); (case aL => have := LMc5.out; omega); intro v151 w9 ho hb hg hat; rw [← Ny150.out] at ho; replace BK146 := Aside0.mk (blk_grown (bx BK146) hg (by first | exact Kd.R_ne HO_6.out BK146.out (by decide) | exact (fun e => by have z := And.left HO_6.out _ e.symm; simp at z))); replace HO149 := Aside0.mk (Kd.R_over' (rx HO149) (Kd.R_typed (rx HO_6)) (by decide) hg); replace HB := Aside0.mk (hb); have HO152 := Aside0.mk (ho); clear HO_6; clear ho hb hg hat))
       go_roundg k1
       case measure => have := HK1.out; omega
       case rel => exact ⟨(y147), (y150), (wrap64 (x7_1 + 1)), (by first | rfl | (simp; done) | (simp [*]; done)), H', ⟨by have := HK1.out; omega⟩, ⟨by (with_reducible repeat (first | apply Kd.R_alloc | apply Kd.R_drewN | apply Kd.R_drew)); exact Kd.R_mono HO149.out (fun _ hk => trivial)⟩, ⟨by (with_reducible repeat (first | apply Kd.R_alloc | apply Kd.R_drewN | apply Kd.R_drew)); exact HO152.out⟩, ⟨by repeat (first | (with_reducible first | exact HB.out | apply below_alloc | apply pw_below_drewN | apply below_drew1 | refine below_set ?_ GE146.out) | exact HB.out)⟩⟩
      ·rw [if_neg c5] at H
       exact absurd H (by simp)
     ·rw [if_neg c4] at H
      exact absurd H (by simp)
    ·rw [if_neg c3] at H
     have c3b0 : (x7_1 == 3) = false := beq_eq_false_iff_ne.mpr c3
     have c3b1 : (x7_1 != 3) = true := bne_iff_ne.mpr c3
     by_cases c10 : x5_1.length < 3518437208883
     ·rw [if_pos c10] at H
      have LMc10 := Aside0.mk c10
      clear c10
      obtain ⟨y153, hy153⟩ : ∃ y_ : List (S78), y_ = (x5_1 ++ [(⟨97, 0, 0, 0, 0⟩ : S78)]) := ⟨_, rfl⟩
      replace H : (if x6_1.length < 3518437208883 then (stickfullaw26_cuts.l0 k1 a0 y153 (x6_1 ++ [(⟨0, 0, x7_1, 10, false, false⟩ : S53)]) (wrap64 (x7_1 + 1))) else (none)) = some (r1, r2, r3) := by first | (rw [hy153]; with_reducible exact H) | (have H2_ := (Option.bind_some _ _).symm.trans H; rw [hy153]; with_reducible exact H2_) | (have H2_ := (Option.bind_some _ _).symm.trans H; with_reducible exact H2_) | with_reducible exact H | (rw [hy153]; exact H) | exact H
      have Ny153 := Aside0.mk hy153
      clear hy153
      by_cases c11 : x6_1.length < 3518437208883
      ·rw [if_pos c11] at H
       have LMc11 := Aside0.mk c11
       clear c11
       obtain ⟨y156, hy156⟩ : ∃ y_ : List (S53), y_ = (x6_1 ++ [(⟨0, 0, x7_1, 10, false, false⟩ : S53)]) := ⟨_, rfl⟩
       replace H : (stickfullaw26_cuts.l0 k1 a0 y153 y156 (wrap64 (x7_1 + 1))) = some (r1, r2, r3) := by first | (rw [hy156]; with_reducible exact H) | (have H2_ := (Option.bind_some _ _).symm.trans H; rw [hy156]; with_reducible exact H2_) | (have H2_ := (Option.bind_some _ _).symm.trans H; with_reducible exact H2_) | with_reducible exact H | (rw [hy156]; exact H) | exact H
       have Ny156 := Aside0.mk hy156
       clear hy156
       have H' := Aside0.mk H
       clear H
       go_wp2_with (first | ((with_reducible refine gate_dst (N := 8) rfl ?_); refine box_event ?hg (N := 8) ?hd (cs := #[.int .i32 0, .int .i64 0, .int .i64 0, .int .i64 0, .int .u8 0]) (t := 78) ?hr ?_; (case hd => rfl); (case hg => rfl); (case hr => first | (go_simp; done) | (go_simp; rfl)); intro gb146 hg w12 hbox hb; replace HO_5 := Aside0.mk (Kd.R_below (Kd.R_elderB (rx HO_5) gb146 (Nat.le_of_eq hg.symm)) hb); replace HO_6 := Aside0.mk (Kd.R_below (rx HO_6) hb); have BK146 := Aside0.mk (hbox); have GW146 := bge HB hg; have GE146 := bge HB hg; replace HB := bh HB hb; clear hb hbox hg; obtain ⟨hcz13_0, hcz13_1, hcz13_2, hcz13_3, hcz13_4⟩ := cz5 BK146; obtain ⟨hfz13_0, hfz13_1, hfz13_2, hfz13_3, hfz13_4⟩ := fz5 BK146) | ((with_reducible refine gate_builtin (b := .append) (xs := #[.tmp 23, .tmp 25]) rfl ?_); at_builtin; refine Kd.R_append k78 (w0 := w) w.heap.size rfl (.tmp 23) (.tmp 25) 44 78 (.agg #[(.int .i32 0), (.int .i64 0), (.int .i64 0), (.int .i64 0), (.int .u8 0)]) 40 rfl Try.underlying44 info78 rfl (by decide) (by omega) u5 x5_1 (⟨97, 0, 0, 0, 0⟩ : S78) [.int .i32 97, .int .i64 0, .int .i64 0, .int .i64 0, .int .u8 0] (fun k_ => k_ ≠ gb146) (fun _ => False) rfl (by first | (go_simp; done) | (go_simp; rfl)) ?aP (fun _ hk => hk.elim) ?aF ?aO ?aB ?aS ?aL ?_; (case aP => exact k78_mkM _ _ _ (⟨97, 0, 0, 0, 0⟩ : S78)); (case aB => exact (bw HB)); (case aF => exact (fun k_ hk => Kd.freshB (o := .cells #[.int .i32 97, .int .i64 0, .int .i64 0, .int .i64 0, .int .u8 0] 78 (0, 0)) (bp BK146) k_ hk)); (case aO => exact (by (with_reducible repeat (first | apply Kd.R_alloc | apply Kd.R_drewN | apply Kd.R_drew)); exact Kd.R_mono (Kd.R_far (p := ⟨gb146, 4, none⟩) (Kd.R_far (p := ⟨gb146, 3, none⟩) (Kd.R_far (p := ⟨gb146, 2, none⟩) (Kd.R_far (p := ⟨gb146, 1, none⟩) (Kd.R_far (p := ⟨gb146, 0, none⟩) (Kd.R_mono HO_5.out (fun k_ hk => (⟨hk, hk.2⟩ : _ ∧ k_ ≠ gb146))) (fun _ hk => hk.2) (.int .i32 97)) (fun _ hk => hk.2) (.int .i64 0)) (fun _ hk => hk.2) (.int .i64 0)) (fun _ hk => hk.2) (.int .i64 0)) (fun _ hk => hk.2) (.int .u8 0)) (fun _ hk => hk.1.2))); (case aS => exact (below_size (bw HB))); (case aL => have := LMc10.out; omega); intro v154 w14 ho hb hg hat; rw [← Ny153.out] at ho; replace HO_6 := Aside0.mk (Kd.R_over' (by (with_reducible repeat (first | apply Kd.R_alloc | apply Kd.R_drewN | apply Kd.R_drew)); exact (Kd.R_mono (Kd.R_far (p := ⟨gb146, 4, none⟩) (Kd.R_far (p := ⟨gb146, 3, none⟩) (Kd.R_far (p := ⟨gb146, 2, none⟩) (Kd.R_far (p := ⟨gb146, 1, none⟩) (Kd.R_far (p := ⟨gb146, 0, none⟩) (Kd.R_types HO_6.out BK146.out (by decide)) (fun _ hk => hk.2) (.int .i32 97)) (fun _ hk => hk.2) (.int .i64 0)) (fun _ hk => hk.2) (.int .i64 0)) (fun _ hk => hk.2) (.int .i64 0)) (fun _ hk => hk.2) (.int .u8 0)) (fun _ h_ => h_.1))) (Kd.R_typed (by (with_reducible repeat (first | apply Kd.R_alloc | apply Kd.R_drewN | apply Kd.R_drew)); exact (Kd.R_mono (Kd.R_far (p := ⟨gb146, 4, none⟩) (Kd.R_far (p := ⟨gb146, 3, none⟩) (Kd.R_far (p := ⟨gb146, 2, none⟩) (Kd.R_far (p := ⟨gb146, 1, none⟩) (Kd.R_far (p := ⟨gb146, 0, none⟩) (Kd.R_mono HO_5.out (fun k_ hk => (⟨hk, hk.2⟩ : _ ∧ k_ ≠ gb146))) (fun _ hk => hk.2) (.int .i32 97)) (fun _ hk => hk.2) (.int .i64 0)) (fun _ hk => hk.2) (.int .i64 0)) (fun _ hk => hk.2) (.int .i64 0)) (fun _ hk => hk.2) (.int .u8 0)) (fun _ h_ => h_.1)))) (by decide) hg); replace BK146 := Aside0.mk (blk_grown (o := .cells #[.int .i32 97, .int .i64 0, .int .i64 0, .int .i64 0, .int .u8 0] 78 (0, 0)) (bp BK146) hg (Kd.R_away HO_5.out (fun _ hk => hk.2))); replace HB := Aside0.mk (hb); have HO155 := Aside0.mk (ho); clear HO_5; clear ho hb hg hat) | ((with_reducible refine gate_builtin (b := .append) (xs := #[.tmp 27, .tmp 30]) rfl ?_); at_builtin; refine Kd.R_append k53 (w0 := w) w.heap.size rfl (.tmp 27) (.tmp 30) 22 53 (.agg #[(.int .u8 0), (.int .i64 0), (.int .i64 0), (.int .i64 0), (.bool false), (.bool false)]) 40 rfl Try.underlying22 info53 rfl (by decide) (by omega) u6 x6_1 (⟨0, 0, x7_1, 10, false, false⟩ : S53) [.int .u8 0, .int .i64 0, .int .i64 x7_1, .int .i64 10, .bool false, .bool false] (fun _ => True) (fun _ => False) rfl rfl ?aP (fun _ hk => hk.elim) ?aF ?aO ?aB ?aS ?aL ?_; (case aP => exact k53_mkM _ _ _ (⟨0, 0, x7_1, 10, false, false⟩ : S53)); (case aB => exact (bw HB)); (case aF => exact (fun _ _ => trivial)); (case aO => exact (rx HO_6)); (case aS => exact (below_size (bw HB))); (case aL => have := LMc11.out; omega); intro v157 w15 ho hb hg hat; rw [← Ny156.out] at ho; replace BK146 := Aside0.mk (blk_grown (bx BK146) hg (by first | exact Kd.R_ne HO_6.out BK146.out (by decide) | exact (fun e => by have z := And.left HO_6.out _ e.symm; simp at z))); replace HO155 := Aside0.mk (Kd.R_over' (rx HO155) (Kd.R_typed (rx HO_6)) (by decide) hg); replace HB := Aside0.mk (hb); have HO158 := Aside0.mk (ho); clear HO_6; clear ho hb hg hat))
       go_roundg k1
       case measure => have := HK1.out; omega
       case rel => exact ⟨(y153), (y156), (wrap64 (x7_1 + 1)), (by first | rfl | (simp; done) | (simp [*]; done)), H', ⟨by have := HK1.out; omega⟩, ⟨by (with_reducible repeat (first | apply Kd.R_alloc | apply Kd.R_drewN | apply Kd.R_drew)); exact Kd.R_mono HO155.out (fun _ hk => trivial)⟩, ⟨by (with_reducible repeat (first | apply Kd.R_alloc | apply Kd.R_drewN | apply Kd.R_drew)); exact HO158.out⟩, ⟨by repeat (first | (with_reducible first | exact HB.out | apply below_alloc | apply pw_below_drewN | apply below_drew1 | refine below_set ?_ GE146.out) | exact HB.out)⟩⟩
      ·rw [if_neg c11] at H
       exact absurd H (by simp)
     ·rw [if_neg c10] at H
      exact absurd H (by simp)
   ·rw [if_neg c2] at H
    have c2b0 : decide (x7_1 < 6) = false := decide_eq_false c2
    clear c2
    replace H := Option.bind_eq_some_iff.mp H
    obtain ⟨⟨t159, t160⟩, A160, H⟩ := H
    replace H : ((ellipsis_Cut.f x6_1 t159 0 6 false a0 0 10).bind fun bt163 => (if bt163.2.2.2 = 0 then (some (bt163.1, bt163.2.1, bt163.2.2.1)) else (some ((-1), 0, false)))) = some (r1, r2, r3) := H
    have A16 := Aside0.mk A160
    clear A160
    replace H := Option.bind_eq_some_iff.mp H
    obtain ⟨⟨t163, t164, t165, t166⟩, A170, H⟩ := H
    replace H : (if t166 = 0 then (some (t163, t164, t165)) else (some ((-1), 0, false))) = some (r1, r2, r3) := H
    have A17 := Aside0.mk A170
    clear A170
    by_cases c18 : t166 = 0
    ·rw [if_pos c18] at H
     have c18b0 : (t166 == 0) = true := beq_iff_eq.mpr c18
     have c18b1 : (t166 != 0) = false := bne_eq_false_iff_eq.mpr c18
     clear c18
     simp only [Option.some.injEq, Prod.mk.injEq] at H
     obtain ⟨rfl, rfl, rfl⟩ := H
     obtain ⟨Ao19, co19, eo19⟩ := Kd.R_slice HO_5.out
     subst eo19
     obtain ⟨Ao20, co20, eo20⟩ := Kd.R_slice HO_6.out
     subst eo20
     go_wp2_with (first | ((with_reducible refine gate_callee (f := 15) rfl ?_); refine goesB (some 35) rfl rfl Try.func15 #[.slice Ao19 x5_1.length co19, .slice Ao20 x6_1.length co20] rfl ?_; (with_reducible refine (ellipsis_Whole.calls k1 _ _ x5_1 _ _ x6_1 t159 t160 _ ?side1 ?side2 ?side3 ?side4 A16.out).mono ?_); (case side1 => repeat (first | exact (Kd.R_reads' HO_5.out).2.2 | (with_reducible refine Kd.C_alloc ?_ _) | (with_reducible refine Kd.C_drewN ?_ _) | (with_reducible refine Kd.C_drew ?_))); (case side2 => exact (Kd.R_reads' HO_5.out).2.1); (case side3 => repeat (first | exact (Kd.R_reads' HO_6.out).2.2 | (with_reducible refine Kd.C_alloc ?_ _) | (with_reducible refine Kd.C_drewN ?_ _) | (with_reducible refine Kd.C_drew ?_))); (case side4 => exact (Kd.R_reads' HO_6.out).2.1); rintro e w21 ⟨v161, rfl, ho0, hb⟩; refine ⟨_, rfl, ?_⟩; replace HO_5 := Aside0.mk (Kd.R_below (rx HO_5) hb); replace HO_6 := Aside0.mk (Kd.R_below (rx HO_6) hb); have HO162 := Aside0.mk (Kd.R_lower ho0 (below_size (bw HB))); replace HB := bh HB hb; (try clear hb); (try clear hb2); (try clear hk); (try clear hi); (try clear ho0); obtain ⟨Ao22, co22, eo22⟩ := Kd.R_slice HO162.out; subst eo22) | ((with_reducible refine gate_callee (f := 10) rfl ?_); refine goesB (some 44) rfl rfl Try.func10 #[.slice Ao20 x6_1.length co20, .slice Ao22 t159.length co22, .agg #[.int .i64 0, .int .i64 6, .bool false], .agg #[.int .i64 a0, .int .i64 0], .int .i64 10] rfl ?_; (with_reducible refine (ellipsis_Cut.calls _ _ x6_1 _ _ t159 0 6 false a0 0 10 t163 t164 t165 t166 _ ?side1 ?side2 ?side3 ?side4 A17.out).mono ?_); (case side1 => repeat (first | exact (Kd.R_reads' HO_6.out).2.2 | (with_reducible refine Kd.C_alloc ?_ _) | (with_reducible refine Kd.C_drewN ?_ _) | (with_reducible refine Kd.C_drew ?_))); (case side2 => exact (Kd.R_reads' HO_6.out).2.1); (case side3 => repeat (first | exact (Kd.R_reads' HO162.out).2.2 | (with_reducible refine Kd.C_alloc ?_ _) | (with_reducible refine Kd.C_drewN ?_ _) | (with_reducible refine Kd.C_drew ?_))); (case side4 => exact (Kd.R_reads' HO162.out).2.1); rintro e w23 ⟨rfl, hb⟩; refine ⟨_, rfl, ?_⟩; replace HO_5 := Aside0.mk (Kd.R_below (rx HO_5) hb); replace HO_6 := Aside0.mk (Kd.R_below (rx HO_6) hb); replace HO162 := Aside0.mk (Kd.R_below (rx HO162) hb); replace HB := bh HB hb; (try clear hb); (try clear hb2); (try clear hk); (try clear hi)))
     go_ret3
     exact ⟨by first | rfl | (simp [errW_none, errW_some] <;> rfl) | (simp [*, errW_none, errW_some] <;> rfl), by repeat (first | (with_reducible first | exact HB.out | apply below_alloc | apply pw_below_drewN | apply below_drew1) | exact HB.out)⟩
    ·rw [if_neg c18] at H
     have c18b0 : (t166 == 0) = false := beq_eq_false_iff_ne.mpr c18
     have c18b1 : (t166 != 0) = true := bne_iff_ne.mpr c18
     simp only [Option.some.injEq, Prod.mk.injEq] at H
     obtain ⟨rfl, rfl, rfl⟩ := H
     obtain ⟨Ao24, co24, eo24⟩ := Kd.R_slice HO_5.out
     subst eo24
     obtain ⟨Ao25, co25, eo25⟩ := Kd.R_slice HO_6.out
     subst eo25
     go_wp2_with (first | ((with_reducible refine gate_callee (f := 15) rfl ?_); refine goesB (some 35) rfl rfl Try.func15 #[.slice Ao24 x5_1.length co24, .slice Ao25 x6_1.length co25] rfl ?_; (with_reducible refine (ellipsis_Whole.calls k1 _ _ x5_1 _ _ x6_1 t159 t160 _ ?side1 ?side2 ?side3 ?side4 A16.out).mono ?_); (case side1 => repeat (first | exact (Kd.R_reads' HO_5.out).2.2 | (with_reducible refine Kd.C_alloc ?_ _) | (with_reducible refine Kd.C_drewN ?_ _) | (with_reducible refine Kd.C_drew ?_))); (case side2 => exact (Kd.R_reads' HO_5.out).2.1); (case side3 => repeat (first | exact (Kd.R_reads' HO_6.out).2.2 | (with_reducible refine Kd.C_alloc ?_ _) | (with_reducible refine Kd.C_drewN ?_ _) | (with_reducible refine Kd.C_drew ?_))); (case side4 => exact (Kd.R_reads' HO_6.out).2.1); rintro e w26 ⟨v161, rfl, ho0, hb⟩; refine ⟨_, rfl, ?_⟩; replace HO_5 := Aside0.mk (Kd.R_below (rx HO_5) hb); replace HO_6 := Aside0.mk (Kd.R_below (rx HO_6) hb); have HO162 := Aside0.mk (Kd.R_lower ho0 (below_size (bw HB))); replace HB := bh HB hb; (try clear hb); (try clear hb2); (try clear hk); (try clear hi); (try clear ho0); obtain ⟨Ao27, co27, eo27⟩ := Kd.R_slice HO162.out; subst eo27) | ((with_reducible refine gate_callee (f := 10) rfl ?_); refine goesB (some 44) rfl rfl Try.func10 #[.slice Ao25 x6_1.length co25, .slice Ao27 t159.length co27, .agg #[.int .i64 0, .int .i64 6, .bool false], .agg #[.int .i64 a0, .int .i64 0], .int .i64 10] rfl ?_; (with_reducible refine (ellipsis_Cut.calls _ _ x6_1 _ _ t159 0 6 false a0 0 10 t163 t164 t165 t166 _ ?side1 ?side2 ?side3 ?side4 A17.out).mono ?_); (case side1 => repeat (first | exact (Kd.R_reads' HO_6.out).2.2 | (with_reducible refine Kd.C_alloc ?_ _) | (with_reducible refine Kd.C_drewN ?_ _) | (with_reducible refine Kd.C_drew ?_))); (case side2 => exact (Kd.R_reads' HO_6.out).2.1); (case side3 => repeat (first | exact (Kd.R_reads' HO162.out).2.2 | (with_reducible refine Kd.C_alloc ?_ _) | (with_reducible refine Kd.C_drewN ?_ _) | (with_reducible refine Kd.C_drew ?_))); (case side4 => exact (Kd.R_reads' HO162.out).2.1); rintro e w28 ⟨rfl, hb⟩; refine ⟨_, rfl, ?_⟩; replace HO_5 := Aside0.mk (Kd.R_below (rx HO_5) hb); replace HO_6 := Aside0.mk (Kd.R_below (rx HO_6) hb); replace HO162 := Aside0.mk (Kd.R_below (rx HO162) hb); replace HB := bh HB hb; (try clear hb); (try clear hb2); (try clear hk); (try clear hi)))
     go_ret3
     exact ⟨by first | rfl | (simp [errW_none, errW_some] <;> rfl) | (simp [*, errW_none, errW_some] <;> rfl), by repeat (first | (with_reducible first | exact HB.out | apply below_alloc | apply pw_below_drewN | apply below_drew1) | exact HB.out)⟩

/-! ### stickfullaw26_is: function 22 -/
def stickfullaw26_is.f (k : Nat) (a0 a1 a2 : Int) (a3 : Bool) : Option (Bool) := (stickfullaw26_cuts.f k a0).bind fun bt167 => (if bt167.1 = a1 then (if bt167.2.1 = a2 then (some (bt167.2.2 == a3)) else (some false)) else (some false))
theorem stickfullaw26_is.mono : ∀ a0 a1 a2 a3 k, LeO (stickfullaw26_is.f k a0 a1 a2 a3) (stickfullaw26_is.f (k + 1) a0 a1 a2 a3) := by
 intro a0 a1 a2 a3 k
 unfold stickfullaw26_is.f
 repeat' first
   | (with_reducible exact stickfullaw26_cuts.mono _ _)
   | (with_reducible exact LeO.refl _)
   | (with_reducible exact LeO.none _)
   | (with_reducible refine LeO.ite ?_ ?_)
   | (with_reducible refine LeO.bind ?_ (fun _ => ?_))
   | exact stickfullaw26_cuts.mono _ _
   | exact LeO.none _
   | refine LeO.ite ?_ ?_
   | refine LeO.bind ?_ (fun _ => ?_)
set_option maxHeartbeats 8000000 in
set_option maxRecDepth 100000 in
theorem stickfullaw26_is.calls (k : Nat) (a0 a1 a2 : Int) (a3 r : Bool) (w : World) (h : stickfullaw26_is.f k a0 a1 a2 a3 = some r) :
  Calls Try.prog 22 #[.int .i64 a0, .int .i64 a1, .int .i64 a2, .bool a3] w fun e w' => e = .returned (.bool r) ∧ Below w.heap.size w w' := by
 have HB := Aside0.mk (Below.refl w.heap.size w)
 have H : ((stickfullaw26_cuts.f k a0).bind fun bt167 => (if bt167.1 = a1 then (if bt167.2.1 = a2 then (some (bt167.2.2 == a3)) else (some false)) else (some false))) = some r := h
 clear h
 replace H := Option.bind_eq_some_iff.mp H
 obtain ⟨⟨t167, t168, t169⟩, A50, H⟩ := H
 replace H : (if t167 = a1 then (if t168 = a2 then (some (t169 == a3)) else (some false)) else (some false)) = some r := H
 have A5 := Aside0.mk A50
 clear A50
 by_cases c6 : t167 = a1
 ·rw [if_pos c6] at H
  have c6b0 : (t167 == a1) = true := beq_iff_eq.mpr c6
  have c6b1 : (t167 != a1) = false := bne_eq_false_iff_eq.mpr c6
  clear c6
  by_cases c7 : t168 = a2
  ·rw [if_pos c7] at H
   have c7b0 : (t168 == a2) = true := beq_iff_eq.mpr c7
   have c7b1 : (t168 != a2) = false := bne_eq_false_iff_eq.mpr c7
   clear c7
   obtain rfl := Option.some.inj H
   go_enter Try.func22, Try.ntmps22
   go_wp2_with (first | ((with_reducible refine gate_callee (f := 42) rfl ?_); refine goesB (some 14) rfl rfl Try.func42 #[.int .i64 a0] rfl ?_; (with_reducible refine (stickfullaw26_cuts.calls k a0 t167 t168 t169 _ A5.out).mono ?_); rintro e w8 ⟨rfl, hb⟩; refine ⟨_, rfl, ?_⟩; replace HB := bh HB hb; (try clear hb); (try clear hb2); (try clear hk); (try clear hi)))
   go_ret
   exact ⟨by first | rfl | (simp [errW_none, errW_some] <;> rfl) | (simp [*, errW_none, errW_some] <;> rfl), by repeat (first | (with_reducible first | exact HB.out | apply below_alloc | apply pw_below_drewN | apply below_drew1) | exact HB.out)⟩
  ·rw [if_neg c7] at H
   have c7b0 : (t168 == a2) = false := beq_eq_false_iff_ne.mpr c7
   have c7b1 : (t168 != a2) = true := bne_iff_ne.mpr c7
   obtain rfl := Option.some.inj H
   go_enter Try.func22, Try.ntmps22
   go_wp2_with (first | ((with_reducible refine gate_callee (f := 42) rfl ?_); refine goesB (some 14) rfl rfl Try.func42 #[.int .i64 a0] rfl ?_; (with_reducible refine (stickfullaw26_cuts.calls k a0 t167 t168 t169 _ A5.out).mono ?_); rintro e w9 ⟨rfl, hb⟩; refine ⟨_, rfl, ?_⟩; replace HB := bh HB hb; (try clear hb); (try clear hb2); (try clear hk); (try clear hi)))
   go_ret
   exact ⟨by first | rfl | (simp [errW_none, errW_some] <;> rfl) | (simp [*, errW_none, errW_some] <;> rfl), by repeat (first | (with_reducible first | exact HB.out | apply below_alloc | apply pw_below_drewN | apply below_drew1) | exact HB.out)⟩
 ·rw [if_neg c6] at H
  have c6b0 : (t167 == a1) = false := beq_eq_false_iff_ne.mpr c6
  have c6b1 : (t167 != a1) = true := bne_iff_ne.mpr c6
  obtain rfl := Option.some.inj H
  go_enter Try.func22, Try.ntmps22
  go_wp2_with (first | ((with_reducible refine gate_callee (f := 42) rfl ?_); refine goesB (some 14) rfl rfl Try.func42 #[.int .i64 a0] rfl ?_; (with_reducible refine (stickfullaw26_cuts.calls k a0 t167 t168 t169 _ A5.out).mono ?_); rintro e w10 ⟨rfl, hb⟩; refine ⟨_, rfl, ?_⟩; replace HB := bh HB hb; (try clear hb); (try clear hb2); (try clear hk); (try clear hi)))
  go_ret
  exact ⟨by first | rfl | (simp [errW_none, errW_some] <;> rfl) | (simp [*, errW_none, errW_some] <;> rfl), by repeat (first | (with_reducible first | exact HB.out | apply below_alloc | apply pw_below_drewN | apply below_drew1) | exact HB.out)⟩

/-! ### stickfullaw26_head: function 9 -/
def stickfullaw26_head.f (k : Nat)  : Option (Bool) := (ellipsis_Whole.f k ([] : List (S78)) (([(⟨0, 0, 0, 0, false, false⟩ : S53)] : List (S53)))).bind fun bt173 => ((ellipsis_Places.f k ([] : List (S53)) ([] : List Bool) 0 1 false).bind fun bt177 => ((stickfullaw26_is.f k 60 6 60 false).bind fun t181 => (if t181 = true then ((stickfullaw26_is.f k 59 4 40 true).bind fun t182 => (if t182 = true then ((stickfullaw26_is.f k 50 4 40 true).bind fun t183 => (if t183 = true then ((stickfullaw26_is.f k 45 2 20 true).bind fun t184 => (if t184 = true then ((stickfullaw26_is.f k 30 2 20 true).bind fun t185 => (if t185 = true then ((stickfullaw26_is.f k 9 0 0 true).bind fun t186 => (if t186 = true then (if bt173.2 = 2 then (some (bt177.2 == 2)) else (some false)) else (some false))) else (some false))) else (some false))) else (some false))) else (some false))) else (some false))))
theorem stickfullaw26_head.mono : ∀ k, LeO (stickfullaw26_head.f k ) (stickfullaw26_head.f (k + 1) ) := by
 intro  k
 unfold stickfullaw26_head.f
 repeat' first
   | (with_reducible exact ellipsis_Places.mono _ _ _ _ _ _)
   | (with_reducible exact ellipsis_Whole.mono _ _ _)
   | (with_reducible exact stickfullaw26_is.mono _ _ _ _ _)
   | (with_reducible exact LeO.refl _)
   | (with_reducible exact LeO.none _)
   | (with_reducible refine LeO.ite ?_ ?_)
   | (with_reducible refine LeO.bind ?_ (fun _ => ?_))
   | exact ellipsis_Places.mono _ _ _ _ _ _
   | exact ellipsis_Whole.mono _ _ _
   | exact stickfullaw26_is.mono _ _ _ _ _
   | exact LeO.none _
   | refine LeO.ite ?_ ?_
   | refine LeO.bind ?_ (fun _ => ?_)
set_option maxHeartbeats 8000000 in
set_option maxRecDepth 100000 in
theorem stickfullaw26_head.calls_t (k : Nat)  (r : Bool) (w : World) (h : stickfullaw26_head.f k  = some r) (hr_ : r = true) :
  Calls Try.prog 9 #[] w fun e w' => e = .returned (.bool r) ∧ Below w.heap.size w w' := by
 have hu53 := Try.underlying53
 have hu25 := Try.underlying25
 have HR_ := Aside0.mk hr_
 clear hr_
 have HB := Aside0.mk (Below.refl w.heap.size w)
 have H : ((ellipsis_Whole.f k ([] : List (S78)) (([(⟨0, 0, 0, 0, false, false⟩ : S53)] : List (S53)))).bind fun bt173 => ((ellipsis_Places.f k ([] : List (S53)) ([] : List Bool) 0 1 false).bind fun bt177 => ((stickfullaw26_is.f k 60 6 60 false).bind fun t181 => (if t181 = true then ((stickfullaw26_is.f k 59 4 40 true).bind fun t182 => (if t182 = true then ((stickfullaw26_is.f k 50 4 40 true).bind fun t183 => (if t183 = true then ((stickfullaw26_is.f k 45 2 20 true).bind fun t184 => (if t184 = true then ((stickfullaw26_is.f k 30 2 20 true).bind fun t185 => (if t185 = true then ((stickfullaw26_is.f k 9 0 0 true).bind fun t186 => (if t186 = true then (if bt173.2 = 2 then (some (bt177.2 == 2)) else (some false)) else (some false))) else (some false))) else (some false))) else (some false))) else (some false))) else (some false))))) = some r := h
 clear h
 obtain ⟨y170, hy170⟩ : ∃ y_ : List (S53), y_ = (([(⟨0, 0, 0, 0, false, false⟩ : S53)] : List (S53))) := ⟨_, rfl⟩
 replace H : ((ellipsis_Whole.f k ([] : List (S78)) y170).bind fun bt173 => ((ellipsis_Places.f k ([] : List (S53)) ([] : List Bool) 0 1 false).bind fun bt177 => ((stickfullaw26_is.f k 60 6 60 false).bind fun t181 => (if t181 = true then ((stickfullaw26_is.f k 59 4 40 true).bind fun t182 => (if t182 = true then ((stickfullaw26_is.f k 50 4 40 true).bind fun t183 => (if t183 = true then ((stickfullaw26_is.f k 45 2 20 true).bind fun t184 => (if t184 = true then ((stickfullaw26_is.f k 30 2 20 true).bind fun t185 => (if t185 = true then ((stickfullaw26_is.f k 9 0 0 true).bind fun t186 => (if t186 = true then (if bt173.2 = 2 then (some (bt177.2 == 2)) else (some false)) else (some false))) else (some false))) else (some false))) else (some false))) else (some false))) else (some false))))) = some r := by first | (rw [hy170]; with_reducible exact H) | (have H2_ := (Option.bind_some _ _).symm.trans H; rw [hy170]; with_reducible exact H2_) | (have H2_ := (Option.bind_some _ _).symm.trans H; with_reducible exact H2_) | with_reducible exact H | (rw [hy170]; exact H) | exact H
 have Ny170 := Aside0.mk hy170
 clear hy170
 replace H := Option.bind_eq_some_iff.mp H
 obtain ⟨⟨t173, t174⟩, A10, H⟩ := H
 replace H : ((ellipsis_Places.f k ([] : List (S53)) ([] : List Bool) 0 1 false).bind fun bt177 => ((stickfullaw26_is.f k 60 6 60 false).bind fun t181 => (if t181 = true then ((stickfullaw26_is.f k 59 4 40 true).bind fun t182 => (if t182 = true then ((stickfullaw26_is.f k 50 4 40 true).bind fun t183 => (if t183 = true then ((stickfullaw26_is.f k 45 2 20 true).bind fun t184 => (if t184 = true then ((stickfullaw26_is.f k 30 2 20 true).bind fun t185 => (if t185 = true then ((stickfullaw26_is.f k 9 0 0 true).bind fun t186 => (if t186 = true then (if t174 = 2 then (some (bt177.2 == 2)) else (some false)) else (some false))) else (some false))) else (some false))) else (some false))) else (some false))) else (some false)))) = some r := H
 have A1 := Aside0.mk A10
 clear A10
 replace H := Option.bind_eq_some_iff.mp H
 obtain ⟨⟨t177, t180⟩, A20, H⟩ := H
 replace H : ((stickfullaw26_is.f k 60 6 60 false).bind fun t181 => (if t181 = true then ((stickfullaw26_is.f k 59 4 40 true).bind fun t182 => (if t182 = true then ((stickfullaw26_is.f k 50 4 40 true).bind fun t183 => (if t183 = true then ((stickfullaw26_is.f k 45 2 20 true).bind fun t184 => (if t184 = true then ((stickfullaw26_is.f k 30 2 20 true).bind fun t185 => (if t185 = true then ((stickfullaw26_is.f k 9 0 0 true).bind fun t186 => (if t186 = true then (if t174 = 2 then (some (t180 == 2)) else (some false)) else (some false))) else (some false))) else (some false))) else (some false))) else (some false))) else (some false))) = some r := H
 have A2 := Aside0.mk A20
 clear A20
 replace H := Option.bind_eq_some_iff.mp H
 obtain ⟨t181, A30, H⟩ := H
 replace H : (if t181 = true then ((stickfullaw26_is.f k 59 4 40 true).bind fun t182 => (if t182 = true then ((stickfullaw26_is.f k 50 4 40 true).bind fun t183 => (if t183 = true then ((stickfullaw26_is.f k 45 2 20 true).bind fun t184 => (if t184 = true then ((stickfullaw26_is.f k 30 2 20 true).bind fun t185 => (if t185 = true then ((stickfullaw26_is.f k 9 0 0 true).bind fun t186 => (if t186 = true then (if t174 = 2 then (some (t180 == 2)) else (some false)) else (some false))) else (some false))) else (some false))) else (some false))) else (some false))) else (some false)) = some r := H
 have A3 := Aside0.mk A30
 clear A30
 by_cases c4 : t181 = true
 ·subst c4
  have H1 : ((stickfullaw26_is.f k 59 4 40 true).bind fun t182 => (if t182 = true then ((stickfullaw26_is.f k 50 4 40 true).bind fun t183 => (if t183 = true then ((stickfullaw26_is.f k 45 2 20 true).bind fun t184 => (if t184 = true then ((stickfullaw26_is.f k 30 2 20 true).bind fun t185 => (if t185 = true then ((stickfullaw26_is.f k 9 0 0 true).bind fun t186 => (if t186 = true then (if t174 = 2 then (some (t180 == 2)) else (some false)) else (some false))) else (some false))) else (some false))) else (some false))) else (some false))) = some r := by rw [if_pos rfl] at H; exact H
  clear H
  have H := H1
  clear H1
  replace H := Option.bind_eq_some_iff.mp H
  obtain ⟨t182, A50, H⟩ := H
  replace H : (if t182 = true then ((stickfullaw26_is.f k 50 4 40 true).bind fun t183 => (if t183 = true then ((stickfullaw26_is.f k 45 2 20 true).bind fun t184 => (if t184 = true then ((stickfullaw26_is.f k 30 2 20 true).bind fun t185 => (if t185 = true then ((stickfullaw26_is.f k 9 0 0 true).bind fun t186 => (if t186 = true then (if t174 = 2 then (some (t180 == 2)) else (some false)) else (some false))) else (some false))) else (some false))) else (some false))) else (some false)) = some r := H
  have A5 := Aside0.mk A50
  clear A50
  by_cases c6 : t182 = true
  ·subst c6
   have H1 : ((stickfullaw26_is.f k 50 4 40 true).bind fun t183 => (if t183 = true then ((stickfullaw26_is.f k 45 2 20 true).bind fun t184 => (if t184 = true then ((stickfullaw26_is.f k 30 2 20 true).bind fun t185 => (if t185 = true then ((stickfullaw26_is.f k 9 0 0 true).bind fun t186 => (if t186 = true then (if t174 = 2 then (some (t180 == 2)) else (some false)) else (some false))) else (some false))) else (some false))) else (some false))) = some r := by rw [if_pos rfl] at H; exact H
   clear H
   have H := H1
   clear H1
   replace H := Option.bind_eq_some_iff.mp H
   obtain ⟨t183, A70, H⟩ := H
   replace H : (if t183 = true then ((stickfullaw26_is.f k 45 2 20 true).bind fun t184 => (if t184 = true then ((stickfullaw26_is.f k 30 2 20 true).bind fun t185 => (if t185 = true then ((stickfullaw26_is.f k 9 0 0 true).bind fun t186 => (if t186 = true then (if t174 = 2 then (some (t180 == 2)) else (some false)) else (some false))) else (some false))) else (some false))) else (some false)) = some r := H
   have A7 := Aside0.mk A70
   clear A70
   by_cases c8 : t183 = true
   ·subst c8
    have H1 : ((stickfullaw26_is.f k 45 2 20 true).bind fun t184 => (if t184 = true then ((stickfullaw26_is.f k 30 2 20 true).bind fun t185 => (if t185 = true then ((stickfullaw26_is.f k 9 0 0 true).bind fun t186 => (if t186 = true then (if t174 = 2 then (some (t180 == 2)) else (some false)) else (some false))) else (some false))) else (some false))) = some r := by rw [if_pos rfl] at H; exact H
    clear H
    have H := H1
    clear H1
    replace H := Option.bind_eq_some_iff.mp H
    obtain ⟨t184, A90, H⟩ := H
    replace H : (if t184 = true then ((stickfullaw26_is.f k 30 2 20 true).bind fun t185 => (if t185 = true then ((stickfullaw26_is.f k 9 0 0 true).bind fun t186 => (if t186 = true then (if t174 = 2 then (some (t180 == 2)) else (some false)) else (some false))) else (some false))) else (some false)) = some r := H
    have A9 := Aside0.mk A90
    clear A90
    by_cases c10 : t184 = true
    ·subst c10
     have H1 : ((stickfullaw26_is.f k 30 2 20 true).bind fun t185 => (if t185 = true then ((stickfullaw26_is.f k 9 0 0 true).bind fun t186 => (if t186 = true then (if t174 = 2 then (some (t180 == 2)) else (some false)) else (some false))) else (some false))) = some r := by rw [if_pos rfl] at H; exact H
     clear H
     have H := H1
     clear H1
     replace H := Option.bind_eq_some_iff.mp H
     obtain ⟨t185, A110, H⟩ := H
     replace H : (if t185 = true then ((stickfullaw26_is.f k 9 0 0 true).bind fun t186 => (if t186 = true then (if t174 = 2 then (some (t180 == 2)) else (some false)) else (some false))) else (some false)) = some r := H
     have A11 := Aside0.mk A110
     clear A110
     by_cases c12 : t185 = true
     ·subst c12
      have H1 : ((stickfullaw26_is.f k 9 0 0 true).bind fun t186 => (if t186 = true then (if t174 = 2 then (some (t180 == 2)) else (some false)) else (some false))) = some r := by rw [if_pos rfl] at H; exact H
      clear H
      have H := H1
      clear H1
      replace H := Option.bind_eq_some_iff.mp H
      obtain ⟨t186, A130, H⟩ := H
      replace H : (if t186 = true then (if t174 = 2 then (some (t180 == 2)) else (some false)) else (some false)) = some r := H
      have A13 := Aside0.mk A130
      clear A130
      by_cases c14 : t186 = true
      ·subst c14
       have H1 : (if t174 = 2 then (some (t180 == 2)) else (some false)) = some r := by rw [if_pos rfl] at H; exact H
       clear H
       have H := H1
       clear H1
       by_cases c15 : t174 = 2
       ·rw [if_pos c15] at H
        have c15b0 : (t174 == 2) = true := beq_iff_eq.mpr c15
        have c15b1 : (t174 != 2) = false := bne_eq_false_iff_eq.mpr c15
        clear c15
        obtain rfl := Option.some.inj H
        go_enter Try.func9, Try.ntmps9
        go_wp2_with (first | ((with_reducible refine gate_dst (N := 7) rfl ?_); refine Kd.R_lit k53 _ 53 ?hg (N := 7) ?hd (xs := ([(⟨0, 0, 0, 0, false, false⟩ : S53)] : List (S53))) (inner := [.int .u8 0, .int .i64 0, .int .i64 0, .int .i64 0, .bool false, .bool false]) (ok := fun _ => True) (okp := fun _ => True) ?hr ?hp (fun _ hk => hk) trivial (Below.refl _ _) (Nat.le_refl _) (by simp) ?_; (case hd => rfl); (case hg => rfl); (case hr => first | (go_simp; done) | (go_simp; rfl)); (case hp => exact (Reps.c6 (show Kd.M k53 _ _ _ (⟨0, 0, 0, 0, false, false⟩ : S53) [.int .u8 0, .int .i64 0, .int .i64 0, .int .i64 0, .bool false, .bool false] from (k53_mkM _ _ _ (⟨0, 0, 0, 0, false, false⟩ : S53) )) (Reps.none _ _))); intro v171 w16 ho17 hb hg_ hnew_; clear hg_ hnew_; (first | rw [← Ny170.out] at ho17 | (simp only [Int.reduceToNat] at ho17; rw [← Ny170.out] at ho17)); have HO172 := Aside0.mk (Kd.R_lower ho17 (below_size (bw HB))); replace HB := bh HB hb; clear hb ho17; obtain ⟨Ao18, co18, eo18⟩ := Kd.R_slice HO172.out; subst eo18) | ((with_reducible refine gate_callee (f := 15) rfl ?_); refine goesB (some 8) rfl rfl Try.func15 #[.slice none 0 0, .slice Ao18 y170.length co18] rfl ?_; (refine (ellipsis_Whole.calls k _ _ ([] : List (S78)) _ _ y170 t173 t174 _ ?side1 ?side2 ?side3 ?side4 A1.out).mono ?_); (case side1 => exact Kd.C_nil _ _); (case side2 => exact Nat.le_refl _); (case side3 => repeat (first | exact (Kd.R_reads' HO172.out).2.2 | (with_reducible refine Kd.C_alloc ?_ _) | (with_reducible refine Kd.C_drewN ?_ _) | (with_reducible refine Kd.C_drew ?_))); (case side4 => exact (Kd.R_reads' HO172.out).2.1); rintro e w19 ⟨v175, rfl, ho0, hb⟩; refine ⟨_, rfl, ?_⟩; replace HO172 := Aside0.mk (Kd.R_below (rx HO172) hb); have HO176 := Aside0.mk (Kd.R_lower ho0 (below_size (bw HB))); replace HB := bh HB hb; (try clear hb); (try clear hb2); (try clear hk); (try clear hi); (try clear ho0); (try clear A1)) | ((with_reducible refine gate_callee (f := 12) rfl ?_); refine goesB (some 13) rfl rfl Try.func12 #[.slice none 0 0, .slice none 0 0, .agg #[.int .i64 0, .int .i64 1, .bool false]] rfl ?_; (refine (ellipsis_Places.calls k _ _ ([] : List (S53)) _ _ ([] : List Bool) 0 1 false t177 t180 _ ?side1 ?side2 ?side3 ?side4 A2.out).mono ?_); (case side1 => exact Kd.C_nil _ _); (case side2 => exact Nat.le_refl _); (case side3 => exact Kd.C_nil _ _); (case side4 => exact Nat.le_refl _); rintro e w20 ⟨v178, rfl, ho0, hb⟩; refine ⟨_, rfl, ?_⟩; replace HO172 := Aside0.mk (Kd.R_below (rx HO172) hb); replace HO176 := Aside0.mk (Kd.R_below (rx HO176) hb); have HO179 := Aside0.mk (Kd.R_lower ho0 (below_size (bw HB))); replace HB := bh HB hb; (try clear hb); (try clear hb2); (try clear hk); (try clear hi); (try clear ho0); (try clear A2)) | ((with_reducible refine gate_callee (f := 22) rfl ?_); refine goesB (some 16) rfl rfl Try.func22 #[.int .i64 60, .int .i64 6, .int .i64 60, .bool false] rfl ?_; (with_reducible refine (stickfullaw26_is.calls k 60 6 60 false true _ A3.out).mono ?_); rintro e w21 ⟨rfl, hb⟩; refine ⟨_, rfl, ?_⟩; replace HO172 := Aside0.mk (Kd.R_below (rx HO172) hb); replace HO176 := Aside0.mk (Kd.R_below (rx HO176) hb); replace HO179 := Aside0.mk (Kd.R_below (rx HO179) hb); replace HB := bh HB hb; (try clear hb); (try clear hb2); (try clear hk); (try clear hi)) | (go_at_call 22; (with_reducible refine (stickfullaw26_is.calls k 59 4 40 true true _ A5.out).mono ?_); rintro e w22 ⟨rfl, hb⟩; replace HO172 := Aside0.mk (Kd.R_below (rx HO172) hb); replace HO176 := Aside0.mk (Kd.R_below (rx HO176) hb); replace HO179 := Aside0.mk (Kd.R_below (rx HO179) hb); replace HB := bh HB hb; (try clear hb); (try clear hb2); (try clear hk); (try clear hi)) | (go_at_call 22; (with_reducible refine (stickfullaw26_is.calls k 50 4 40 true true _ A7.out).mono ?_); rintro e w23 ⟨rfl, hb⟩; replace HO172 := Aside0.mk (Kd.R_below (rx HO172) hb); replace HO176 := Aside0.mk (Kd.R_below (rx HO176) hb); replace HO179 := Aside0.mk (Kd.R_below (rx HO179) hb); replace HB := bh HB hb; (try clear hb); (try clear hb2); (try clear hk); (try clear hi)) | (go_at_call 22; (with_reducible refine (stickfullaw26_is.calls k 45 2 20 true true _ A9.out).mono ?_); rintro e w24 ⟨rfl, hb⟩; replace HO172 := Aside0.mk (Kd.R_below (rx HO172) hb); replace HO176 := Aside0.mk (Kd.R_below (rx HO176) hb); replace HO179 := Aside0.mk (Kd.R_below (rx HO179) hb); replace HB := bh HB hb; (try clear hb); (try clear hb2); (try clear hk); (try clear hi)) | (go_at_call 22; (with_reducible refine (stickfullaw26_is.calls k 30 2 20 true true _ A11.out).mono ?_); rintro e w25 ⟨rfl, hb⟩; replace HO172 := Aside0.mk (Kd.R_below (rx HO172) hb); replace HO176 := Aside0.mk (Kd.R_below (rx HO176) hb); replace HO179 := Aside0.mk (Kd.R_below (rx HO179) hb); replace HB := bh HB hb; (try clear hb); (try clear hb2); (try clear hk); (try clear hi)) | (go_at_call 22; (with_reducible refine (stickfullaw26_is.calls k 9 0 0 true true _ A13.out).mono ?_); rintro e w26 ⟨rfl, hb⟩; replace HO172 := Aside0.mk (Kd.R_below (rx HO172) hb); replace HO176 := Aside0.mk (Kd.R_below (rx HO176) hb); replace HO179 := Aside0.mk (Kd.R_below (rx HO179) hb); replace HB := bh HB hb; (try clear hb); (try clear hb2); (try clear hk); (try clear hi)))
        go_ret
        exact ⟨by first | rfl | (simp [errW_none, errW_some] <;> rfl) | (simp [*, errW_none, errW_some] <;> rfl), by repeat (first | (with_reducible first | exact HB.out | apply below_alloc | apply pw_below_drewN | apply below_drew1) | exact HB.out)⟩
       ·rw [if_neg c15] at H
        have c15b0 : (t174 == 2) = false := beq_eq_false_iff_ne.mpr c15
        have c15b1 : (t174 != 2) = true := bne_iff_ne.mpr c15
        exact absurd ((Option.some.inj H).trans HR_.out) (by decide)
      ·replace c14 := Bool.eq_false_iff.mpr c14
       subst c14
       have H1 : (some false) = some r := by rw [if_neg (show ¬ (false = true) by decide)] at H; exact H
       clear H
       have H := H1
       clear H1
       exact absurd ((Option.some.inj H).trans HR_.out) (by decide)
     ·replace c12 := Bool.eq_false_iff.mpr c12
      subst c12
      have H1 : (some false) = some r := by rw [if_neg (show ¬ (false = true) by decide)] at H; exact H
      clear H
      have H := H1
      clear H1
      exact absurd ((Option.some.inj H).trans HR_.out) (by decide)
    ·replace c10 := Bool.eq_false_iff.mpr c10
     subst c10
     have H1 : (some false) = some r := by rw [if_neg (show ¬ (false = true) by decide)] at H; exact H
     clear H
     have H := H1
     clear H1
     exact absurd ((Option.some.inj H).trans HR_.out) (by decide)
   ·replace c8 := Bool.eq_false_iff.mpr c8
    subst c8
    have H1 : (some false) = some r := by rw [if_neg (show ¬ (false = true) by decide)] at H; exact H
    clear H
    have H := H1
    clear H1
    exact absurd ((Option.some.inj H).trans HR_.out) (by decide)
  ·replace c6 := Bool.eq_false_iff.mpr c6
   subst c6
   have H1 : (some false) = some r := by rw [if_neg (show ¬ (false = true) by decide)] at H; exact H
   clear H
   have H := H1
   clear H1
   exact absurd ((Option.some.inj H).trans HR_.out) (by decide)
 ·replace c4 := Bool.eq_false_iff.mpr c4
  subst c4
  have H1 : (some false) = some r := by rw [if_neg (show ¬ (false = true) by decide)] at H; exact H
  clear H
  have H := H1
  clear H1
  exact absurd ((Option.some.inj H).trans HR_.out) (by decide)

theorem stickfullaw26_head.true_ (k : Nat) (r : Bool) (h : stickfullaw26_head.f k = some r) : r = true := by
 have h1 : stickfullaw26_head.f 100 = some true := by kernel_rfl
 have a := at_rounds stickfullaw26_head.mono (Nat.le_max_left k 100) h
 have b := at_rounds stickfullaw26_head.mono (Nat.le_max_right k 100) h1
 rw [a] at b
 exact Option.some.inj b
theorem stickfullaw26_head.calls (k : Nat)  (r : Bool) (w : World) (h : stickfullaw26_head.f k  = some r) :
  Calls Try.prog 9 #[] w fun e w' => e = .returned (.bool r) ∧ Below w.heap.size w w' := stickfullaw26_head.calls_t k r w h (stickfullaw26_head.true_ k r h)

-- NOT PRINTED: function 50 (stickfulref04_rows)

end Go.Proofs.Ytkaiibipcnlaiaa.HEllW
